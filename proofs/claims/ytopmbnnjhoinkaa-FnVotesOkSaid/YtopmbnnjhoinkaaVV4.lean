/-
  What 'FVd' rests on (texts of this seat put together: BaseG NP NC NSw).
  Conditions: none.
-/
import Derived.Test.YtopmbnnjhoinkaaVV3
import Derived.Maps.OwnSet
import Derived.WalkKit
namespace Go.Proofs.Ytopmbnnjhoinkaa
open Go Go.RowKit
set_option linter.unusedVariables false
set_option linter.unusedSimpArgs false
set_option maxHeartbeats 1000000
section
variable {P : Program}
theorem run_appG {α : Type} {enc : α → List Value} {sz0 : Nat} (hl : ∀ x, (enc x).length = sz0) (hsz : 0 < sz0) (h1c : ∀ x, ∀ u ∈ enc x, u.oneCell' = true) (t ty e : TypeId) (i : TypeInfo) (z : Value) (bytes : Nat) (ht : P.underlying t = some (.slice e)) (hi : P.info? e = some i) (hz : i.zero = some z)
    (hsize : i.size = sz0) (hby : i.bytes = bytes) (hzs : z.cells.size = sz0) {w : World} {lo : Nat} {v : Value} {xs : List α} (hown : Own enc sz0 e w lo v xs)
    (a : Addr) (ys : List α) (c : Nat) (hnews : ∀ j u, (ys.flatMap enc)[j]? = some u → w.cell? (a.add j) = some u)
    (h63 : xs.length + ys.length ≤ maxLen) (hbytes : (xs.length + ys.length) * bytes ≤ 140737488355328) (hbase : lo ≤ w.heap.size) :
    ∃ v' w', (Builtin.append_ #[t, t] ty #[v, .slice (some a) ys.length c]).run P w = .ok v' w' ∧ Own enc sz0 e w' lo v' (xs ++ ys) ∧ w.grownBy w' v.ownBlock ∧ (v'.ownBlock = v.ownBlock ∨ v'.ownBlock = some w.heap.size) := by
  subst hsize
  subst hby
  have hsmall : xs.length + ys.length ≤ 9223372036854775807 := by simp only [maxLen] at h63; omega
  have hxl := flatMap_len hl xs
  have hyl := flatMap_len hl ys
  have h1 : ∀ u ∈ ys.flatMap enc, u.oneCell' = true := fun u hu => by
    obtain ⟨x, _, hx⟩ := List.mem_flatMap.1 hu
    exact h1c x u hx
  have hlen : (xs.flatMap enc ++ ys.flatMap enc).length = (xs.length + ys.length) * i.size := by rw [List.length_append, hxl, hyl, Nat.add_mul]
  have grown : ∀ (old : Nat), old < xs.length + ys.length → ∀ (row : Option Nat),
      Own enc i.size e (w.drew.alloc (.cells ((xs.flatMap enc).toArray ++ (ys.flatMap enc).toArray ++ Builtin.zeroCells z.cells (grownCap w (xs.length + ys.length) old e - (xs.length + ys.length))) e)) lo
        (.slice (some ⟨w.heap.size, 0, none⟩) (xs.length + ys.length) (grownCap w (xs.length + ys.length) old e)) (xs ++ ys) ∧
      w.grownBy (w.drew.alloc (.cells ((xs.flatMap enc).toArray ++ (ys.flatMap enc).toArray ++ Builtin.zeroCells z.cells (grownCap w (xs.length + ys.length) old e - (xs.length + ys.length))) e)) row := by
    intro old ho row
    have hge := grownCap_ge w (xs.length + ys.length) old e
    have hcm : grownCap w (xs.length + ys.length) old e ≤ maxLen := grownCap_le_maxLen w (xs.length + ys.length) old e h63
    refine ⟨.inr ⟨w.heap.size, grownCap w (xs.length + ys.length) old e, _, by rw [List.length_append], hbase, heap_alloc_new w.drew _, by rw [List.length_append]; exact hge, hcm, ?_, ?_⟩, ⟨rfl, rfl, rfl, by simp, fun k hk _ => Below.heap_alloc w.drew _ k hk⟩⟩
    · apply Nat.le_of_eq
      simp only [Array.size_append, List.size_toArray, size_zeroCells, hzs, hxl, hyl, ← Nat.add_mul]
      congr 1
      omega
    · rw [List.length_append, List.flatMap_append]
      simp only [Array.toList_append, List.append_assoc]
      rw [← List.append_assoc, ← hlen]
      exact List.take_left
  rcases hown with ⟨rfl, h0⟩ | ⟨g, cap, cur, rfl, hbg, hg, hnc, hcm, hcs, htake⟩
  · have hx : xs = [] := List.eq_nil_of_length_eq_zero h0
    subst hx
    by_cases hm : ys.length = 0
    · have hn : ys = [] := List.eq_nil_of_length_eq_zero hm
      subst hn
      refine ⟨.slice none 0 0, w, ?_, by simpa using Own.nil_ enc i.size e w lo, ⟨rfl, rfl, rfl, Nat.le_refl _, fun _ _ _ => rfl⟩, .inl rfl⟩
      simp [Builtin.append_, run_underlying ht, sizeOf, typeInfo, hi, Builtin.lenOf, Builtin.firstCells, loadCells, loadCellsFrom]
    · have hr := run_append_nil (P := P) w t ty e i z ht hi hz a ys.length c (ys.flatMap enc) hyl hnews (by omega) (by simp at hsmall; omega) (by have hb := hbytes; simp only [List.length_nil, Nat.zero_add] at hb; omega)
      have hgr := grown 0 (by simp; omega) (Value.ownBlock (.slice none 0 0))
      simp only [List.length_nil, Nat.zero_add, List.nil_append, List.flatMap_nil, Array.empty_append] at hgr ⊢
      exact ⟨_, _, hr, hgr.1, hgr.2, .inr rfl⟩
  · by_cases hroom : xs.length + ys.length ≤ cap
    · have hfit : xs.length * i.size + (ys.flatMap enc).length ≤ cur.size := by
        have := Nat.mul_le_mul_right i.size hroom
        rw [hyl, ← Nat.add_mul]; omega
      have hr := run_append_room (P := P) w t ty e i ht hi g xs.length cap cur hg a ys.length c (ys.flatMap enc) hyl hnews h1 hroom hfit
      refine ⟨_, _, hr, .inr ⟨g, cap, _, by rw [List.length_append], hbg, setRow_heap w g cur _ e _ hg, by rw [List.length_append]; exact hroom, hcm, ?_, ?_⟩, ⟨rfl, rfl, rfl, by simp, fun k _ hk => setRow_other w g k _ (fun e => hk (by simp [Value.ownBlock, e]))⟩, .inl rfl⟩
      · simp only [List.size_toArray, List.length_append, List.length_take, List.length_drop, Array.length_toList]
        omega
      · rw [List.length_append, List.flatMap_append, htake, ← hlen]
        exact List.take_left
    · have holds : ∀ j u, (xs.flatMap enc)[j]? = some u → w.cell? ((⟨g, 0, none⟩ : Addr).add j) = some u := by
        intro j u hu
        have h5 := hu
        rw [← htake, List.getElem?_take] at h5
        split at h5
        · have e2 : ((⟨g, 0, none⟩ : Addr).add j) = ⟨g, j, none⟩ := by
            unfold Addr.add
            split
            · rename_i h0; rw [h0]
            · simp
          rw [e2]
          simp only [World.cell?, hg]
          simpa using h5
        · cases h5
      have hr := run_append_grow (P := P) w t ty e i z ht hi hz ⟨g, 0, none⟩ xs.length cap (xs.flatMap enc) hxl holds a ys.length c (ys.flatMap enc) hyl hnews (by omega) (by omega) (growslice_fits (by omega) hbytes)
      have hgr := grown cap (by omega) (Value.ownBlock (.slice (some ⟨g, 0, none⟩) xs.length cap))
      exact ⟨_, _, hr, hgr.1, hgr.2, .inr rfl⟩
end
def Apart {α : Type} (R : ElR α) (w : World) (lo : Nat) (g : Option Nat) (cs : List Value) (t : α) : Prop :=
  ∃ lo' hi', lo ≤ lo' ∧ hi' ≤ w.heap.size ∧ (∀ k, g = some k → hi' ≤ k ∨ k < lo') ∧ R w lo' hi' cs t
def Grow {α : Type} (sz : Nat) (e : TypeId) (R : ElR α) (w : World) (lo : Nat) (v : Value) (ts : List α) : Prop :=
  ∃ ls : List (Cs sz), Own Cs.val sz e w lo v ls ∧ ls.length = ts.length ∧ ∀ (i : Nat) (hl : i < ls.length) (ht : i < ts.length), Apart R w lo v.ownBlock ls[i].val ts[i]
section
variable {α : Type} {sz : Nat} {e : TypeId} {R : ElR α} {w w' : World} {lo : Nat} {v v' : Value} {ts : List α} {cs : List Value} {t : α} {g g' : Option Nat}
theorem Apart.keep (K : Kept R) (h : Apart R w lo g cs t) (hz : w.heap.size ≤ w'.heap.size) (hk : ∀ b, lo ≤ b → b < w.heap.size → g ≠ some b → w'.heap[b]? = w.heap[b]?) : Apart R w' lo g cs t := by
  obtain ⟨lo', hi', h1, h2, h3, h4⟩ := h
  refine ⟨lo', hi', h1, by omega, h3, K.keep h4 fun b hb hb2 => hk b (by omega) (by omega) ?_⟩
  intro hg
  have := h3 b hg
  omega
theorem Grow.nil_ (sz : Nat) (e : TypeId) (R : ElR α) (w : World) (lo : Nat) : Grow sz e R w lo (.slice none 0 0) [] := ⟨[], Own.nil_ _ _ _ _ _, rfl, fun i h => absurd h (by simp)⟩
theorem Grow.empty (sz : Nat) (e : TypeId) (R : ElR α) (w : World) : Grow sz e R (w.alloc (.cells #[] e)) w.heap.size (.slice (some ⟨w.heap.size, 0, none⟩) 0 0) [] :=
  ⟨[], by
    have := Own.of_row (enc := (Cs.val : Cs sz → List Value)) (sz := sz) (e := e) (w := w.alloc (.cells #[] e)) (lo := w.heap.size) (xs := []) (g := w.heap.size) (c := 0) (cur := #[]) (Nat.le_refl _) (heap_alloc_new w _) (Nat.le_refl _) (by simp [maxLen]) (by simp) (by simp)
    exact this, rfl, fun i h => absurd h (by simp)⟩
theorem Grow.form (h : Grow sz e R w lo v ts) : ∃ A c, v = .slice A ts.length c ∧ ts.length ≤ c ∧ c ≤ maxLen ∧ (A = none ∨ ∃ g, A = some ⟨g, 0, none⟩ ∧ lo ≤ g ∧ g < w.heap.size) := by
  obtain ⟨ls, h1, h2, _⟩ := h
  obtain ⟨A, c, h3, h4, h5, h6⟩ := h1.form
  rw [h2] at h3 h4
  exact ⟨A, c, h3, h4, h5, h6⟩
theorem Grow.keep (K : Kept R) (h : Grow sz e R w lo v ts) (hz : w.heap.size ≤ w'.heap.size) (hk : ∀ b, lo ≤ b → b < w.heap.size → w'.heap[b]? = w.heap[b]?) : Grow sz e R w' lo v ts := by
  obtain ⟨ls, h1, h2, h3⟩ := h
  exact ⟨ls, h1.keep (fun b hb => hk b (h1.lt b hb).1 (h1.lt b hb).2), h2, fun i hl ht => (h3 i hl ht).keep K hz fun b h4 h5 _ => hk b h4 h5⟩
theorem Grow.below (K : Kept R) {B : Nat} (h : Grow sz e R w lo v ts) (hb : Below B w w') (hB : w.heap.size ≤ B) : Grow sz e R w' lo v ts := h.keep K hb.size fun b _ h2 => hb.block b (by omega)
theorem Grow.mono (K : Kept R) {lo' : Nat} (h : Grow sz e R w lo v ts) (hl : lo' ≤ lo) : Grow sz e R w lo' v ts := by
  obtain ⟨ls, h1, h2, h3⟩ := h
  exact ⟨ls, h1.mono hl, h2, fun i hl ht => by
    obtain ⟨a, b, h4, h5, h6, h7⟩ := h3 i hl ht
    exact ⟨a, b, by omega, h5, h6, h7⟩⟩
theorem Grow.rdn (K : Kept R) {A : Option Addr} {n c : Nat} (h : Grow sz e R w lo (.slice A n c) ts) : RdN sz R w lo w.heap.size A n c ts := by
  obtain ⟨ls, h1, h2, h3⟩ := h
  obtain ⟨h4, h5, h6⟩ := h1.slAt Cs.len
  refine ⟨by omega, h5, h1.cap.2, fun hne => ?_⟩
  have hne' : ls ≠ [] := by
    intro h
    rw [h] at h2
    exact hne (List.eq_nil_of_length_eq_zero h2.symm)
  obtain ⟨b, off, rfl, h7, h8, h9⟩ := h6 hne'
  refine ⟨b, off, rfl, h7, h8, fun i hi => ?_⟩
  have hi' : i < ls.length := by omega
  obtain ⟨a, d, h10, h11, _, h13⟩ := h3 i hi' hi
  exact ⟨ls[i].val, ls[i].len, fun j u hu => h9 i ls[i] (List.getElem?_eq_getElem hi') j u hu, K.mono h13 h10 h11⟩
end
end Go.Proofs.Ytopmbnnjhoinkaa
namespace Go.Proofs.Ytopmbnnjhoinkaa
open Go.RowKit
set_option linter.unusedVariables false
set_option linter.unusedSimpArgs false
set_option maxHeartbeats 1000000
def goodC (ts : List ClaimT) (i : Nat) : Prop := ∃ h : i < ts.length, okCl ts[i] = true ∧ ∀ h0 : 0 < i, ts[i - 1].1 < ts[i].1
def okCls (ts : List ClaimT) : Prop := ∀ i, i < ts.length → goodC ts i
instance (ts : List ClaimT) (i : Nat) : Decidable (goodC ts i) := by unfold goodC; infer_instance
instance (ts : List ClaimT) : Decidable (okCls ts) := by unfold okCls; infer_instance
def goodV (ts : List VoteT) (i : Nat) : Prop := ∃ h : i < ts.length, inB ts[i].1 0 3 = true ∧ okCls ts[i].2 ∧ ∀ h0 : 0 < i, ts[i - 1].1 < ts[i].1
def okVs (ts : List VoteT) : Prop := ∀ i, i < ts.length → goodV ts i
instance (ts : List VoteT) (i : Nat) : Decidable (goodV ts i) := by unfold goodV; infer_instance
instance (ts : List VoteT) : Decidable (okVs ts) := by unfold okVs; infer_instance
theorem allTo_succ {G : Nat → Prop} {k : Nat} (h : ∀ i, i < k → G i) (hk : G k) : ∀ i, i < k + 1 → G i := fun i hi => by
  by_cases h2 : i < k
  · exact h i h2
  · obtain rfl : i = k := by omega
    exact hk
def okMsg (m : MsgT) : Bool :=
  if m.1 = 1 then (m.2.1 == 0) && ((m.2.2.1 == 0) && ((m.2.2.2.1 == 0) && (okR m.2.2.2.2.1 && decide (m.2.2.2.2.2.1.length + m.2.2.2.2.2.2.length = 0))))
  else if !inB m.2.1 0 3 || !inB m.2.2.1 0 6 then false
  else if m.1 = 2 then inB m.2.2.2.1 1 5 && (okR m.2.2.2.2.1 && decide (m.2.2.2.2.2.1.length + m.2.2.2.2.2.2.length = 0))
  else if m.1 = 3 ∨ m.1 = 4 then inB m.2.2.2.1 1 5 && (okN m.2.2.2.2.1 && decide (m.2.2.2.2.2.1.length + m.2.2.2.2.2.2.length = 0))
  else if m.1 = 5 then (m.2.2.2.1 == 0) && (noneR m.2.2.2.2.1 && (decide (okCls m.2.2.2.2.2.1) && decide (m.2.2.2.2.2.2.length = 0)))
  else if m.1 = 6 then (m.2.2.2.1 == 0) && (noneR m.2.2.2.2.1 && (decide (m.2.2.2.2.2.1.length = 0) && decide (okVs m.2.2.2.2.2.2)))
  else false
def clsOf (vs : List VoteT) : List ClaimT := vs.flatMap fun v => v.2
def topOf (cs : List ClaimT) : Int := cs.foldl (fun t c => if t < c.1 then c.1 else t) 0
abbrev PickS := Bool × Int × ReqV
def pickStep (seq : Int) (s : PickS) (c : ClaimT) : PickS := if c.1 = seq ∧ (s.1 = false ∨ s.2.1 < c.2.1) then (true, c.2.1, c.2.2) else s
def pickS (seq : Int) (cs : List ClaimT) : PickS := cs.foldl (pickStep seq) (false, 0, (0, 0, 0, 0, 0))
def pickOf (cs : List ClaimT) (seq : Int) : ReqV := (pickS seq cs).2.2
def reachB (seq : Int) (cs : List ClaimT) : Bool := cs.any fun c => decide (seq ≤ c.1)
theorem topOf_snoc (cs : List ClaimT) (c : ClaimT) : topOf (cs ++ [c]) = if topOf cs < c.1 then c.1 else topOf cs := by rw [topOf, List.foldl_append]; rfl
theorem rev_ind {α : Type} {P : List α → Prop} (h0 : P []) (h1 : ∀ xs x, P xs → P (xs ++ [x])) (xs : List α) : P xs := by
  have key : ∀ ys : List α, P ys.reverse := by
    intro ys
    induction ys with
    | nil => exact h0
    | cons y ys ih => rw [List.reverse_cons]; exact h1 _ _ ih
  have := key xs.reverse
  rwa [List.reverse_reverse] at this
theorem topOf_nonneg (cs : List ClaimT) : 0 ≤ topOf cs := by
  refine rev_ind (P := fun cs => 0 ≤ topOf cs) (by simp [topOf]) (fun cs c ih => ?_) cs
  rw [topOf_snoc]; split <;> omega
theorem topOf_le {cs : List ClaimT} {c : ClaimT} (h : c ∈ cs) : c.1 ≤ topOf cs := by
  revert h
  refine rev_ind (P := fun cs => c ∈ cs → c.1 ≤ topOf cs) (by simp) (fun cs d ih h => ?_) cs
  rw [topOf_snoc]
  rcases List.mem_append.1 h with h | h
  · have := ih h; split <;> omega
  · simp at h; subst h; split <;> omega
theorem topOf_mem (cs : List ClaimT) : topOf cs = 0 ∨ ∃ c ∈ cs, c.1 = topOf cs := by
  refine rev_ind (P := fun cs => topOf cs = 0 ∨ ∃ c ∈ cs, c.1 = topOf cs) (.inl rfl) (fun cs d ih => ?_) cs
  rw [topOf_snoc]
  split
  · exact .inr ⟨d, by simp, rfl⟩
  · rcases ih with h | ⟨c, h, h2⟩
    · exact .inl h
    · exact .inr ⟨c, by simp [h], h2⟩
theorem reach_iff {seq : Int} (h : 1 ≤ seq) (cs : List ClaimT) : reachB seq cs = decide (seq ≤ topOf cs) := by
  rw [Bool.eq_iff_iff]
  simp only [reachB, List.any_eq_true, decide_eq_true_eq]
  constructor
  · rintro ⟨c, h1, h2⟩
    exact Int.le_trans h2 (topOf_le h1)
  · intro h1
    rcases topOf_mem cs with h2 | ⟨c, h2, h3⟩
    · omega
    · exact ⟨c, h2, by omega⟩
def leadOf (v : Int) : Int := v % 4
def saidOf (kind : Int) (c : ClaimT) (k : Int) (m : MsgT) : Bool := decide (m.1 = kind ∧ m.2.1 = k ∧ m.2.2.1 = c.2.1 ∧ m.2.2.2.1 = c.1 ∧ m.2.2.2.2.1 = c.2.2)
def offers (c : ClaimT) (m : MsgT) : Bool := decide (m.2.1 = leadOf c.2.1 ∧ m.2.2.1 = c.2.1 ∧ ((m.1 = 2 ∧ m.2.2.2.1 = c.1 ∧ m.2.2.2.2.1 = c.2.2) ∨ (m.1 = 6 ∧ c.1 ≤ topOf (clsOf m.2.2.2.2.2.2) ∧ pickOf (clsOf m.2.2.2.2.2.2) c.1 = c.2.2)))
def offered (ms : List MsgT) (c : ClaimT) : Bool := ms.any (offers c)
def countOf (ms : List MsgT) (kind : Int) (c : ClaimT) (but : Int) : Nat := ((List.range 4).filter fun (k : Nat) => decide ((k : Int) ≠ but) && ms.any (saidOf kind c (k : Int))).length
def readyL (ms : List MsgT) (c : ClaimT) : Bool := offered ms c && decide (2 ≤ countOf ms 3 c (leadOf c.2.1))
end Go.Proofs.Ytopmbnnjhoinkaa
namespace Go.Proofs.Ytopmbnnjhoinkaa
open Go.RowKit Rg
set_option linter.unusedVariables false
set_option linter.unusedSimpArgs false
set_option maxHeartbeats 1000000
theorem below_drewN (w : World) (q : Nat) : Below w.heap.size w (w.drewN q) := ⟨rfl, rfl, rfl, Nat.le_refl _, fun _ _ => rfl⟩
theorem below_drewN' {B : Nat} {a w : World} (h : Below B a w) (q : Nat) : Below B a (w.drewN q) := ⟨h.os, h.tape, h.output, h.size, h.block⟩
theorem run_neq_claim (r s : ClaimT) (w : World) : (binOp .neq 27 (.agg #[.int .i64 r.1, .int .i64 r.2.1, .int .i64 r.2.2.1, .int .i64 r.2.2.2.1, .int .i64 r.2.2.2.2.1, .int .i64 r.2.2.2.2.2.1, .int .i64 r.2.2.2.2.2.2]) (.agg #[.int .i64 s.1, .int .i64 s.2.1, .int .i64 s.2.2.1, .int .i64 s.2.2.2.1, .int .i64 s.2.2.2.2.1, .int .i64 s.2.2.2.2.2.1, .int .i64 s.2.2.2.2.2.2])).run Try.prog w = .ok (.bool (!decide (r = s))) w := by
  obtain ⟨p, q, a, b, c, x, y⟩ := r
  obtain ⟨p', q', a', b', c', x', y'⟩ := s
  go_simp
  by_cases h0 : p = p' <;> by_cases h6 : q = q' <;> by_cases h1 : a = a' <;> by_cases h2 : b = b' <;> by_cases h3 : c = c' <;> by_cases h4 : x = x' <;> by_cases h5 : y = y' <;> simp [*]
theorem take_ne {α : Type} {xs ys : List α} {k : Nat} (hx : k < xs.length) (hy : k < ys.length) (h : ¬ xs[k] = ys[k]) : ¬ xs = ys := fun e => by subst e; exact h rfl
theorem l3SameClaims_c (A B : Option Addr) (n m c d lo hi lo' hi' : Nat) (xs ys : List ClaimT) (w : World) (hs : RdN 7 clR w lo hi A n c xs) (hs' : RdN 7 clR w lo' hi' B m d ys) :
    Calls Try.prog 96 #[.slice A n c, .slice B m d] w fun e w' => e = .returned (.bool (decide (xs = ys))) ∧ ∃ q, w' = w.drewN q := by
  have hn' := hide hs.len
  have hm' := hide hs'.len
  have hc1 := hs.cap
  have hc2 := hs.max
  have hd1 := hs'.cap
  have hd2 := hs'.max
  unfold maxLen at hc2 hd2
  by_cases hnm : n = m
  · subst hnm
    go_enter Try.func96, Try.ntmps96
    go_wp2
    go_loopw [5] (fun i wr => ∃ k : Nat, k ≤ n ∧ i = .int .i64 k ∧ Hid (xs.take k = ys.take k) ∧ ∃ q, wr = w.drewN q) (fun i _ => n - (intOf i).toNat)
    case atStart => exact ⟨0, Nat.zero_le _, rfl, rfl, 0, rfl⟩
    case round =>
      obtain ⟨k, hk, rfl, he, q, rfl⟩ := hrel
      by_cases hlt : k < n
      · have hlx : k < xs.length := by have := hn'.out; omega
        have hly : k < ys.length := by have := hm'.out; omega
        obtain ⟨b, off, rfl, hlo, hbh⟩ := hs.addr hlx
        obtain ⟨b', off', rfl, hlo', hbh'⟩ := hs'.addr hly
        obtain ⟨a1, a2, a3, a4, a5, a6, a7⟩ := hs.claim hlx
        obtain ⟨b1, b2, b3, b4, b5, b6, b7⟩ := hs'.claim hly
        have hne := fun w => run_neq_claim xs[k] ys[k] w
        cases e : decide (xs[k] = ys[k])
        · simp only [e] at hne
          have e' := hide (of_decide_eq_false e)
          go_wp2
          refine wp_region_T (fun _ => True) [] [] [] [0, 1, 2, 3, 4, 5, 6, 7, 8] (by kernel_rfl) (by kernel_rfl) (by kernel_rfl) trivial ?_; simp only [pickL, List.getElem?_cons_succ, List.getElem?_cons_zero]
          go_wp2_with (first
            | ((refine no_implicit_lambda% (g24_ ?_)); intro K hK) | (refine no_implicit_lambda% (g1_ ?_)) | ((refine no_implicit_lambda% (g2_ ?_)); intro K hK) | (refine no_implicit_lambda% (g3_ ?_))
            | fail)
          go_ret
          exact ⟨by simp [take_ne hlx hly e'.out], q + 1, rfl⟩
        · simp only [e] at hne
          have e' := hide (of_decide_eq_true e)
          go_wp2
          refine wp_region_T (fun _ => True) [] [] [] [0, 1, 2, 3, 4, 5, 6, 7, 8] (by kernel_rfl) (by kernel_rfl) (by kernel_rfl) trivial ?_; simp only [pickL, List.getElem?_cons_succ, List.getElem?_cons_zero]
          go_wp2_with (first
            | ((refine no_implicit_lambda% (g24_ ?_)); intro K hK) | (refine no_implicit_lambda% (g1_ ?_)) | ((refine no_implicit_lambda% (g2_ ?_)); intro K hK) | (refine no_implicit_lambda% (g3_ ?_))
            | fail)
          go_roundw
          case rel => exact ⟨k + 1, by omega, by go_num, take_eq_succ xs ys k hlx hly he.out e'.out, q + 1, rfl⟩
          case measure => simp [intOf]; omega
      · obtain rfl : k = n := by omega
        go_wp2
        go_ret
        have e1 := he.out
        rw [List.take_of_length_le (by rw [hn'.out]; omega), List.take_of_length_le (by rw [hm'.out]; omega)] at e1
        exact ⟨by simp [e1], q, rfl⟩
  · have hne : ¬ xs = ys := fun h => by subst h; have := hn'.out; have := hm'.out; omega
    have hne' : ((n : Int) != (m : Int)) = true := by simp; omega
    go_enter Try.func96, Try.ntmps96
    go_wp2
    go_ret
    exact ⟨by simp [hne], 0, rfl⟩
theorem equalClaims_c (A B : Option Addr) (n m c d lo hi lo' hi' : Nat) (xs ys : List ClaimT) (w : World) (hs : RdN 7 clR w lo hi A n c xs) (hs' : RdN 7 clR w lo' hi' B m d ys) :
    Calls Try.prog 32 #[.slice A n c, .slice B m d] w fun e w' => e = .returned (.bool (decide (xs = ys))) ∧ ∃ q, w' = w.drewN q := by
  have hn' := hide hs.len
  have hm' := hide hs'.len
  have hc1 := hs.cap
  have hc2 := hs.max
  have hd1 := hs'.cap
  have hd2 := hs'.max
  unfold maxLen at hc2 hd2
  by_cases hnm : n = m
  · subst hnm
    go_enter Try.func32, Try.ntmps32
    go_wp2
    go_loopw [13, 5] (fun i _ wr => ∃ k : Nat, k ≤ n ∧ i = .int .i64 k ∧ Hid (xs.take k = ys.take k) ∧ ∃ q, wr = w.drewN q) (fun i _ _ => n - (intOf i).toNat)
    case atStart => exact ⟨0, Nat.zero_le _, rfl, rfl, 0, rfl⟩
    case round =>
      obtain ⟨k, hk, rfl, he, q, rfl⟩ := hrel
      by_cases hlt : k < n
      · have hlx : k < xs.length := by have := hn'.out; omega
        have hly : k < ys.length := by have := hm'.out; omega
        obtain ⟨b, off, rfl, hlo, hbh⟩ := hs.addr hlx
        obtain ⟨b', off', rfl, hlo', hbh'⟩ := hs'.addr hly
        obtain ⟨a1, a2, a3, a4, a5, a6, a7⟩ := hs.claim hlx
        obtain ⟨b1, b2, b3, b4, b5, b6, b7⟩ := hs'.claim hly
        have hne := fun w => run_neq_claim xs[k] ys[k] w
        cases e : decide (xs[k] = ys[k])
        · simp only [e] at hne
          have e' := hide (of_decide_eq_false e)
          go_wp2
          refine wp_region_T (fun _ => True) [] [] [] [0, 1, 2, 3, 4, 5, 6, 7, 8] (by kernel_rfl) (by kernel_rfl) (by kernel_rfl) trivial ?_; simp only [pickL, List.getElem?_cons_succ, List.getElem?_cons_zero]
          go_wp2_with (first
            | ((refine no_implicit_lambda% (g24_ ?_)); intro K hK) | (refine no_implicit_lambda% (g1_ ?_)) | ((refine no_implicit_lambda% (g2_ ?_)); intro K hK) | (refine no_implicit_lambda% (g3_ ?_))
            | fail)
          go_ret
          exact ⟨by simp [take_ne hlx hly e'.out], q + 1, rfl⟩
        · simp only [e] at hne
          have e' := hide (of_decide_eq_true e)
          go_wp2
          refine wp_region_T (fun _ => True) [] [] [] [0, 1, 2, 3, 4, 5, 6, 7, 8] (by kernel_rfl) (by kernel_rfl) (by kernel_rfl) trivial ?_; simp only [pickL, List.getElem?_cons_succ, List.getElem?_cons_zero]
          go_wp2_with (first
            | ((refine no_implicit_lambda% (g24_ ?_)); intro K hK) | (refine no_implicit_lambda% (g1_ ?_)) | ((refine no_implicit_lambda% (g2_ ?_)); intro K hK) | (refine no_implicit_lambda% (g3_ ?_))
            | fail)
          go_roundw
          case rel => exact ⟨k + 1, by omega, by go_num, take_eq_succ xs ys k hlx hly he.out e'.out, q + 1, rfl⟩
          case measure => simp [intOf]; omega
      · obtain rfl : k = n := by omega
        go_wp2
        go_ret
        have e1 := he.out
        rw [List.take_of_length_le (by rw [hn'.out]; omega), List.take_of_length_le (by rw [hm'.out]; omega)] at e1
        exact ⟨by simp [e1], q, rfl⟩
  · have hne : ¬ xs = ys := fun h => by subst h; have := hn'.out; have := hm'.out; omega
    have hne' : ((n : Int) != (m : Int)) = true := by simp; omega
    go_enter Try.func32, Try.ntmps32
    go_wp2
    go_ret
    exact ⟨by simp [hne], 0, rfl⟩
theorem vote_ext {s t : VoteT} (h1 : s.1 = t.1) (h2 : s.2 = t.2) : s = t := Prod.ext h1 h2
theorem l3SameVotes_c (A B : Option Addr) (n m c d lo hi lo' hi' : Nat) (xs ys : List VoteT) (w : World) (hs : RdN 2 voteR w lo hi A n c xs) (hs' : RdN 2 voteR w lo' hi' B m d ys) :
    Calls Try.prog 97 #[.slice A n c, .slice B m d] w fun e w' => e = .returned (.bool (decide (xs = ys))) ∧ ∃ q, w' = w.drewN q := by
  have hn' := hide hs.len
  have hm' := hide hs'.len
  have hc1 := hs.cap
  have hc2 := hs.max
  have hd1 := hs'.cap
  have hd2 := hs'.max
  unfold maxLen at hc2 hd2
  by_cases hnm : n = m
  · subst hnm
    go_enter Try.func97, Try.ntmps97
    go_wp2
    go_loopw [5] (fun i wr => ∃ k : Nat, k ≤ n ∧ i = .int .i64 k ∧ Hid (xs.take k = ys.take k) ∧ ∃ q, wr = w.drewN q) (fun i _ => n - (intOf i).toNat)
    case atStart => exact ⟨0, Nat.zero_le _, rfl, rfl, 0, rfl⟩
    case round =>
      obtain ⟨k, hk, rfl, he, q, rfl⟩ := hrel
      by_cases hlt : k < n
      · have hlx : k < xs.length := by have := hn'.out; omega
        have hly : k < ys.length := by have := hm'.out; omega
        obtain ⟨b, off, rfl, hlo, hbh⟩ := hs.addr hlx
        obtain ⟨b', off', rfl, hlo', hbh'⟩ := hs'.addr hly
        obtain ⟨A1, n1, c1, a1, a2, r1⟩ := hs.vote hlx
        obtain ⟨A2, n2, c2, b1, b2, r2⟩ := hs'.vote hly
        have hcl := fun W (h : Below w.heap.size w W) (h1 : RdN 7 clR W lo hi A1 n1 c1 xs[k].2) (h2 : RdN 7 clR W lo' hi' A2 n2 c2 ys[k].2) => l3SameClaims_c A1 A2 n1 n2 c1 c2 lo hi lo' hi' xs[k].2 ys[k].2 W h1 h2
        have hcl' := hide hcl
        clear hcl
        have rr1 : RdN 7 clR (w.drewN q).drew lo hi A1 n1 c1 xs[k].2 := r1.keep (flat_kept _) (fun _ _ _ => rfl)
        have rr2 : RdN 7 clR (w.drewN q).drew lo' hi' A2 n2 c2 ys[k].2 := r2.keep (flat_kept _) (fun _ _ _ => rfl)
        cases e0 : (xs[k].1 == ys[k].1)
        · have e' : Hid (¬ xs[k] = ys[k]) := hide (fun h => by rw [h] at e0; simp at e0)
          have e1 : (xs[k].1 != ys[k].1) = true := by simp [bne, e0]
          go_wp2
          refine wp_region_T (fun _ => True) [] [] [] [0, 1, 2, 3, 4, 5, 6, 7, 8, 9, 10, 11, 12, 13, 14, 15, 16, 17, 18, 19, 20, 21, 22, 23, 24] (by kernel_rfl) (by kernel_rfl) (by kernel_rfl) trivial ?_; simp only [pickL, List.getElem?_cons_succ, List.getElem?_cons_zero]
          go_wp2_with (first
            | ((refine no_implicit_lambda% (g24_ ?_)); intro K hK) | (refine no_implicit_lambda% (g1_ ?_)) | ((refine no_implicit_lambda% (g2_ ?_)); intro K hK) | (refine no_implicit_lambda% (g3_ ?_))
            | fail)
          go_ret
          exact ⟨by simp [take_ne hlx hly e'.out], q + 1, rfl⟩
        · have e1 : (xs[k].1 != ys[k].1) = false := by simp [bne, e0]
          have e0' := hide e0
          go_wp2
          cases e : decide (xs[k].2 = ys[k].2)
          · have e' : Hid (¬ xs[k] = ys[k]) := hide (fun h => of_decide_eq_false e (by rw [h]))
            refine wp_region_T (fun _ => True) [] [] [] [0, 1, 2, 3, 4, 5, 6, 7, 8, 9, 10, 11, 12, 13, 14, 15, 16, 17, 18, 19, 20, 21, 22, 23, 24] (by kernel_rfl) (by kernel_rfl) (by kernel_rfl) trivial ?_; simp only [pickL, List.getElem?_cons_succ, List.getElem?_cons_zero]
            go_wp2_with (first
              | ((refine no_implicit_lambda% (g24_ ?_)); intro K hK) | (refine no_implicit_lambda% (g1_ ?_)) | ((refine no_implicit_lambda% (g2_ ?_)); intro K hK) | (refine no_implicit_lambda% (g3_ ?_))
              | (go_at_call 96; refine (hcl'.out _ (below_drewN' (below_drewN w q) 1) rr1 rr2).mono ?_; rintro e w1 ⟨rfl, q1, rfl⟩; rw [e])
              | fail)
            go_ret
            exact ⟨by simp [take_ne hlx hly e'.out], q + 1 + q1, rfl⟩
          · have e' : Hid (xs[k] = ys[k]) := hide (vote_ext (by simpa using e0'.out) (of_decide_eq_true e))
            refine wp_region_T (fun _ => True) [] [] [] [0, 1, 2, 3, 4, 5, 6, 7, 8, 9, 10, 11, 12, 13, 14, 15, 16, 17, 18, 19, 20, 21, 22, 23, 24] (by kernel_rfl) (by kernel_rfl) (by kernel_rfl) trivial ?_; simp only [pickL, List.getElem?_cons_succ, List.getElem?_cons_zero]
            go_wp2_with (first
              | ((refine no_implicit_lambda% (g24_ ?_)); intro K hK) | (refine no_implicit_lambda% (g1_ ?_)) | ((refine no_implicit_lambda% (g2_ ?_)); intro K hK) | (refine no_implicit_lambda% (g3_ ?_))
              | (go_at_call 96; refine (hcl'.out _ (below_drewN' (below_drewN w q) 1) rr1 rr2).mono ?_; rintro e w1 ⟨rfl, q1, rfl⟩; rw [e])
              | fail)
            go_roundw
            case rel => exact ⟨k + 1, by omega, by go_num, take_eq_succ xs ys k hlx hly he.out e'.out, q + 1 + q1, rfl⟩
            case measure => simp [intOf]; omega
      · obtain rfl : k = n := by omega
        go_wp2
        go_ret
        have e1 := he.out
        rw [List.take_of_length_le (by rw [hn'.out]; omega), List.take_of_length_le (by rw [hm'.out]; omega)] at e1
        exact ⟨by simp [e1], q, rfl⟩
  · have hne : ¬ xs = ys := fun h => by subst h; have := hn'.out; have := hm'.out; omega
    have hne' : ((n : Int) != (m : Int)) = true := by simp; omega
    go_enter Try.func97, Try.ntmps97
    go_wp2
    go_ret
    exact ⟨by simp [hne], 0, rfl⟩
end Go.Proofs.Ytopmbnnjhoinkaa
namespace Go.Proofs.Ytopmbnnjhoinkaa
open Go.RowKit Go.Maps
set_option linter.unusedVariables false
set_option linter.unusedSimpArgs false
set_option maxHeartbeats 1000000
def cnt4 (f : Int → Bool) : Nat := (if f 0 then 1 else 0) + (if f 1 then 1 else 0) + (if f 2 then 1 else 0) + (if f 3 then 1 else 0)
def key4 (k : Int) : Lit := .int .i64 k
structure SetD (D : DataW Unit) (f : Int → Bool) : Prop where
  tidy : Tidy D
  mem : ∀ k, 0 ≤ k → k ≤ 3 → Maps.has D (key4 k) = f k
  size : Maps.size D = cnt4 f
theorem setD_none : SetD (.map []) (fun _ => false) := ⟨tidy_empty, fun _ _ _ => rfl, rfl⟩
theorem key4_is (k : Int) : WideAt.IsKeyLit (key4 k) := trivial
theorem key4_ne {a b : Int} (h : a ≠ b) : key4 a ≠ key4 b := fun e => by injection e with _ e; exact h e
theorem SetD.put {D : DataW Unit} {f g : Int → Bool} {k : Int} (h : SetD D f) (h0 : 0 ≤ k) (h3 : k ≤ 3) (d : DataW Unit) (hg : ∀ j, 0 ≤ j → j ≤ 3 → g j = (f j || decide (j = k))) : SetD (D.put (key4 k) d) g := by
  refine ⟨h.tidy.put (key4_is k) d, fun j j0 j3 => ?_, ?_⟩
  · by_cases e : j = k
    · subst e
      rw [has_put_same h.tidy.isMap (key4_is _), hg j j0 j3]; simp
    · rw [has_put_other (key4_ne e), h.mem j j0 j3, hg j j0 j3]; simp [e]
  · rw [size_put h.tidy, h.mem k h0 h3, h.size]
    unfold cnt4
    rw [hg 0 (by omega) (by omega), hg 1 (by omega) (by omega), hg 2 (by omega) (by omega), hg 3 (by omega) (by omega)]
    obtain rfl | rfl | rfl | rfl : k = 0 ∨ k = 1 ∨ k = 2 ∨ k = 3 := by omega
    all_goals
      cases f 0 <;> cases f 1 <;> cases f 2 <;> cases f 3 <;> simp
theorem SetD.congr {D : DataW Unit} {f g : Int → Bool} (h : SetD D f) (hg : ∀ j, 0 ≤ j → j ≤ 3 → g j = f j) : SetD D g :=
  ⟨h.tidy, fun k h0 h3 => by rw [h.mem k h0 h3, hg k h0 h3], by
    rw [h.size]; unfold cnt4
    rw [hg 0 (by omega) (by omega), hg 1 (by omega) (by omega), hg 2 (by omega) (by omega), hg 3 (by omega) (by omega)]⟩
def saidBy (ms : List MsgT) (kind : Int) (c : ClaimT) (but : Int) (k : Int) : Bool := decide (k ≠ but) && ms.any (saidOf kind c k)
theorem cnt4_count (ms : List MsgT) (kind : Int) (c : ClaimT) (but : Int) : cnt4 (saidBy ms kind c but) = countOf ms kind c but := by
  have e : List.range 4 = [0, 1, 2, 3] := rfl
  have key : ∀ (f : Nat → Bool), ([0, 1, 2, 3].filter f).length = (if f 0 then 1 else 0) + (if f 1 then 1 else 0) + (if f 2 then 1 else 0) + (if f 3 then 1 else 0) := by
    intro f
    simp only [List.filter_cons, List.filter_nil]
    cases f 0 <;> cases f 1 <;> cases f 2 <;> cases f 3 <;> rfl
  unfold countOf
  rw [e, key]
  rfl
theorem saidBy_take (ms : List MsgT) (kind : Int) (c : ClaimT) (but : Int) (j : Nat) (hj : j < ms.length) (k : Int) : saidBy (ms.take (j + 1)) kind c but k = (saidBy (ms.take j) kind c but k || (decide (k ≠ but) && saidOf kind c k ms[j])) := by
  unfold saidBy
  rw [List.take_succ_eq_append_getElem hj, List.any_append]
  simp [Bool.and_or_distrib_left]
end Go.Proofs.Ytopmbnnjhoinkaa
