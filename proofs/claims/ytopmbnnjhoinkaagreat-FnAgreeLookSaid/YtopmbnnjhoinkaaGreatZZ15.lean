/-
  What 'LAc' rests on (texts of this seat put together: BaseG NZ).
  Conditions: none.
-/
import Derived.Test.YtopmbnnjhoinkaaGreatZZ6
import Derived.WalkKit
namespace Go.Proofs.YtopmbnnjhoinkaaGreat
open Go Go.RowKit
set_option linter.unusedVariables false
set_option linter.unusedSimpArgs false
set_option maxHeartbeats 1000000
section
variable {P : Program}
theorem run_appG {α : Type} {enc : α → List Value} {sz0 : Nat} (hl : ∀ x, (enc x).length = sz0) (hsz : 0 < sz0) (h1c : ∀ x, ∀ u ∈ enc x, u.oneCell' = true) (t ty e : TypeId) (i : TypeInfo) (z : Value) (bytes : Nat) (ht : P.underlying t = some (.slice e)) (hi : P.info? e = some i) (hz : i.zero = some z)
    (hsize : i.size = sz0) (hby : i.bytes = bytes) (hzs : z.cells.size = sz0) {w : World} {lo : Nat} {v : Value} {xs : List α} (hown : Own enc sz0 e w lo v xs)
    (a : Addr) (ys : List α) (c : Nat) (hnews : ∀ j u, (ys.flatMap enc)[j]? = some u → w.cell? (a.add j) = some u)
    (h63 : xs.length + ys.length ≤ maxLen) (hbytes : (xs.length + ys.length) * bytes ≤ 140737488355328) (hbase : lo ≤ w.heap.size) :
    ∃ v' w', (Builtin.append_ #[t, t] ty #[v, .slice (some a) ys.length c]).run P w = .ok v' w' ∧ Own enc sz0 e w' lo v' (xs ++ ys) ∧ w.grownBy w' v.ownBlock ∧ (v'.ownBlock = v.ownBlock ∨ v'.ownBlock = some w.heap.size) := by
  subst hsize
  subst hby
  have hsmall : xs.length + ys.length ≤ 9223372036854775807 := by simp only [maxLen] at h63; omega
  have hxl := flatMap_len hl xs
  have hyl := flatMap_len hl ys
  have h1 : ∀ u ∈ ys.flatMap enc, u.oneCell' = true := fun u hu => by
    obtain ⟨x, _, hx⟩ := List.mem_flatMap.1 hu
    exact h1c x u hx
  have hlen : (xs.flatMap enc ++ ys.flatMap enc).length = (xs.length + ys.length) * i.size := by rw [List.length_append, hxl, hyl, Nat.add_mul]
  have grown : ∀ (old : Nat), old < xs.length + ys.length → ∀ (row : Option Nat),
      Own enc i.size e (w.drew.alloc (.cells ((xs.flatMap enc).toArray ++ (ys.flatMap enc).toArray ++ Builtin.zeroCells z.cells (grownCap w (xs.length + ys.length) old e - (xs.length + ys.length))) e)) lo
        (.slice (some ⟨w.heap.size, 0, none⟩) (xs.length + ys.length) (grownCap w (xs.length + ys.length) old e)) (xs ++ ys) ∧
      w.grownBy (w.drew.alloc (.cells ((xs.flatMap enc).toArray ++ (ys.flatMap enc).toArray ++ Builtin.zeroCells z.cells (grownCap w (xs.length + ys.length) old e - (xs.length + ys.length))) e)) row := by
    intro old ho row
    have hge := grownCap_ge w (xs.length + ys.length) old e
    have hcm : grownCap w (xs.length + ys.length) old e ≤ maxLen := grownCap_le_maxLen w (xs.length + ys.length) old e h63
    refine ⟨.inr ⟨w.heap.size, grownCap w (xs.length + ys.length) old e, _, by rw [List.length_append], hbase, heap_alloc_new w.drew _, by rw [List.length_append]; exact hge, hcm, ?_, ?_⟩, ⟨rfl, rfl, rfl, by simp, fun k hk _ => Below.heap_alloc w.drew _ k hk⟩⟩
    · apply Nat.le_of_eq
      simp only [Array.size_append, List.size_toArray, size_zeroCells, hzs, hxl, hyl, ← Nat.add_mul]
      congr 1
      omega
    · rw [List.length_append, List.flatMap_append]
      simp only [Array.toList_append, List.append_assoc]
      rw [← List.append_assoc, ← hlen]
      exact List.take_left
  rcases hown with ⟨rfl, h0⟩ | ⟨g, cap, cur, rfl, hbg, hg, hnc, hcm, hcs, htake⟩
  · have hx : xs = [] := List.eq_nil_of_length_eq_zero h0
    subst hx
    by_cases hm : ys.length = 0
    · have hn : ys = [] := List.eq_nil_of_length_eq_zero hm
      subst hn
      refine ⟨.slice none 0 0, w, ?_, by simpa using Own.nil_ enc i.size e w lo, ⟨rfl, rfl, rfl, Nat.le_refl _, fun _ _ _ => rfl⟩, .inl rfl⟩
      simp [Builtin.append_, run_underlying ht, sizeOf, typeInfo, hi, Builtin.lenOf, Builtin.firstCells, loadCells, loadCellsFrom]
    · have hr := run_append_nil (P := P) w t ty e i z ht hi hz a ys.length c (ys.flatMap enc) hyl hnews (by omega) (by simp at hsmall; omega) (by have hb := hbytes; simp only [List.length_nil, Nat.zero_add] at hb; omega)
      have hgr := grown 0 (by simp; omega) (Value.ownBlock (.slice none 0 0))
      simp only [List.length_nil, Nat.zero_add, List.nil_append, List.flatMap_nil, Array.empty_append] at hgr ⊢
      exact ⟨_, _, hr, hgr.1, hgr.2, .inr rfl⟩
  · by_cases hroom : xs.length + ys.length ≤ cap
    · have hfit : xs.length * i.size + (ys.flatMap enc).length ≤ cur.size := by
        have := Nat.mul_le_mul_right i.size hroom
        rw [hyl, ← Nat.add_mul]; omega
      have hr := run_append_room (P := P) w t ty e i ht hi g xs.length cap cur hg a ys.length c (ys.flatMap enc) hyl hnews h1 hroom hfit
      refine ⟨_, _, hr, .inr ⟨g, cap, _, by rw [List.length_append], hbg, setRow_heap w g cur _ e _ hg, by rw [List.length_append]; exact hroom, hcm, ?_, ?_⟩, ⟨rfl, rfl, rfl, by simp, fun k _ hk => setRow_other w g k _ (fun e => hk (by simp [Value.ownBlock, e]))⟩, .inl rfl⟩
      · simp only [List.size_toArray, List.length_append, List.length_take, List.length_drop, Array.length_toList]
        omega
      · rw [List.length_append, List.flatMap_append, htake, ← hlen]
        exact List.take_left
    · have holds : ∀ j u, (xs.flatMap enc)[j]? = some u → w.cell? ((⟨g, 0, none⟩ : Addr).add j) = some u := by
        intro j u hu
        have h5 := hu
        rw [← htake, List.getElem?_take] at h5
        split at h5
        · have e2 : ((⟨g, 0, none⟩ : Addr).add j) = ⟨g, j, none⟩ := by
            unfold Addr.add
            split
            · rename_i h0; rw [h0]
            · simp
          rw [e2]
          simp only [World.cell?, hg]
          simpa using h5
        · cases h5
      have hr := run_append_grow (P := P) w t ty e i z ht hi hz ⟨g, 0, none⟩ xs.length cap (xs.flatMap enc) hxl holds a ys.length c (ys.flatMap enc) hyl hnews (by omega) (by omega) (growslice_fits (by omega) hbytes)
      have hgr := grown cap (by omega) (Value.ownBlock (.slice (some ⟨g, 0, none⟩) xs.length cap))
      exact ⟨_, _, hr, hgr.1, hgr.2, .inr rfl⟩
end
def Apart {α : Type} (R : ElR α) (w : World) (lo : Nat) (g : Option Nat) (cs : List Value) (t : α) : Prop :=
  ∃ lo' hi', lo ≤ lo' ∧ hi' ≤ w.heap.size ∧ (∀ k, g = some k → hi' ≤ k ∨ k < lo') ∧ R w lo' hi' cs t
def Grow {α : Type} (sz : Nat) (e : TypeId) (R : ElR α) (w : World) (lo : Nat) (v : Value) (ts : List α) : Prop :=
  ∃ ls : List (Cs sz), Own Cs.val sz e w lo v ls ∧ ls.length = ts.length ∧ ∀ (i : Nat) (hl : i < ls.length) (ht : i < ts.length), Apart R w lo v.ownBlock ls[i].val ts[i]
section
variable {α : Type} {sz : Nat} {e : TypeId} {R : ElR α} {w w' : World} {lo : Nat} {v v' : Value} {ts : List α} {cs : List Value} {t : α} {g g' : Option Nat}
theorem Apart.keep (K : Kept R) (h : Apart R w lo g cs t) (hz : w.heap.size ≤ w'.heap.size) (hk : ∀ b, lo ≤ b → b < w.heap.size → g ≠ some b → w'.heap[b]? = w.heap[b]?) : Apart R w' lo g cs t := by
  obtain ⟨lo', hi', h1, h2, h3, h4⟩ := h
  refine ⟨lo', hi', h1, by omega, h3, K.keep h4 fun b hb hb2 => hk b (by omega) (by omega) ?_⟩
  intro hg
  have := h3 b hg
  omega
theorem Grow.nil_ (sz : Nat) (e : TypeId) (R : ElR α) (w : World) (lo : Nat) : Grow sz e R w lo (.slice none 0 0) [] := ⟨[], Own.nil_ _ _ _ _ _, rfl, fun i h => absurd h (by simp)⟩
theorem Grow.empty (sz : Nat) (e : TypeId) (R : ElR α) (w : World) : Grow sz e R (w.alloc (.cells #[] e)) w.heap.size (.slice (some ⟨w.heap.size, 0, none⟩) 0 0) [] :=
  ⟨[], by
    have := Own.of_row (enc := (Cs.val : Cs sz → List Value)) (sz := sz) (e := e) (w := w.alloc (.cells #[] e)) (lo := w.heap.size) (xs := []) (g := w.heap.size) (c := 0) (cur := #[]) (Nat.le_refl _) (heap_alloc_new w _) (Nat.le_refl _) (by simp [maxLen]) (by simp) (by simp)
    exact this, rfl, fun i h => absurd h (by simp)⟩
theorem Grow.form (h : Grow sz e R w lo v ts) : ∃ A c, v = .slice A ts.length c ∧ ts.length ≤ c ∧ c ≤ maxLen ∧ (A = none ∨ ∃ g, A = some ⟨g, 0, none⟩ ∧ lo ≤ g ∧ g < w.heap.size) := by
  obtain ⟨ls, h1, h2, _⟩ := h
  obtain ⟨A, c, h3, h4, h5, h6⟩ := h1.form
  rw [h2] at h3 h4
  exact ⟨A, c, h3, h4, h5, h6⟩
theorem Grow.keep (K : Kept R) (h : Grow sz e R w lo v ts) (hz : w.heap.size ≤ w'.heap.size) (hk : ∀ b, lo ≤ b → b < w.heap.size → w'.heap[b]? = w.heap[b]?) : Grow sz e R w' lo v ts := by
  obtain ⟨ls, h1, h2, h3⟩ := h
  exact ⟨ls, h1.keep (fun b hb => hk b (h1.lt b hb).1 (h1.lt b hb).2), h2, fun i hl ht => (h3 i hl ht).keep K hz fun b h4 h5 _ => hk b h4 h5⟩
theorem Grow.below (K : Kept R) {B : Nat} (h : Grow sz e R w lo v ts) (hb : Below B w w') (hB : w.heap.size ≤ B) : Grow sz e R w' lo v ts := h.keep K hb.size fun b _ h2 => hb.block b (by omega)
theorem Grow.mono (K : Kept R) {lo' : Nat} (h : Grow sz e R w lo v ts) (hl : lo' ≤ lo) : Grow sz e R w lo' v ts := by
  obtain ⟨ls, h1, h2, h3⟩ := h
  exact ⟨ls, h1.mono hl, h2, fun i hl ht => by
    obtain ⟨a, b, h4, h5, h6, h7⟩ := h3 i hl ht
    exact ⟨a, b, by omega, h5, h6, h7⟩⟩
theorem Grow.rdn (K : Kept R) {A : Option Addr} {n c : Nat} (h : Grow sz e R w lo (.slice A n c) ts) : RdN sz R w lo w.heap.size A n c ts := by
  obtain ⟨ls, h1, h2, h3⟩ := h
  obtain ⟨h4, h5, h6⟩ := h1.slAt Cs.len
  refine ⟨by omega, h5, h1.cap.2, fun hne => ?_⟩
  have hne' : ls ≠ [] := by
    intro h
    rw [h] at h2
    exact hne (List.eq_nil_of_length_eq_zero h2.symm)
  obtain ⟨b, off, rfl, h7, h8, h9⟩ := h6 hne'
  refine ⟨b, off, rfl, h7, h8, fun i hi => ?_⟩
  have hi' : i < ls.length := by omega
  obtain ⟨a, d, h10, h11, _, h13⟩ := h3 i hi' hi
  exact ⟨ls[i].val, ls[i].len, fun j u hu => h9 i ls[i] (List.getElem?_eq_getElem hi') j u hu, K.mono h13 h10 h11⟩
theorem Grow.snoc (K : Kept R) (h : Grow sz e R w lo v ts) {ls : List (Cs sz)} {c : Cs sz} (hls : ∀ (i : Nat) (hl : i < ls.length) (ht : i < ts.length), Apart R w lo v.ownBlock ls[i].val ts[i]) (hlen : ls.length = ts.length)
    (ho : Own Cs.val sz e w' lo v' (ls ++ [c])) (hg : w.grownBy w' v.ownBlock) (hloc : v'.ownBlock = v.ownBlock ∨ v'.ownBlock = some w.heap.size)
    {lo2 hi2 : Nat} (h1 : lo ≤ lo2) (h2 : hi2 ≤ w.heap.size) (h3 : ∀ k, v.ownBlock = some k → hi2 ≤ k ∨ k < lo2) (h4 : R w lo2 hi2 c.val t) : Grow sz e R w' lo v' (ts ++ [t]) := by
  have hz := hg.size
  have move : ∀ {cs : List Value} {u : α}, Apart R w lo v.ownBlock cs u → Apart R w' lo v'.ownBlock cs u := by
    intro cs u hu
    have h5 : Apart R w' lo v.ownBlock cs u := hu.keep K hz fun b _ hb hne => hg.block b hb (fun e => hne e.symm)
    obtain ⟨a, b, h6, h7, h8, h9⟩ := h5
    obtain ⟨a', b', h6', h7', h8', h9'⟩ := hu
    rcases hloc with e | e
    · exact ⟨a, b, h6, h7, by rw [e]; exact h8, h9⟩
    · refine ⟨a', b', h6', by omega, fun k hk => ?_, K.keep h9' fun x hx hx2 => hg.block x (by omega) (fun e2 => by have := h8' x e2.symm; omega)⟩
      rw [e] at hk
      injection hk with hk
      omega
  refine ⟨ls ++ [c], ho, by simp [hlen], fun i hl ht => ?_⟩
  by_cases hi : i < ls.length
  · have hi2 : i < ts.length := by omega
    rw [List.getElem_append_left hi, List.getElem_append_left hi2]
    exact move (hls i hi hi2)
  · have hi3 : i = ls.length := by simp at hl; omega
    subst hi3
    have e1 : (ls ++ [c])[ls.length]'hl = c := by simp
    have e2 : (ts ++ [t])[ls.length]'ht = t := by
      rw [List.getElem_append_right (by omega)]
      simp [hlen]
    rw [e1, e2]
    exact move ⟨lo2, hi2, h1, h2, h3, h4⟩
end
end Go.Proofs.YtopmbnnjhoinkaaGreat
namespace Go.Proofs.YtopmbnnjhoinkaaGreat.Shut
open Go.RowKit
theorem and_intro {a b : Bool} (h : a = true) (g : b = true) : (a && b) = true := by rw [h, g]; rfl
theorem laidOut : laidOutB Tryz.prog = true := by kernel_rfl
theorem rowed : mapsRowed Tryz.prog = true := by kernel_rfl
theorem heard : Tryz.prog.stopsHeard = true := by kernel_rfl
theorem enter : Tryz.prog.mayEnter = true := by kernel_rfl
theorem lifts : Tryz.prog.liftsFinal = Rows.fnAgreeLookRow.lifted := by kernel_rfl
theorem keys : Tryz.prog.plainKeys = Rows.fnAgreeLookRow.plainKeys := by kernel_rfl
theorem stops : (Tryz.prog.stops == []) = true := by kernel_rfl
theorem knobs : (Tryz.prog.stopKnobs == []) = true := by kernel_rfl
theorem make : (Tryz.prog.make == some Rows.fnAgreeLookRow.make) = true := by kernel_rfl
end Go.Proofs.YtopmbnnjhoinkaaGreat.Shut
