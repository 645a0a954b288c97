/-
  What 'FnPieceTake' draws. (Printed by gen_pye.py.)
-/
import Derived.Test.YtjhgcppjpolamaaDoorPYc
import Derived.Test.YtjhgcppjpolamaaDoorPL
import Derived.Test.YtjhgcppjpolamaaDoorPXh
import Derived.Test.YtjhgcppjpolamaaDoorBaseH
import Derived.Test.YtjhgcppjpolamaaDoorRegL
import Derived.Test.YtjhgcppjpolamaaDoorRegB
namespace Go.Proofs.YtjhgcppjpolamaaDoor
open Go.RowKit Rg
set_option linter.unusedVariables false
set_option linter.unusedSimpArgs false
/-- The parts of an element lie in blocks from lo on, that are not the row's own. -/
def Apart {α : Type} (R : ElR α) (w : World) (lo : Nat) (g : Option Nat) (cs : List Value) (t : α) : Prop :=
  ∃ lo' hi', lo ≤ lo' ∧ hi' ≤ w.heap.size ∧ (∀ k, g = some k → hi' ≤ k ∨ k < lo') ∧ R w lo' hi' cs t
/-- A slice of the call's own whose elements hold slices. -/
def Grow {α : Type} (sz : Nat) (e : TypeId) (R : ElR α) (w : World) (lo : Nat) (v : Value) (ts : List α) : Prop :=
  ∃ ls : List (Cs sz), Own Cs.val sz e w lo v ls ∧ ls.length = ts.length ∧ ∀ (i : Nat) (hl : i < ls.length) (ht : i < ts.length), Apart R w lo v.ownBlock ls[i].val ts[i]
section
variable {α : Type} {sz : Nat} {e : TypeId} {R : ElR α} {w w' : World} {lo : Nat} {v v' : Value} {ts : List α} {cs : List Value} {t : α} {g g' : Option Nat}
theorem Apart.keep (K : Kept R) (h : Apart R w lo g cs t) (hz : w.heap.size ≤ w'.heap.size) (hk : ∀ b, lo ≤ b → b < w.heap.size → g ≠ some b → w'.heap[b]? = w.heap[b]?) : Apart R w' lo g cs t := by
  obtain ⟨lo', hi', h1, h2, h3, h4⟩ := h
  refine ⟨lo', hi', h1, by omega, h3, K.keep h4 fun b hb hb2 => hk b (by omega) (by omega) ?_⟩
  intro hg
  have := h3 b hg
  omega
theorem Grow.nil_ (sz : Nat) (e : TypeId) (R : ElR α) (w : World) (lo : Nat) : Grow sz e R w lo (.slice none 0 0) [] := ⟨[], Own.nil_ _ _ _ _ _, rfl, fun i h => absurd h (by simp)⟩
theorem Grow.empty (sz : Nat) (e : TypeId) (R : ElR α) (w : World) : Grow sz e R (w.alloc (.cells #[] e)) w.heap.size (.slice (some ⟨w.heap.size, 0, none⟩) 0 0) [] :=
  ⟨[], by
    have := Own.of_row (enc := (Cs.val : Cs sz → List Value)) (sz := sz) (e := e) (w := w.alloc (.cells #[] e)) (lo := w.heap.size) (xs := []) (g := w.heap.size) (c := 0) (cur := #[]) (Nat.le_refl _) (heap_alloc_new w _) (Nat.le_refl _) (by simp [maxLen]) (by simp) (by simp)
    exact this, rfl, fun i h => absurd h (by simp)⟩
theorem Grow.form (h : Grow sz e R w lo v ts) : ∃ A c, v = .slice A ts.length c ∧ ts.length ≤ c ∧ c ≤ maxLen ∧ (A = none ∨ ∃ g, A = some ⟨g, 0, none⟩ ∧ lo ≤ g ∧ g < w.heap.size) := by
  obtain ⟨ls, h1, h2, _⟩ := h
  obtain ⟨A, c, h3, h4, h5, h6⟩ := h1.form
  rw [h2] at h3 h4
  exact ⟨A, c, h3, h4, h5, h6⟩
theorem Grow.keep (K : Kept R) (h : Grow sz e R w lo v ts) (hz : w.heap.size ≤ w'.heap.size) (hk : ∀ b, lo ≤ b → b < w.heap.size → w'.heap[b]? = w.heap[b]?) : Grow sz e R w' lo v ts := by
  obtain ⟨ls, h1, h2, h3⟩ := h
  exact ⟨ls, h1.keep (fun b hb => hk b (h1.lt b hb).1 (h1.lt b hb).2), h2, fun i hl ht => (h3 i hl ht).keep K hz fun b h4 h5 _ => hk b h4 h5⟩
theorem Grow.below (K : Kept R) {B : Nat} (h : Grow sz e R w lo v ts) (hb : Below B w w') (hB : w.heap.size ≤ B) : Grow sz e R w' lo v ts := h.keep K hb.size fun b _ h2 => hb.block b (by omega)
theorem Grow.mono (K : Kept R) {lo' : Nat} (h : Grow sz e R w lo v ts) (hl : lo' ≤ lo) : Grow sz e R w lo' v ts := by
  obtain ⟨ls, h1, h2, h3⟩ := h
  exact ⟨ls, h1.mono hl, h2, fun i hl ht => by
    obtain ⟨a, b, h4, h5, h6, h7⟩ := h3 i hl ht
    exact ⟨a, b, by omega, h5, h6, h7⟩⟩
theorem Grow.rdn (K : Kept R) {A : Option Addr} {n c : Nat} (h : Grow sz e R w lo (.slice A n c) ts) : RdN sz R w lo w.heap.size A n c ts := by
  obtain ⟨ls, h1, h2, h3⟩ := h
  obtain ⟨h4, h5, h6⟩ := h1.slAt Cs.len
  refine ⟨by omega, h5, h1.cap.2, fun hne => ?_⟩
  have hne' : ls ≠ [] := by
    intro h
    rw [h] at h2
    exact hne (List.eq_nil_of_length_eq_zero h2.symm)
  obtain ⟨b, off, rfl, h7, h8, h9⟩ := h6 hne'
  refine ⟨b, off, rfl, h7, h8, fun i hi => ?_⟩
  have hi' : i < ls.length := by omega
  obtain ⟨a, d, h10, h11, _, h13⟩ := h3 i hi' hi
  exact ⟨ls[i].val, ls[i].len, fun j u hu => h9 i ls[i] (List.getElem?_eq_getElem hi') j u hu, K.mono h13 h10 h11⟩
/-- Behind an append: 'w' the world ahead of it, the new element's parts in blocks from 'lo2' on. -/
theorem Grow.snoc (K : Kept R) (h : Grow sz e R w lo v ts) {ls : List (Cs sz)} {c : Cs sz} (hls : ∀ (i : Nat) (hl : i < ls.length) (ht : i < ts.length), Apart R w lo v.ownBlock ls[i].val ts[i]) (hlen : ls.length = ts.length)
    (ho : Own Cs.val sz e w' lo v' (ls ++ [c])) (hg : w.grownBy w' v.ownBlock) (hloc : v'.ownBlock = v.ownBlock ∨ v'.ownBlock = some w.heap.size)
    {lo2 hi2 : Nat} (h1 : lo ≤ lo2) (h2 : hi2 ≤ w.heap.size) (h3 : ∀ k, v.ownBlock = some k → hi2 ≤ k ∨ k < lo2) (h4 : R w lo2 hi2 c.val t) : Grow sz e R w' lo v' (ts ++ [t]) := by
  have hz := hg.size
  have move : ∀ {cs : List Value} {u : α}, Apart R w lo v.ownBlock cs u → Apart R w' lo v'.ownBlock cs u := by
    intro cs u hu
    have h5 : Apart R w' lo v.ownBlock cs u := hu.keep K hz fun b _ hb hne => hg.block b hb (fun e => hne e.symm)
    obtain ⟨a, b, h6, h7, h8, h9⟩ := h5
    obtain ⟨a', b', h6', h7', h8', h9'⟩ := hu
    rcases hloc with e | e
    · exact ⟨a, b, h6, h7, by rw [e]; exact h8, h9⟩
    · refine ⟨a', b', h6', by omega, fun k hk => ?_, K.keep h9' fun x hx hx2 => hg.block x (by omega) (fun e2 => by have := h8' x e2.symm; omega)⟩
      rw [e] at hk
      injection hk with hk
      omega
  refine ⟨ls ++ [c], ho, by simp [hlen], fun i hl ht => ?_⟩
  by_cases hi : i < ls.length
  · have hi2 : i < ts.length := by omega
    rw [List.getElem_append_left hi, List.getElem_append_left hi2]
    exact move (hls i hi hi2)
  · have hi3 : i = ls.length := by simp at hl; omega
    subst hi3
    have e1 : (ls ++ [c])[ls.length]'hl = c := by simp
    have e2 : (ts ++ [t])[ls.length]'ht = t := by
      rw [List.getElem_append_right (by omega)]
      simp [hlen]
    rw [e1, e2]
    exact move ⟨lo2, hi2, h1, h2, h3, h4⟩
end
theorem Grow.lt {α : Type} {sz : Nat} {e : TypeId} {R : ElR α} {w : World} {lo : Nat} {v : Value} {ts : List α} (h : Grow sz e R w lo v ts) : ∀ k, v.ownBlock = some k → lo ≤ k ∧ k < w.heap.size := by
  obtain ⟨ls, h1, _⟩ := h
  exact h1.lt
theorem Grow.only {α : Type} {sz : Nat} {e : TypeId} {R : ElR α} {w w' : World} {lo g : Nat} {v : Value} {ts : List α} (K : Kept R) (h : Grow sz e R w lo v ts) (ho : Only w.heap.size (some g) w w') (hg : g < lo) : Grow sz e R w' lo v ts :=
  h.keep K ho.size fun b h1 h2 => ho.block b h2 (fun e => by injection e with e; omega)
theorem pieces_small (s : ByteArray) (h : s.size ≤ 1000) (i : Nat) (hi : i < (pieces s).length) : (pieces s)[i].size ≤ 1000 := by
  have h1 := sum_pieces s
  have h2 := sumS_take (pieces s) i hi
  have h3 := sumS_le (pieces s) (i + 1)
  omega
theorem proofR_i64 (xs : List ByteArray) (i : Int) : ∀ x ∈ proofR xs i, I64 x := by
  intro x hx
  unfold proofR at hx
  split at hx
  · exact (besides_sum _ (lvs xs) i.toNat rfl (lvs_sum xs) x hx).i64
  · simp at hx
theorem wants_le : ∀ (n i : Nat), wants n i ≤ n := by
  intro n
  induction n using Nat.strongRecOn with
  | _ n ih =>
    intro i
    by_cases h : n ≤ 1
    · rw [wants_one h]; omega
    · have := ih ((n + 1) / 2) (by omega) (i / 2)
      rw [wants_up h]
      split <;> omega
theorem proofR_len (xs : List ByteArray) (i : Int) : (proofR xs i).length ≤ 16 := by
  unfold proofR
  split
  · rename_i h
    rw [besides_len _ (lvs xs) i.toNat rfl]
    have := wants_le (lvs xs).length i.toNat
    have := lvs_len xs
    have := (okP_small h.1).1
    omega
  · simp

theorem pieces_small193 (s : ByteArray) (h : s.size ≤ 193) (i : Nat) (hi : i < (pieces s).length) : (pieces s)[i].size ≤ 193 := by
  have h1 := sum_pieces s
  have h2 := sumS_take (pieces s) i hi
  have h3 := sumS_le (pieces s) (i + 1)
  omega
theorem since_of {w0 w : World} (h : Below w0.heap.size w0 w) : Since w0 w := ⟨h.size, fun b hb => h.block b hb⟩
/-- One cell of one element is written. -/
theorem Grow.rd_set {w : World} {lo g n c k p : Nat} {ts : List PieceT} {u : Value} {t' : PieceT} (h : Grow 3 tP pieceR w lo (.slice (some ⟨g, 0, none⟩) n c) ts) (hk : k < ts.length) (h1 : ∀ (A : Option Addr) (n c : Nat), ([.int .i64 ts[k].1, .string ts[k].2.1, .slice A n c] : List Value).set p u = [.int .i64 t'.1, .string t'.2.1, .slice A n c]) (h2 : ts[k].2.2 = t'.2.2) (h3 : PieceG t') (hp : p < 3) :
    RdN 3 pieceR (w.setCell ⟨g, k * 3 + p, none⟩ u) lo w.heap.size (some ⟨g, 0, none⟩) n c (ts.set k t') := by
  obtain ⟨ls, ho, hll, hpa⟩ := h
  obtain ⟨hn, hnc, hs⟩ := ho.slAt Cs.len
  refine ⟨by rw [List.length_set]; omega, hnc, ho.cap.2, fun _ => ?_⟩
  have hkl : k < ls.length := by omega
  obtain ⟨b, off, he, hb1, hb2⟩ := hs.addr hkl
  injection he with he
  injection he with e1 e2
  subst e1; subst e2
  refine ⟨g, 0, rfl, hb1, hb2, fun i hi => ?_⟩
  have hi1 : i < ts.length := by simpa using hi
  have hi2 : i < ls.length := by omega
  obtain ⟨lo', hi', q1, q2, q3, A4, n4, c4, hval, hrd, hg⟩ := hpa i hi2 hi1
  have hq := q3 g rfl
  have hrd' : RdN 1 (flatR encI) (w.setCell ⟨g, k * 3 + p, none⟩ u) lo w.heap.size A4 n4 c4 ts[i].2.2 := (hrd.keep (flat_kept _) (fun b hb1 hb2 => Below.heap_setCell w ⟨g, k * 3 + p, none⟩ u b (by show b ≠ g; omega))).mono (flat_kept _) q1 q2
  have hcell := hs.at_ hi2
  by_cases hik : i = k
  · subst hik
    refine ⟨[.int .i64 t'.1, .string t'.2.1, .slice A4 n4 c4], rfl, fun j v hv => ?_, ?_⟩
    · have hv2 : ((ls[i].val).set p u)[j]? = some v := by rw [hval, h1]; exact hv
      have hpl : p < ls[i].val.length := by rw [Cs.len]; exact hp
      have hc := hcell p _ (List.getElem?_eq_getElem hpl)
      simp only [Nat.zero_add] at hc ⊢
      by_cases hj : j = p
      · subst hj
        rw [List.getElem?_set_self hpl] at hv2
        injection hv2 with hv2
        subst hv2
        exact World.cell?_setCell_same (h := hc) ..
      · rw [List.getElem?_set_ne (Ne.symm hj)] at hv2
        have hc2 := hcell j v hv2
        simp only [Nat.zero_add] at hc2
        exact (World.cell?_setCell_other (h := by intro h; injection h with _ h; omega) ..).trans hc2
    · rw [List.getElem_set_self]
      exact ⟨A4, n4, c4, rfl, by rw [← h2]; exact hrd', h3⟩
  · refine ⟨ls[i].val, ls[i].len, fun j v hv => ?_, ?_⟩
    · have hj : j < 3 := by have := (List.getElem?_eq_some_iff.1 hv).1; rw [Cs.len] at this; exact this
      exact (World.cell?_setCell_other (h := by intro h; injection h with _ h; omega) ..).trans (hcell j v hv)
    · rw [List.getElem_set_ne (Ne.symm hik)]
      exact ⟨A4, n4, c4, hval, hrd', hg⟩
theorem szPieces_of {ts : List PieceT} (hl : ts.length ≤ 200) (h : ∀ t ∈ ts, szPiece t ≤ 300) : szPieces ts ≤ 1048576 := by
  have key : ∀ l : List PieceT, (∀ t ∈ l, szPiece t ≤ 300) → (l.map szPiece).sum ≤ l.length * 300 := by
    intro l
    induction l with
    | nil => simp
    | cons t l ih =>
      intro h
      have h1 := h t (by simp)
      have h2 := ih (fun t ht => h t (by simp [ht]))
      simp only [List.map_cons, List.sum_cons, List.length_cons]
      omega
  have := key ts h
  unfold szPieces
  omega
/-- A drawn piece: small. -/
def Sml (t : PieceT) : Prop := szPiece t ≤ 300 ∧ 0 ≤ t.1 ∧ t.1 ≤ 300
/-- .. with a short proof of numbers. -/
def Sml2 (t : PieceT) : Prop := t.2.2.length ≤ 16 ∧ (∀ x ∈ t.2.2, I64 x) ∧ t.2.1.size ≤ 300
theorem Sml.of_set {ts : List PieceT} {k : Nat} {t' : PieceT} (h : ∀ t ∈ ts, Sml t) (h2 : szPiece t' ≤ 300) : ∀ t ∈ ts.set k t', szPiece t ≤ 300 := by
  intro t ht
  rcases List.mem_or_eq_of_mem_set ht with h3 | h3
  · exact (h t h3).1
  · rw [h3]; exact h2
/-- What 'DrawPieceTake' leaves. -/
def TakePost (w : World) (e : Ending) (w' : World) : Prop := ∃ (root many : Int) (A : Option Addr) (n c : Nat) (ts : List PieceT), e = .returned (.tuple #[.int .i64 root, .int .i64 many, .slice A n c]) ∧ szPieces ts ≤ 1048576 ∧ RdN 3 pieceR w' w.heap.size w'.heap.size A n c ts ∧ Below w.heap.size w w'
set_option maxRecDepth 100000 in
set_option maxHeartbeats 4000000 in
theorem DrawPieceTake_c (A : Option Addr) (n c : Nat) (bs : List Int) (w : World) (hn : n = bs.length) (hc : n ≤ c) (hcm : c ≤ maxLen) (hs : Sl encU 1 w 0 w.heap.size A bs) (hb : ∀ b ∈ bs, 0 ≤ b ∧ b < 256) :
    Calls Tryd.prog 34 #[.slice A n c] w fun e w' => TakePost w e w' := by
  have hn' := hide hn
  have hb' := hide hb
  clear hn hb
  go_enter Tryd.func34, Tryd.ntmps34
  go_wp2_with fail
  refine (l20Open_c A n c bs w hn'.out hc hcm hs hb'.out).mono ?_
  rintro e w1 ⟨rfl, hr1, hb1⟩
  have hl1 : w.heap.size < w1.heap.size := hr1.lt
  go_wp2_with fail
  refine (l20Long_c w.heap.size 0 w1 hr1 (by omega)).mono ?_
  rintro e w2 ⟨s, rfl, hsz, hr2, h2⟩
  have hb2 := hb1.trans (h2.toBelow hb1.size (fun k hk => by injection hk with hk; omega))
  have hz2 := h2.size
  have hpl := hide (pieces_len2 s)
  have hps := hide (pieces_small193 s (by omega))
  clear h2
  go_wp2_with fail
  refine (specPieceOf_c s w2 (by omega)).mono ?_
  rintro e w3 ⟨v3, rfl, hv3, hb3'⟩
  have hr3 := hr2.keep hb3'
  have hb3 := hb2.trans (hb3'.mono hb2.size)
  have hz3 := hb3'.size
  clear hb3'
  generalize pieces s = xs at *
  obtain ⟨A3, n3, c3, rfl, hn3⟩ := hv3.shape
  have hcap3 := hv3.cap
  have hn3' : n3 ≤ 194 := by have := hn3.out; have := hpl.out; omega
  unfold maxLen at hcap3
  have hs3 := (hv3.slAt encS_len).2.2
  have hgw2 : w.heap.size < w2.heap.size := hr2.lt
  have hg0 : Grow 3 tP pieceR (w3.alloc (.cells #[] tP)) w3.heap.size (.slice (some ⟨w3.heap.size, 0, none⟩) 0 0) [] := Grow.empty 3 tP pieceR w3
  have hbg0 := (Below.refl w3.heap.size w3).alloc (Nat.le_refl _) (.cells #[] tP)
  have hgl : w.heap.size < w3.heap.size := by have := hb1.size; omega
  clear hv3
  go_wp2
  go_loopw [7, 8] (fun ov iv wr => ∃ (k : Nat) (v : Value) (ts : List PieceT), k ≤ n3 ∧ iv = .int .i64 (k : Int) ∧ v = ov ∧ Grow 3 tP pieceR wr w3.heap.size v ts ∧ Hid (ts.length = k) ∧ Hid (∀ t ∈ ts, Sml t) ∧ Hid (∀ t ∈ ts, Sml2 t) ∧ Below w3.heap.size w3 wr) (fun _ iv _ => n3 - (intOf iv).toNat)
  case atStart => exact ⟨0, _, [], Nat.zero_le _, rfl, rfl, hg0, rfl, hide (by simp), hide (by simp), hbg0⟩
  case round =>
    obtain ⟨k, v, ts, hk, rfl, rfl, hgr, hlen, hsm, hpfl, hbr⟩ := hrel
    have hzr := hbr.size
    by_cases hlt : k < n3
    · have hlx : k < xs.length := by have := hn3.out; omega
      obtain ⟨b3, off3, rfl, hlo3, hbh3⟩ := hs3.addr hlx
      have ax := (hs3.below hbr (Nat.le_refl _)).str hlx
      have hxk := hps.out k hlx
      have hpi := hide (proofR_i64 xs (k : Int))
      have hpn := hide (proofR_len xs (k : Int))
      have hsD : Hid (Sl encS 1 wr.drew w2.heap.size w3.heap.size (some ⟨b3, off3, none⟩) xs) := hide (hs3.below (Below.drew hbr) (Nat.le_refl _))
      have hbl3 : b3 < wr.heap.size := by omega
      go_wp2
      refine wp_region_T (SinceB (w3.heap.size) _) [] [] [26, 27] [0, 1, 2, 3, 4, 5, 6, 7, 8, 9, 10, 11, 12] (by kernel_rfl) (by kernel_rfl) (by kernel_rfl) (SinceB.drew _ _) ?_; simp only [pickL, List.getElem?_cons_succ, List.getElem?_cons_zero]
      go_wp2_with (first
        | (go_at_call 24; refine (specPieceProof_c (some ⟨b3, off3, none⟩) n3 c3 w2.heap.size w3.heap.size xs (k : Int) wr.drew hn3.out (by omega) hsD.out hzr).mono ?_; rintro e w5 ⟨v5, rfl, ho5, hb5⟩; have hb5' : Below wr.heap.size wr w5 := (Below.drew (Below.refl _ wr)).trans hb5; obtain ⟨A5, n5, c5, rfl, hn5⟩ := ho5.shape; have hS5 : SinceB w3.heap.size wr w5 := (SinceB.refl _ wr).below hb5' hzr; have ax5 := keepc hb5' ax; have ax := ax5; have hgr5 := hgr.below piece_kept hb5' (Nat.le_refl _); have hzz5 := hb5'.size; obtain ⟨y, hy⟩ : ∃ y : Cs 3, y.val = [.int .i64 (k : Int), .string xs[k], .slice A5 n5 c5] := ⟨⟨[.int .i64 (k : Int), .string xs[k], .slice A5 n5 c5], rfl, by intro u hu; simp at hu; rcases hu with rfl | rfl | rfl <;> rfl⟩, rfl⟩; obtain ⟨ls, hown, hll, hpa⟩ := hgr5; have hgl5 := hide hgr.lt; have hy' := hide hy; have hll' := hide hll; have hpa' := hide hpa; have hsl5 := hide (sl_arr (enc := (Cs.val : Cs 3 → List Value)) Cs.len w5 #[.int .i64 (k : Int), .string xs[k], .slice A5 n5 c5] tP [y] (by simp [hy]) |>.mono (Nat.zero_le _) (Nat.le_refl _)); have ho5r := hide (ho5.rdn encI_len); have hb5h := hide hb5'; clear hy hll hpa ho5 hb5 hb5')
        | ((with_reducible refine wpT_xs0 ?_ ?_ ?_); (focus rfl); (focus rfl); intro K hK; refine wp_appG Cs.len (by omega) Cs.one _ _ 47 rfl tP _ 48 Tryd.underlying47 infoPiece rfl w3.heap.size v ls rfl (hown.alloc _) 0 _ _ [y] _ _ rfl rfl hsl5.out (by have := hll'.out; have := hlen.out; simp [maxLen]; omega) (by simp; omega) ?_; intro v8 w8 hw8 hg8 hb8 hloc8; have hw8' := hide hw8; have hg8' := hide hg8; have hb8' := hide hb8; have hloc8' := hide hloc8; have hS8 : SinceB w3.heap.size wr w8 := (SinceB.refl _ wr).below ((hb5h.out.mono hzr).trans (((Below.refl w5.heap.size w5).alloc (Nat.le_refl _) _ |>.mono (Nat.le_trans hzr hzz5)).trans hb8)) (Nat.le_refl _); clear hw8 hg8 hb8 hloc8; have hK := hK)
        | (with_reducible refine SinceB.and_ ?_ ?_; (focus (repeat (first | (with_reducible exact SinceB.refl _ _) | (with_reducible assumption) | (with_reducible refine SinceB.drewR ?_) | ((with_reducible refine SinceB.alloc ?_ ?_ _); rotate_left; (focus (first | (with_reducible assumption) | (simp; done) | (simp; omega) | omega))) | ((with_reducible refine SinceB.set ?_ ?_ _); rotate_left; (focus (first | omega | (simp; done) | (simp; omega))))))); intro hS) | ((with_reducible refine wpT_noL ?_ ?_); (focus (first | exact wanted_no _ _ _ rfl rfl rfl | exact wanted_un _ _ _ rfl rfl rfl)); simp only [setO, List.set_cons_succ, List.set_cons_zero]) | ((with_reducible refine wpT_q0 ?_ ?_ ?_ ?_); (focus rfl); (focus rfl); (focus rfl); intro K hK) | ((with_reducible refine wpT_i ?_ ?_); (focus (refine ⟨_, _, _, _, _, _, _, _, rfl, rfl, rfl, rfl, rfl, ?_⟩; omega)); intro K hK) | ((with_reducible apply wpT_lB); (focus rfl); (focus rfl); (focus rfl); (focus rfl); (focus (first | exact SinceB.drew _ _ | (with_reducible assumption))); (focus (simp <;> omega)); (focus go_simp); intro K hK) | ((with_reducible apply wpT_lwB); (focus exact wanted_yes _ _ _ rfl rfl rfl); (focus rfl); (focus rfl); (focus rfl); (focus (first | exact SinceB.drew _ _ | (with_reducible assumption))); (focus (simp <;> omega)); (focus go_simp); intro K hK) | ((with_reducible refine wpT_xs0 ?_ ?_ ?_); (focus rfl); (focus rfl); intro K hK) | ((with_reducible refine wpT_q1 ?_ ?_ ?_ ?_); (focus exact wanted_yes _ _ _ rfl rfl rfl); (focus rfl); (focus rfl); intro K hK) | ((with_reducible refine wpT_xs1 ?_ ?_ ?_); (focus exact wanted_yes _ _ _ rfl rfl rfl); (focus rfl); intro K hK) | ((with_reducible refine wpT_nil ?_); try dsimp only)
        | fail)
      have hA := (Below.refl w5.heap.size w5).alloc (Nat.le_refl _) (.cells #[.int .i64 (k : Int), .string xs[k], .slice A5 n5 c5] tP)
      have hgr8 : Grow 3 tP pieceR w8 w3.heap.size v8 (ts ++ [((k : Int), xs[k], proofR xs (k : Int))]) := by
        have hk0 : ∀ (i : Nat) (hl : i < ls.length) (ht : i < ts.length), Apart pieceR (w5.alloc (.cells #[.int .i64 (k : Int), .string xs[k], .slice A5 n5 c5] tP)) w3.heap.size _ ls[i].val ts[i] := fun i hl ht => (hpa'.out i hl ht).keep piece_kept hA.size (fun b _ h2 _ => hA.block b h2)
        refine Grow.snoc piece_kept (lo2 := wr.heap.size) (hi2 := w5.heap.size) ⟨ls, hown.alloc _, hll'.out, hk0⟩ hk0 hll'.out hw8'.out hg8'.out (by simpa using hloc8'.out) hzr hA.size (fun q hq => .inr (hgl5.out q hq).2) ?_
        rw [hy'.out]
        exact ⟨A5, n5, c5, rfl, ho5r.out.below (flat_kept _) hA (Nat.le_refl _), by unfold I64; simp only; omega, by unfold maxLen; simp only; omega, hpi.out⟩
      go_roundw
      case rel => exact ⟨k + 1, v8, _, by omega, by go_num, rfl, hgr8, hide (by rw [List.length_append, hlen.out]; rfl), hide (fun t ht => by
        rcases List.mem_append.1 ht with ht | ht
        · exact hsm.out t ht
        · simp at ht
          subst ht
          exact ⟨by have := hpn.out; show xs[k].size + (proofR xs (k : Int)).length ≤ 300; omega, by simp, by simp only; omega⟩), hide (fun t ht => by
        rcases List.mem_append.1 ht with ht | ht
        · exact hpfl.out t ht
        · simp at ht
          subst ht
          exact ⟨hpn.out, hpi.out, by simp only; omega⟩), hbr.trans ((hb5h.out.mono hzr).trans ((hA.mono (Nat.le_trans hzr hb5h.out.size)).trans hb8'.out))⟩
      case measure => simp [intOf]; omega
    · obtain rfl : k = n3 := by omega
      obtain ⟨A4, c4, hv4, hc41, hc42, _⟩ := hgr.form
      rw [hlen.out] at hv4 hc41
      subst hv4
      unfold maxLen at hc42
      have hrr := hr3.keep hbr
      have root : ∀ (W : World) (hW : Below w3.heap.size w3 W), Calls Tryd.prog 17 #[.slice A3 k c3] W fun e w' => e = .returned (.int .i64 (rootR xs)) ∧ Below W.heap.size W w' := fun W hW =>
        specPieceRoot_c _ k c3 _ _ xs W hn3.out (by omega) (hs3.below hW (Nat.le_refl _)) hW.size
      have root' := hide root
      have hB := hb3.trans (hbr.mono hb3.size)
      clear root
      by_cases hk0 : k = 0
      · subst hk0
        have hts : ts = [] := List.eq_nil_of_length_eq_zero hlen.out
        subst hts
        go_wp2_with fail
        refine (root'.out wr hbr).mono ?_
        rintro e w7 ⟨rfl, hb7⟩
        go_wp2
        exact bodyPost_ret (v := .tuple #[.int .i64 (rootR xs), .int .i64 (((0 : Nat)) : Int), .slice A4 0 c4]) (by simp [results, Tryd.results34, go_sem]) rfl ⟨_, _, A4, 0, c4, [], rfl, by decide, RdN.nil_ _ _ _ _ _ _ _ (by unfold maxLen; omega), hB.trans (hb7.mono hB.size)⟩
      · have d0 : decide (0 < (k : Int)) = true := by simp only [decide_eq_true_eq]; omega
        go_wp2_with fail
        refine (pick_c w.heap.size _ (k : Int) wr hrr (by omega) (by omega)).mono ?_
        rintro e w4 ⟨k4, rfl, hk4, hr4, h4⟩
        have hk4n : k4 < k := by have := hk4.1 (by omega); omega
        have hgr4 := hgr.only piece_kept h4 hgl
        have hB4 := hB.trans (h4.toBelow hB.size (fun k hk => by injection hk with hk; omega))
        have hz4 := h4.size
        have hs4 : Sl encS 1 w4 w2.heap.size w3.heap.size A3 xs := (hs3.below hbr (Nat.le_refl _)).keep (fun b h1 h2 => h4.block b (by omega) (fun e => by injection e; omega))
        clear hgr hk4 h4
        go_wp2_with fail
        refine (pick_c w.heap.size _ 6 w4 hr4 (by omega) (by omega)).mono ?_
        rintro e w5 ⟨k6, rfl, hk6, hr5, h5⟩
        have hgr5 := hgr4.only piece_kept h5 hgl
        have hB5 := hB4.trans (h5.toBelow hB4.size (fun k hk => by injection hk with hk; omega))
        have hz5 := h5.size
        have hs5 : Sl encS 1 w5 w2.heap.size w3.heap.size A3 xs := hs4.keep (fun b h1 h2 => h5.block b (by omega) (fun e => by injection e; omega))
        clear hk6 h5 hgr4 hs4 hr4
        have rt : ∀ (W : World) (hW : Below w3.heap.size w5 W), Calls Tryd.prog 17 #[.slice A3 k c3] W fun e w' => e = .returned (.int .i64 (rootR xs)) ∧ Below W.heap.size W w' := fun W hW =>
          specPieceRoot_c _ k c3 _ _ xs W hn3.out (by omega) (hs5.below hW (Nat.le_refl _)) (by have := hW.size; omega)
        have rt' := hide rt
        clear rt
        have hll : k4 < ts.length := by have := hlen.out; omega
        have hlo := hide hgr5
        obtain ⟨ls, hown, hlsl, _⟩ := hgr5
        obtain ⟨g, rfl, hg1, hg2⟩ := hown.addrAt (k := k4) hk4n
        have hk4l : k4 < ls.length := by have := hown.lenEq; omega
        have hlen' := hlen.out
        have hzp := hide (fun (ts' : List PieceT) (hl : ts'.length ≤ ts.length) (h : ∀ t ∈ ts', szPiece t ≤ 300) => szPieces_of (by omega) h)
        clear hlen'
        by_cases h0 : k6 = 0
        · have e0 : ((k6 : Int) == 0) = true := by rw [h0]; decide
          clear h0
          obtain ⟨u1, y1⟩ := hown.cellAt Cs.len hk4n 1 (by omega)
          have f1 := hown.frozen (k4 * 3 + 1)
          have hrd := hide (hlo.out.rd_set (p := 1) (u := .string ⟨#[116, 117, 114, 110, 101, 100]⟩) (t' := (ts[k4].1, ⟨#[116, 117, 114, 110, 101, 100]⟩, ts[k4].2.2)) hll (fun _ _ _ => rfl) rfl (by have h8 := hpfl.out ts[k4] (List.getElem_mem _); have h9 := hsm.out ts[k4] (List.getElem_mem _); exact ⟨by unfold I64; have := h9.2; simp only; omega, by show (6 : Nat) ≤ maxLen; unfold maxLen; omega, h8.2.1⟩) (by omega))
          have hb6 : Below w3.heap.size w5 (w5.setCell ⟨g, k4 * 3 + 1, none⟩ (.string ⟨#[116, 117, 114, 110, 101, 100]⟩)) := (Below.refl _ _).setCell hg1 _
          have hz6 := hb6.size
          have hB6 := hB5.trans (hb6.mono (by omega))
          go_wp2_with fail
          refine (rt'.out _ hb6).mono ?_
          rintro e w7 ⟨rfl, hb7⟩
          go_wp2
          exact bodyPost_ret (v := .tuple #[.int .i64 (rootR xs), .int .i64 (k : Int), .slice (some ⟨g, 0, none⟩) k c4]) (by simp [results, Tryd.results34, go_sem]) rfl ⟨_, _, _, k, c4, _, rfl, hzp.out _ (by simp) (Sml.of_set hsm.out (by have := (hsm.out ts[k4] (List.getElem_mem _)).1; show 6 + ts[k4].2.2.length ≤ 300; have h8 : szPiece ts[k4] = ts[k4].2.1.size + ts[k4].2.2.length := rfl; have h9 := (hpfl.out ts[k4] (List.getElem_mem _)).1; omega)), (hrd.out.below piece_kept (B := w5.heap.size) (hb7.mono hz6) (Nat.le_refl _)).mono piece_kept (by omega) (Nat.le_trans hz6 hb7.size), hB6.trans (hb7.mono hB6.size)⟩
        · have e0 : ((k6 : Int) == 0) = false := by simp only [beq_eq_false_iff_ne, ne_eq]; omega
          by_cases h1 : k6 = 1
          · have e1 : ((k6 : Int) == 1) = true := by rw [h1]; decide
            clear h0 h1
            obtain ⟨A9, n9, c9, y0, _, _, _, _⟩ := (hlo.out.rdn piece_kept).piece hll
            simp only [Nat.zero_add] at y0
            have f0 := hown.frozen (k4 * 3)
            have hsk := hsm.out ts[k4] (List.getElem_mem _)
            have hk1 : 0 ≤ ts[k4].1 ∧ ts[k4].1 ≤ 300 := hsk.2
            have hrd := hide (hlo.out.rd_set (p := 0) (u := .int .i64 (ts[k4].1 + 1)) (t' := (ts[k4].1 + 1, ts[k4].2.1, ts[k4].2.2)) hll (fun _ _ _ => rfl) rfl (by have h8 := hpfl.out ts[k4] (List.getElem_mem _); exact ⟨by unfold I64; simp only; omega, by unfold maxLen; have := h8.2.2; simp only; omega, h8.2.1⟩) (by omega))
            have hrd2 : Hid (RdN 3 pieceR (w5.setCell ⟨g, k4 * 3, none⟩ (.int .i64 (ts[k4].1 + 1))) w3.heap.size w5.heap.size (some ⟨g, 0, none⟩) k c4 (ts.set k4 (ts[k4].1 + 1, ts[k4].2.1, ts[k4].2.2))) := hide hrd.out
            clear hrd
            have hb6 : Below w3.heap.size w5 (w5.setCell ⟨g, k4 * 3, none⟩ (.int .i64 (ts[k4].1 + 1))) := (Below.refl _ _).setCell hg1 _
            have hz6 := hb6.size
            have hB6 := hB5.trans (hb6.mono (by omega))
            have hsk' := hide hsk
            clear hsk
            go_wp2_with fail
            refine (rt'.out _ hb6).mono ?_
            rintro e w7 ⟨rfl, hb7⟩
            go_wp2
            exact bodyPost_ret (v := .tuple #[.int .i64 (rootR xs), .int .i64 (k : Int), .slice (some ⟨g, 0, none⟩) k c4]) (by simp [results, Tryd.results34, go_sem]) rfl ⟨_, _, _, k, c4, _, rfl, hzp.out _ (by simp) (Sml.of_set (k := k4) (t' := (ts[k4].1 + 1, ts[k4].2.1, ts[k4].2.2)) hsm.out hsk'.out.1), (hrd2.out.below piece_kept (B := w5.heap.size) (hb7.mono hz6) (Nat.le_refl _)).mono piece_kept (by omega) (Nat.le_trans hz6 hb7.size), hB6.trans (hb7.mono hB6.size)⟩
          · have e1 : ((k6 : Int) == 1) = false := by simp only [beq_eq_false_iff_ne, ne_eq]; omega
            have hrd := hide (hlo.out.rdn piece_kept)
            by_cases h2 : k6 = 2
            · have e2 : ((k6 : Int) == 2) = true := by rw [h2]; decide
              clear h0 h1 h2
              have hbD : Below w3.heap.size w5 w5.drew := Below.drew (Below.refl _ _)
              have hz5d : w3.heap.size ≤ w5.drew.heap.size := by show w3.heap.size ≤ w5.heap.size; omega
              by_cases hc41 : c4 = 1
              · have hk1 : k = 1 := by omega
                subst hc41
                subst hk1
                go_wp2
                refine wp_region_O (fun _ => True) [] [68] [66] (Ord.seg [0, 2, 3, 4] (Ord.both 1 5 (Ord.seg [6, 7, 5, 8] Ord.done) (Ord.seg [1, 6, 7, 8] Ord.done))) (by kernel_rfl) (by kernel_rfl) (by kernel_rfl) trivial ?_
                go_wp2_with (first
                  | (go_at_call 17; refine (rt'.out _ hbD).mono ?_; rintro e w7 ⟨rfl, hb7⟩)
                  | ((with_reducible apply wpT_len); (focus (first | exact .inl rfl | exact .inr (wanted_yes _ _ _ rfl rfl rfl))); (focus rfl); (focus rfl); (focus rfl); (focus exact Tryd.underlying30); (try dsimp only))
                  | ((with_reducible refine wpO_seg ?_); simp only [pickL, List.toList_toArray, List.getElem?_cons_succ, List.getElem?_cons_zero]) | ((with_reducible refine wpO_both ?_ ?_) <;> simp only [pickL, List.toList_toArray, List.getElem?_cons_succ, List.getElem?_cons_zero]) | ((with_reducible refine wpO_done ?_); try dsimp only) | ((with_reducible refine wpT_q0 ?_ ?_ ?_ ?_); (focus rfl); (focus rfl); (focus rfl); intro K hK) | ((with_reducible refine wpT_b ?_ ?_); (focus (exact ⟨_, _, _, _, _, _, _, _, _, rfl, rfl, rfl, rfl, rfl, rfl⟩)); intro K hK) | ((with_reducible refine wpT_x0 ?_ ?_ ?_); (focus rfl); (focus rfl); intro K hK) | ((with_reducible refine wpT_noL ?_ ?_); (focus (first | exact wanted_no _ _ _ rfl rfl rfl | exact wanted_un _ _ _ rfl rfl rfl)); simp only [setO, List.set_cons_succ, List.set_cons_zero]) | ((with_reducible refine wpT_q1 ?_ ?_ ?_ ?_); (focus exact wanted_yes _ _ _ rfl rfl rfl); (focus rfl); (focus rfl); intro K hK) | ((with_reducible refine wpT_x1 ?_ ?_ ?_); (focus exact wanted_yes _ _ _ rfl rfl rfl); (focus rfl); intro K hK) | ((with_reducible refine wpT_nil ?_); try dsimp only)
                  | fail)
                all_goals exact bodyPost_ret (v := .tuple #[.int .i64 (rootR xs), .int .i64 (((1 : Nat)) : Int), .slice (some ⟨g, 0, none⟩) 0 0]) (by simp [results, Tryd.results34, go_sem]) rfl ⟨_, _, _, 0, 0, [], rfl, by decide, RdN.nil_ _ _ _ _ _ _ _ (Nat.zero_le _), hB5.trans ((hbD.trans (hb7.mono hz5d)).mono (by omega))⟩
              · go_wp2
                refine wp_region_O (fun _ => True) [] [68] [66] (Ord.seg [0, 2, 3, 4] (Ord.both 1 5 (Ord.seg [6, 7, 5, 8] Ord.done) (Ord.seg [1, 6, 7, 8] Ord.done))) (by kernel_rfl) (by kernel_rfl) (by kernel_rfl) trivial ?_
                go_wp2_with (first
                  | (go_at_call 17; refine (rt'.out _ hbD).mono ?_; rintro e w7 ⟨rfl, hb7⟩)
                  | ((with_reducible apply wpT_len); (focus (first | exact .inl rfl | exact .inr (wanted_yes _ _ _ rfl rfl rfl))); (focus rfl); (focus rfl); (focus rfl); (focus exact Tryd.underlying30); (try dsimp only))
                  | ((with_reducible refine wpO_seg ?_); simp only [pickL, List.toList_toArray, List.getElem?_cons_succ, List.getElem?_cons_zero]) | ((with_reducible refine wpO_both ?_ ?_) <;> simp only [pickL, List.toList_toArray, List.getElem?_cons_succ, List.getElem?_cons_zero]) | ((with_reducible refine wpO_done ?_); try dsimp only) | ((with_reducible refine wpT_q0 ?_ ?_ ?_ ?_); (focus rfl); (focus rfl); (focus rfl); intro K hK) | ((with_reducible refine wpT_b ?_ ?_); (focus (exact ⟨_, _, _, _, _, _, _, _, _, rfl, rfl, rfl, rfl, rfl, rfl⟩)); intro K hK) | ((with_reducible refine wpT_x0 ?_ ?_ ?_); (focus rfl); (focus rfl); intro K hK) | ((with_reducible refine wpT_noL ?_ ?_); (focus (first | exact wanted_no _ _ _ rfl rfl rfl | exact wanted_un _ _ _ rfl rfl rfl)); simp only [setO, List.set_cons_succ, List.set_cons_zero]) | ((with_reducible refine wpT_q1 ?_ ?_ ?_ ?_); (focus exact wanted_yes _ _ _ rfl rfl rfl); (focus rfl); (focus rfl); intro K hK) | ((with_reducible refine wpT_x1 ?_ ?_ ?_); (focus exact wanted_yes _ _ _ rfl rfl rfl); (focus rfl); intro K hK) | ((with_reducible refine wpT_nil ?_); try dsimp only)
                  | fail)
                all_goals exact bodyPost_ret (v := .tuple #[.int .i64 (rootR xs), .int .i64 (k : Int), .slice (some ⟨g, 3, none⟩) (k - 1) (c4 - 1)]) (by simp [results, Tryd.results34, go_sem]) rfl ⟨_, _, _, k - 1, c4 - 1, ts.drop 1, rfl, hzp.out _ (by simp) (fun t ht => (hsm.out t (List.mem_of_mem_drop ht)).1), ((hrd.out.drop_ 1 (by omega)).below piece_kept (B := w5.heap.size) ((Below.drew (Below.refl _ _)).trans hb7) (Nat.le_refl _)).mono piece_kept (by omega) (by have h9 : w5.heap.size ≤ w7.heap.size := hb7.size; omega), hB5.trans ((hbD.trans (hb7.mono hz5d)).mono (by omega))⟩
            · have e2 : ((k6 : Int) == 2) = false := by simp only [beq_eq_false_iff_ne, ne_eq]; omega
              clear h0 h1 h2
              go_wp2_with fail
              refine (rt'.out _ (Below.refl _ _)).mono ?_
              rintro e w7 ⟨rfl, hb7⟩
              go_wp2
              exact bodyPost_ret (v := .tuple #[.int .i64 (rootR xs), .int .i64 (k : Int), .slice (some ⟨g, 0, none⟩) k c4]) (by simp [results, Tryd.results34, go_sem]) rfl ⟨_, _, _, k, c4, ts, rfl, hzp.out _ (Nat.le_refl _) (fun t ht => (hsm.out t ht).1), (hrd.out.below piece_kept hb7 (Nat.le_refl _)).mono piece_kept (by omega) hb7.size, hB5.trans (hb7.mono (by omega))⟩
end Go.Proofs.YtjhgcppjpolamaaDoor
