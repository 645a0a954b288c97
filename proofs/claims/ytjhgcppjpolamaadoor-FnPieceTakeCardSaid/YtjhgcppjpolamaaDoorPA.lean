/-
  Pieces: 'PieceOf' in both packages.
-/
import Derived.Test.YtjhgcppjpolamaaDoorRows
import Derived.Test.YtjhgcppjpolamaaDoorReg
import Derived.Test.YtjhgcppjpolamaaDoorBase
import Derived.WalkSpells
import Derived.WalkLawsBesides
import Derived.Laws.Strings
import Derived.WideShapes
namespace Go.Proofs.YtjhgcppjpolamaaDoor
open Go.RowKit Rg
set_option linter.unusedVariables false
set_option linter.unusedSimpArgs false

theorem hide {p : Prop} (h : p) : Hid p := h
def encS : ByteArray → List Value := fun s => [.string s]
theorem encS_len : ∀ s, (encS s).length = 1 := fun _ => rfl
theorem encS_one : ∀ s, ∀ u ∈ encS s, u.oneCell' = true := by intro s u hu; simp [encS] at hu; subst hu; rfl
theorem infoS : (Tryd.prog.info? 9).map (fun i => (i.zero, i.size, i.bytes)) = some (some (.string ⟨#[]⟩), 1, 16) := by kernel_rfl

def strOf : Value → ByteArray
  | .string s => s
  | _ => ⟨#[]⟩
/-- The pieces of a text. -/
def pcs (s : ByteArray) : List ByteArray := if 12 < s.size then s.extract 0 12 :: pcs (s.extract 12 s.size) else [s]
termination_by s.size
decreasing_by simp; omega
def pieces (s : ByteArray) : List ByteArray := if 192 < s.size then [] else pcs s
theorem pcs_more {s : ByteArray} (h : 12 < s.size) : pcs s = s.extract 0 12 :: pcs (s.extract 12 s.size) := by rw [pcs, if_pos h]
theorem pcs_last {s : ByteArray} (h : ¬ 12 < s.size) : pcs s = [s] := by rw [pcs, if_neg h]

theorem sl_oneS (w : World) (s : ByteArray) (e : TypeId) : Sl encS 1 (w.alloc (.cells #[.string s] e)) 0 (w.heap.size + 1) (some ⟨w.heap.size, 0, none⟩) [s] := by
  intro _
  refine ⟨w.heap.size, 0, rfl, Nat.zero_le _, by omega, fun i x hx j u hu => ?_⟩
  have h0 := heap_alloc_new w (.cells #[.string s] e)
  match i, hx with
  | 0, hx =>
    simp at hx
    subst hx
    simp only [World.cell?, h0]
    match j, hu with
    | 0, hu => exact hu
theorem own_empty {α : Type} (enc : α → List Value) (sz : Nat) (e : TypeId) (w : World) : Own enc sz e (w.alloc (.cells #[] e)) w.heap.size (.slice (some ⟨w.heap.size, 0, none⟩) 0 0) [] :=
  Own.of_row (xs := []) (cur := #[]) (Nat.le_refl _) (heap_alloc_new w _) (by simp) (by simp [maxLen]) (by simp) (by simp)

theorem specPieceOf_c (s : ByteArray) (w : World) (hl : s.size ≤ 1048576) : Calls Tryd.prog 43 #[.string s] w fun e w' => ∃ v, e = .returned v ∧ Own encS 1 9 w' w.heap.size v (pieces s) ∧ Below w.heap.size w w' := by
  by_cases h : 192 < s.size
  · have h1 : decide (192 < (s.size : Int)) = true := by simp; omega
    go_enter Tryd.func43, Tryd.ntmps43
    go_wp2
    go_ret
    refine ⟨_, rfl, ?_, (Below.refl _ _).alloc (Nat.le_refl _) _⟩
    rw [pieces, if_pos h]
    exact own_empty encS 1 9 w
  · have h1 : decide (192 < (s.size : Int)) = false := by simp; omega
    go_enter Tryd.func43, Tryd.ntmps43
    go_wp2
    go_loopw [0, 3] (fun sv ov wr => ∃ (cur : ByteArray) (acc : List ByteArray), sv = .string cur ∧ Own encS 1 9 wr w.heap.size ov acc ∧ Hid (pcs s = acc ++ pcs cur) ∧ acc.length + cur.size ≤ s.size ∧ Below w.heap.size w wr) (fun sv _ _ => (strOf sv).size)
    case atStart => exact ⟨s, [], rfl, own_empty encS 1 9 w, hide rfl, by simp, (Below.refl _ _).alloc (Nat.le_refl _) _⟩
    case round =>
      obtain ⟨cur, acc, rfl, ho, hp, hz, hbr⟩ := hrel
      obtain ⟨A, c, rfl, hc1, hc2, hs1⟩ := ho.sl encS_len
      by_cases h12 : 12 < cur.size
      · have h2 : decide (12 < (cur.size : Int)) = true := by simp; omega
        go_wp2_with (at_builtin; refine wpList_app encS_len (by omega) encS_one rfl _ _ 30 rfl 9 _ 16 Tryd.underlying30 infoS rfl w.heap.size _ acc rfl (ho.alloc _) 0 _ _ [cur.extract 0 12] _ _ rfl rfl (sl_oneS wr _ _) ?h2 ?h3 ?_)
        case h2 => simp [maxLen]; omega
        case h3 => simp; have := hbr.size; omega
        intro v1 w1 ho1 hg1 hb1
        go_wp2
        go_roundw
        case rel =>
          refine ⟨cur.extract 12 cur.size, acc ++ [cur.extract 0 12], by first | rfl | simp, ho1, hide (by rw [hp.out, pcs_more h12]; simp), by simp; omega, (hbr.alloc hbr.size _).trans hb1⟩
        case measure => simp [strOf]; omega
      · have h2 : decide (12 < (cur.size : Int)) = false := by simp; omega
        go_wp2_with (at_builtin; refine wpList_app encS_len (by omega) encS_one rfl _ _ 30 rfl 9 _ 16 Tryd.underlying30 infoS rfl w.heap.size _ acc rfl (ho.alloc _) 0 _ _ [cur] _ _ rfl rfl (sl_oneS wr _ _) ?h2 ?h3 ?_)
        case h2 => simp [maxLen]; omega
        case h3 => simp; have := hbr.size; omega
        intro v1 w1 ho1 hg1 hb1
        go_wp2
        go_ret
        refine ⟨_, rfl, ?_, (hbr.alloc hbr.size _).trans hb1⟩
        rw [pieces, if_neg h, hp.out, pcs_last h12]
        exact ho1
theorem clone1_c (A : Option Addr) (n c lo hi : Nat) (xs : List ByteArray) (w : World) (hn : n = xs.length) (hb : n ≤ 1048576) (hs : Sl encS 1 w lo hi A xs) (hhi : hi ≤ w.heap.size) :
    Calls Tryd.prog 70 #[.slice A n c] w fun e w' => ∃ v, e = .returned v ∧ Own encS 1 9 w' w.heap.size v xs ∧ Below w.heap.size w w' := by
  have hn' := hide hn
  clear hn
  cases A with
  | none =>
    have hx : xs = [] := by
      by_cases h : xs = []
      · exact h
      · obtain ⟨_, _, h1, _⟩ := hs h; cases h1
    subst hx
    obtain rfl : n = 0 := hn'.out
    have he := fun (w : World) (c : Nat) => Lib.run_eql_slice_nil (P := Tryd.prog) w 30 9 none 0 c 0 0 Tryd.underlying30
    go_enter Tryd.func70, Tryd.ntmps70
    go_wp2
    go_ret
    exact ⟨_, rfl, Own.nil_ _ _ _ _ _, Below.refl _ _⟩
  | some ad =>
    have he := fun (w : World) (c : Nat) => Lib.run_eql_slice_nil (P := Tryd.prog) w 30 9 (some ad) n c 0 0 Tryd.underlying30
    go_enter Tryd.func70, Tryd.ntmps70
    go_wp2_with (at_builtin; refine wpList_app encS_len (by omega) encS_one rfl _ _ 30 rfl 9 _ 16 Tryd.underlying30 infoS rfl w.heap.size _ [] rfl (own_empty encS 1 _ w) lo hi _ xs _ _ rfl hn'.out ?h1 ?h2 ?h3 ?_)
    case h1 => exact hs.below ((Below.refl hi w).alloc hhi _) (Nat.le_refl _)
    case h2 => have := hn'.out; simp [maxLen]; omega
    case h3 => simp
    intro v' w1 ho hg hb1
    go_wp2
    go_ret
    exact ⟨_, rfl, ho, (Below.refl _ _).trans (((Below.refl _ _).alloc (Nat.le_refl _) _).trans hb1)⟩

theorem clip_c (A : Option Addr) (n c : Nat) (w : World) (h0 : n ≤ c) (h1 : c ≤ maxLen) (hA : A = none → n = 0) (hA2 : ∀ a, A = some a → ∃ g, a = ⟨g, 0, none⟩) :
    Calls Tryd.prog 69 #[.slice A n c] w fun e w' => e = .returned (.slice A n n) ∧ w = w' := by
  unfold maxLen at h1
  cases A with
  | none =>
    obtain rfl := hA rfl
    go_enter Tryd.func69, Tryd.ntmps69
    go_wp2
    go_ret
    exact ⟨rfl, rfl⟩
  | some a =>
    obtain ⟨g, rfl⟩ := hA2 a rfl
    clear hA hA2
    go_enter Tryd.func69, Tryd.ntmps69
    go_wp2
    go_ret
    exact ⟨rfl, rfl⟩

theorem clone_c (A : Option Addr) (n c lo hi : Nat) (xs : List ByteArray) (w : World) (hn : n = xs.length) (hb : n ≤ 1048576) (hs : Sl encS 1 w lo hi A xs) (hhi : hi ≤ w.heap.size) :
    Calls Tryd.prog 60 #[.slice A n c] w fun e w' => ∃ A', e = .returned (.slice A' n n) ∧ Own encS 1 9 w' w.heap.size (.slice A' n n) xs ∧ Below w.heap.size w w' := by
  have hn' := hide hn
  clear hn
  go_enter Tryd.func60, Tryd.ntmps60
  go_wp2_with fail
  refine (clone1_c A n c lo hi xs w hn'.out hb hs hhi).mono ?_
  rintro e w1 ⟨v, rfl, ho, hb1⟩
  obtain ⟨A', c', rfl, h1, h2, h3⟩ := ho.form
  have hz := ho.clip
  rw [← hn'.out] at h1 hz ho ⊢
  have hcl := clip_c A' n c' w1 h1 h2 (by
    rintro rfl
    rcases ho with ⟨h4, h5⟩ | ⟨g, cap, cur, he, _⟩
    · injection h4
    · injection he with he; cases he) (by
    intro a ha
    rcases h3 with h3 | ⟨g, h3, _⟩
    · rw [h3] at ha; cases ha
    · rw [h3] at ha; injection ha with ha; exact ⟨g, ha.symm⟩)
  clear h3 h1 h2
  go_wp2_with fail
  refine hcl.mono ?_
  rintro e w2 ⟨rfl, rfl⟩
  go_wp2
  go_ret
  exact ⟨A', rfl, hz, hb1⟩


set_option maxHeartbeats 1000000 in
theorem PieceOf_c (s : ByteArray) (w : World) (hl : s.size ≤ 1048576) : Calls Tryd.prog 36 #[.string s] w fun e w' => ∃ v, e = .returned v ∧ Own encS 1 9 w' w.heap.size v (pieces s) ∧ Below w.heap.size w w' := by
  by_cases h : 192 < s.size
  · have h1 : decide (192 < (s.size : Int)) = true := by simp; omega
    go_enter Tryd.func36, Tryd.ntmps36
    go_wp2
    go_ret
    refine ⟨_, rfl, ?_, Below.refl _ _⟩
    rw [pieces, if_pos h]
    exact Own.nil_ _ _ _ _ _
  · have h1 : decide (192 < (s.size : Int)) = false := by simp; omega
    go_enter Tryd.func36, Tryd.ntmps36
    go_wp2
    go_loopw [0, 3] (fun sv ov wr => ∃ (cur : ByteArray) (acc : List ByteArray), sv = .string cur ∧ Own encS 1 9 wr w.heap.size ov acc ∧ Hid (pcs s = acc ++ pcs cur) ∧ acc.length + cur.size ≤ s.size ∧ Below w.heap.size w wr) (fun sv _ _ => (strOf sv).size)
    case atStart => exact ⟨s, [], rfl, Own.nil_ _ _ _ _ _, hide rfl, by simp, Below.refl _ _⟩
    case round =>
      obtain ⟨cur, acc, rfl, ho, hp, hz, hbr⟩ := hrel
      obtain ⟨A, c, rfl, hc1, hc2, hs1⟩ := ho.sl encS_len
      by_cases h12 : 12 < cur.size
      · have h2 : decide (12 < (cur.size : Int)) = true := by simp; omega
        go_wp2_with (at_builtin; refine wpList_app encS_len (by omega) encS_one rfl _ _ 30 rfl 9 _ 16 Tryd.underlying30 infoS rfl w.heap.size _ acc rfl (ho.alloc _) 0 _ _ [cur.extract 0 12] _ _ rfl rfl (sl_oneS wr _ _) ?h2 ?h3 ?_)
        case h2 => simp [maxLen]; omega
        case h3 => simp; have := hbr.size; omega
        intro v1 w1 ho1 hg1 hb1
        go_wp2
        go_roundw
        case rel =>
          refine ⟨cur.extract 12 cur.size, acc ++ [cur.extract 0 12], by first | rfl | simp, ho1, hide (by rw [hp.out, pcs_more h12]; simp), by simp; omega, (hbr.alloc hbr.size _).trans hb1⟩
        case measure => simp [strOf]; omega
      · have h2 : decide (12 < (cur.size : Int)) = false := by simp; omega
        go_wp2_with (at_builtin; refine wpList_app encS_len (by omega) encS_one rfl _ _ 30 rfl 9 _ 16 Tryd.underlying30 infoS rfl w.heap.size _ acc rfl (ho.alloc _) 0 _ _ [cur] _ _ rfl rfl (sl_oneS wr _ _) ?h2 ?h3 ?_)
        case h2 => simp [maxLen]; omega
        case h3 => simp; have := hbr.size; omega
        intro v1 w1 ho1 hg1 hb1
        have hB1 : Below w.heap.size w w1 := (hbr.alloc hbr.size _).trans hb1
        obtain ⟨A1, c1, rfl, hc11, hm1, hs11⟩ := ho1.sl encS_len
        have hl1 : (acc ++ [cur]).length = acc.length + 1 := by simp
        rw [hl1] at ho1 hc11 ⊢
        go_wp2_with fail
        refine (clone_c A1 (acc.length + 1) c1 _ _ (acc ++ [cur]) w1 hl1.symm (by omega) hs11 (Nat.le_refl _)).mono ?_
        rintro e w2 ⟨A2, rfl, ho2, hb2⟩
        go_wp2
        go_ret
        refine ⟨_, rfl, ?_, hB1.trans (hb2.mono hB1.size)⟩
        rw [pieces, if_neg h, hp.out, pcs_last h12]
        exact ho2.mono hB1.size

/-! What the laws ask with. -/
theorem Sl.str {w : World} {lo hi b off k : Nat} {xs : List ByteArray} (h : Sl encS 1 w lo hi (some ⟨b, off, none⟩) xs) (hk : k < xs.length) : w.cell? ⟨b, off + k, none⟩ = some (.string xs[k]) := by
  have := h.at_ hk 0 (.string xs[k]) rfl
  simpa using this
theorem take_eq_succ {α : Type} (xs ys : List α) (k : Nat) (hx : k < xs.length) (hy : k < ys.length) (h : xs.take k = ys.take k) (he : xs[k] = ys[k]) : xs.take (k + 1) = ys.take (k + 1) := by
  rw [List.take_succ_eq_append_getElem hx, List.take_succ_eq_append_getElem hy, h, he]
theorem eqStringS_c (A B : Option Addr) (n m c d lo hi lo' hi' : Nat) (xs ys : List ByteArray) (w : World) (hn : n = xs.length) (hm : m = ys.length) (hb : n ≤ 1048576) (hb' : m ≤ 1048576) (hs : Sl encS 1 w lo hi A xs) (hs' : Sl encS 1 w lo' hi' B ys) (hhi : hi ≤ w.heap.size) (hhi' : hi' ≤ w.heap.size) :
    Calls Tryd.prog 20 #[.slice A n c, .slice B m d] w fun e w' => e = .returned (.bool (decide (xs = ys))) ∧ Below w.heap.size w w' := by
  have hn' := hide hn
  have hm' := hide hm
  by_cases hnm : n = m
  · have hxy : xs.length = ys.length := by omega
    have hxy' := hide hxy
    clear hn hm hxy
    subst hnm
    go_enter Tryd.func20, Tryd.ntmps20
    go_wp2
    go_loopw [5] (fun i wr => ∃ k : Nat, k ≤ n ∧ i = .int .i64 k ∧ Hid (xs.take k = ys.take k) ∧ Below w.heap.size w wr) (fun i _ => n - (intOf i).toNat)
    case atStart => exact ⟨0, Nat.zero_le _, rfl, rfl, Below.refl _ _⟩
    case round =>
      obtain ⟨k, hk, rfl, he, hbr⟩ := hrel
      by_cases hlt : k < n
      · have hlx : k < xs.length := by have := hn'.out; omega
        have hly : k < ys.length := by have := hm'.out; omega
        obtain ⟨b, off, rfl, hlo, hbh⟩ := hs.addr hlx
        obtain ⟨b', off', rfl, hlo', hbh'⟩ := hs'.addr hly
        have a1 := (hs.below hbr hhi).str hlx
        have b1 := (hs'.below hbr hhi').str hly
        by_cases hq : xs[k] = ys[k]
        · have hq' := hide hq
          go_wp2
          refine wp_region_T (fun _ => True) [] [] [] [0, 1, 2, 3, 4, 5, 6, 7, 8] (by kernel_rfl) (by kernel_rfl) (by kernel_rfl) trivial ?_; simp only [pickL, List.getElem?_cons_succ, List.getElem?_cons_zero]
          go_wp2_with (first
            | ((with_reducible refine wpT_q0 ?_ ?_ ?_ ?_); (focus rfl); (focus rfl); (focus rfl); intro K hK) | ((with_reducible refine wpT_x0 ?_ ?_ ?_); (focus rfl); (focus rfl); intro K hK) | ((with_reducible refine wpT_noL ?_ ?_); (focus (first | exact wanted_no _ _ _ rfl rfl rfl | exact wanted_un _ _ _ rfl rfl rfl)); simp only [setO, List.set_cons_succ, List.set_cons_zero]) | ((with_reducible refine wpT_q1 ?_ ?_ ?_ ?_); (focus exact wanted_yes _ _ _ rfl rfl rfl); (focus rfl); (focus rfl); intro K hK) | ((with_reducible refine wpT_x1 ?_ ?_ ?_); (focus exact wanted_yes _ _ _ rfl rfl rfl); (focus rfl); intro K hK) | ((with_reducible refine wpT_nil ?_); try dsimp only)
            | fail)
          go_roundw
          case rel => exact ⟨k + 1, by omega, by go_num, hide (take_eq_succ xs ys k hlx hly he.out hq'.out), hbr.trans (Below.drew (Below.refl _ _))⟩
          case measure => simp [intOf]; omega
        · have hq' := hide hq
          have hbne : (xs[k].toList == ys[k].toList) = false := beq_false_of_ne fun h => hq (by rw [ByteArray.toList_eq, ByteArray.toList_eq] at h; exact Go.WideShapes.bytes_inj h)
          clear hq
          go_wp2
          refine wp_region_T (fun _ => True) [] [] [] [0, 1, 2, 3, 4, 5, 6, 7, 8] (by kernel_rfl) (by kernel_rfl) (by kernel_rfl) trivial ?_; simp only [pickL, List.getElem?_cons_succ, List.getElem?_cons_zero]
          go_wp2_with (first
            | ((with_reducible refine wpT_q0 ?_ ?_ ?_ ?_); (focus rfl); (focus rfl); (focus rfl); intro K hK) | ((with_reducible refine wpT_x0 ?_ ?_ ?_); (focus rfl); (focus rfl); intro K hK) | ((with_reducible refine wpT_noL ?_ ?_); (focus (first | exact wanted_no _ _ _ rfl rfl rfl | exact wanted_un _ _ _ rfl rfl rfl)); simp only [setO, List.set_cons_succ, List.set_cons_zero]) | ((with_reducible refine wpT_q1 ?_ ?_ ?_ ?_); (focus exact wanted_yes _ _ _ rfl rfl rfl); (focus rfl); (focus rfl); intro K hK) | ((with_reducible refine wpT_x1 ?_ ?_ ?_); (focus exact wanted_yes _ _ _ rfl rfl rfl); (focus rfl); intro K hK) | ((with_reducible refine wpT_nil ?_); try dsimp only)
            | fail)
          go_ret
          refine ⟨congrArg (fun b => Ending.returned (.bool b)) ?_, hbr.trans (Below.drew (Below.refl _ _))⟩
          have : ¬ xs = ys := fun h => by subst h; exact hq'.out rfl
          simp [this]
      · obtain rfl : k = n := by omega
        go_wp2
        go_ret
        have e1 := he.out
        rw [List.take_of_length_le (by rw [hn'.out]; omega), List.take_of_length_le (by rw [hm'.out]; omega)] at e1
        exact ⟨by simp [e1], hbr⟩
  · have hne : ¬ xs = ys := fun h => by subst h; omega
    have hne' : ((n : Int) != (m : Int)) = true := by simp; omega
    clear hn hm
    go_enter Tryd.func20, Tryd.ntmps20
    go_wp2
    go_ret
    exact ⟨by simp [hne], Below.refl _ _⟩
end Go.Proofs.YtjhgcppjpolamaaDoor
