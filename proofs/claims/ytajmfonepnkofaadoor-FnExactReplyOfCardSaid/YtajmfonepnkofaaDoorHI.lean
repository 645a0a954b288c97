/-
  Lists of ints in the games' seat. (Printed by gen_hi.py.)
-/
import Derived.Test.YtajmfonepnkofaaDoorHE
import Derived.Test.YtajmfonepnkofaaDoorDR
namespace Go.Proofs.YtajmfonepnkofaaDoor
open Go.RowKit Rg
set_option linter.unusedVariables false
set_option linter.unusedSimpArgs false

theorem infoI : (Tryd.prog.info? 3).map (fun i => (i.zero, i.size, i.bytes)) = some (some (.int .i64 0), 1, 8) := by kernel_rfl
theorem Own.i64At {w : World} {lo g n c k : Nat} {e : TypeId} {xs : List Int} (h : Own encI 1 e w lo (.slice (some ⟨g, 0, none⟩) n c) xs) (hk : k < n) : ∃ a : Int, w.cell? ⟨g, k, none⟩ = some (.int .i64 a) := by
  obtain ⟨h1, _, h2⟩ := h.slAt encI_len
  have hk' : k < xs.length := by omega
  have := h2.i64 hk'
  simp only [Nat.zero_add] at this
  exact ⟨_, this⟩
def imarks (k n : Nat) : List Int := (List.range n).map fun (i : Nat) => (((k + i : Nat) : Int))
theorem imarks_len (k n : Nat) : (imarks k n).length = n := by simp [imarks]
theorem imarks_succ (k n : Nat) : imarks k (n + 1) = imarks k n ++ [((k + n : Nat) : Int)] := by simp [imarks, List.range_succ]
theorem imarks_set (k j : Nat) (xs : List Int) (h : j < xs.length) : (imarks k j ++ xs.drop j).set j ((k + j : Nat) : Int) = imarks k (j + 1) ++ xs.drop (j + 1) := by
  rw [List.set_append_right _ _ (by rw [imarks_len]; omega), imarks_len, Nat.sub_self, imarks_succ, List.append_assoc]
  congr 1
  rw [List.drop_eq_getElem_cons h]
  rfl
theorem toIntS_c (A : Option Addr) (n c lo hi : Nat) (xs : List Int) (w : World) (hn : n = xs.length) (hb : n ≤ 1048576) (hs : Sl encI 1 w lo hi A xs) (hhi : hi ≤ w.heap.size) :
    Calls Tryd.prog 28 #[.slice A n c] w fun e w' => ∃ v, e = .returned v ∧ Own encI 1 3 w' w.heap.size v xs ∧ Below w.heap.size w w' := by
  have hmk := fun W => run_make_n (P := Tryd.prog) 23 3 (info_parts infoI).choose _ Tryd.underlying23 (info_parts infoI).choose_spec.1 (info_parts infoI).choose_spec.2.1 .i64 .i64 n (by rw [(info_parts infoI).choose_spec.2.2.2]; omega) (by omega) W
  rw [(info_parts infoI).choose_spec.2.2.1] at hmk
  have hown : Own encI 1 3 (w.alloc (.cells (madeCells (Value.int .i64 0).cells (n * 1)) 3)) w.heap.size (.slice (some ⟨w.heap.size, 0, none⟩) n n) (List.replicate n 0) :=
    own_made encI_len (by omega) _ w _ n 0 (.int .i64 0) rfl (Nat.le_refl _) (by unfold maxLen; omega)
  rw [Nat.mul_one] at hown
  have hn' := hide hn
  clear hn
  go_enter Tryd.func28, Tryd.ntmps28
  go_wp2
  go_loopw [4] (fun i wr => ∃ k : Nat, k ≤ n ∧ i = .int .i64 k ∧ Own encI 1 3 wr w.heap.size (.slice (some ⟨w.heap.size, 0, none⟩) n n) (xs.take k ++ List.replicate (n - k) 0) ∧ Below w.heap.size w wr) (fun i _ => n - (intOf i).toNat)
  case atStart => exact ⟨0, Nat.zero_le _, rfl, by rw [List.take_zero, List.nil_append, Nat.sub_zero]; exact hown, (Below.refl _ _).alloc (Nat.le_refl _) _⟩
  case round =>
    obtain ⟨k, hk, rfl, ho, hbr⟩ := hrel
    by_cases hlt : k < n
    · have hlx : k < xs.length := by have := hn'.out; omega
      obtain ⟨b, off, rfl, hlo, hbh⟩ := hs.addr hlx
      have a1 := (hs.below hbr hhi).i64 hlx
      obtain ⟨u0, c0⟩ := ho.i64At hlt
      have f0 := ho.frozen k
      go_wp2
      go_roundw
      case rel =>
        refine ⟨k + 1, by omega, by go_num, ?_, ?_⟩
        · have := ho.put_ encI_len hlt xs[k]
          rw [take_set_replicate xs _ k n hn'.out hlt, Nat.mul_one] at this
          exact this
        · exact hbr.setCell (by simp) _
      case measure => simp [intOf]; omega
    · obtain rfl : k = n := by omega
      go_wp2
      go_ret
      refine ⟨_, rfl, ?_, hbr⟩
      rw [Nat.sub_self, List.replicate_zero, List.append_nil, List.take_of_length_le (by rw [hn'.out]; omega)] at ho
      exact ho

theorem eqIntS_c (A B : Option Addr) (n m c d lo hi lo' hi' : Nat) (xs ys : List Int) (w : World) (hn : n = xs.length) (hm : m = ys.length) (hb : n ≤ 1048576) (hb' : m ≤ 1048576) (hs : Sl encI 1 w lo hi A xs) (hs' : Sl encI 1 w lo' hi' B ys) (hhi : hi ≤ w.heap.size) (hhi' : hi' ≤ w.heap.size) :
    Calls Tryd.prog 33 #[.slice A n c, .slice B m d] w fun e w' => e = .returned (.bool (decide (xs = ys))) ∧ Below w.heap.size w w' := by
  have hn' := hide hn
  have hm' := hide hm
  by_cases hnm : n = m
  · have hxy : xs.length = ys.length := by omega
    have hxy' := hide hxy
    clear hn hm hxy
    subst hnm
    go_enter Tryd.func33, Tryd.ntmps33
    go_wp2
    go_loopw [5] (fun i wr => ∃ k : Nat, k ≤ n ∧ i = .int .i64 k ∧ Hid (xs.take k = ys.take k) ∧ Below w.heap.size w wr) (fun i _ => n - (intOf i).toNat)
    case atStart => exact ⟨0, Nat.zero_le _, rfl, rfl, Below.refl _ _⟩
    case round =>
      obtain ⟨k, hk, rfl, he, hbr⟩ := hrel
      by_cases hlt : k < n
      · have hlx : k < xs.length := by have := hn'.out; omega
        have hly : k < ys.length := by have := hm'.out; omega
        obtain ⟨b, off, rfl, hlo, hbh⟩ := hs.addr hlx
        obtain ⟨b', off', rfl, hlo', hbh'⟩ := hs'.addr hly
        have a1 := (hs.below hbr hhi).i64 hlx
        have b1 := (hs'.below hbr hhi').i64 hly
        by_cases hq : xs[k] = ys[k]
        · have hq' := hide hq
          have hbeq : (xs[k] != ys[k]) = false := by simp [hq]
          clear hq
          go_wp2
          refine wp_region_T (fun _ => True) [] [] [] [0, 1, 2, 3, 4, 5, 6, 7, 8] (by kernel_rfl) (by kernel_rfl) (by kernel_rfl) trivial ?_; simp only [pickL, List.getElem?_cons_succ, List.getElem?_cons_zero]
          go_wp2_with (first
            | ((with_reducible refine wpT_q0 ?_ ?_ ?_ ?_); (focus rfl); (focus rfl); (focus rfl); intro K hK) | ((with_reducible refine wpT_x0 ?_ ?_ ?_); (focus rfl); (focus rfl); intro K hK) | ((with_reducible refine wpT_noL ?_ ?_); (focus (first | exact wanted_no _ _ _ rfl rfl rfl | exact wanted_un _ _ _ rfl rfl rfl)); simp only [setO, List.set_cons_succ, List.set_cons_zero]) | ((with_reducible refine wpT_q1 ?_ ?_ ?_ ?_); (focus exact wanted_yes _ _ _ rfl rfl rfl); (focus rfl); (focus rfl); intro K hK) | ((with_reducible refine wpT_x1 ?_ ?_ ?_); (focus exact wanted_yes _ _ _ rfl rfl rfl); (focus rfl); intro K hK) | ((with_reducible refine wpT_nil ?_); try dsimp only)
            | fail)
          go_roundw
          case rel => exact ⟨k + 1, by omega, by go_num, hide (take_eq_succ xs ys k hlx hly he.out hq'.out), hbr.trans (Below.drew (Below.refl _ _))⟩
          case measure => simp [intOf]; omega
        · have hq' := hide hq
          have hbne : (xs[k] != ys[k]) = true := by simp [hq]
          clear hq
          go_wp2
          refine wp_region_T (fun _ => True) [] [] [] [0, 1, 2, 3, 4, 5, 6, 7, 8] (by kernel_rfl) (by kernel_rfl) (by kernel_rfl) trivial ?_; simp only [pickL, List.getElem?_cons_succ, List.getElem?_cons_zero]
          go_wp2_with (first
            | ((with_reducible refine wpT_q0 ?_ ?_ ?_ ?_); (focus rfl); (focus rfl); (focus rfl); intro K hK) | ((with_reducible refine wpT_x0 ?_ ?_ ?_); (focus rfl); (focus rfl); intro K hK) | ((with_reducible refine wpT_noL ?_ ?_); (focus (first | exact wanted_no _ _ _ rfl rfl rfl | exact wanted_un _ _ _ rfl rfl rfl)); simp only [setO, List.set_cons_succ, List.set_cons_zero]) | ((with_reducible refine wpT_q1 ?_ ?_ ?_ ?_); (focus exact wanted_yes _ _ _ rfl rfl rfl); (focus rfl); (focus rfl); intro K hK) | ((with_reducible refine wpT_x1 ?_ ?_ ?_); (focus exact wanted_yes _ _ _ rfl rfl rfl); (focus rfl); intro K hK) | ((with_reducible refine wpT_nil ?_); try dsimp only)
            | fail)
          go_ret
          refine ⟨congrArg (fun b => Ending.returned (.bool b)) ?_, hbr.trans (Below.drew (Below.refl _ _))⟩
          have : ¬ xs = ys := fun h => by subst h; exact hq'.out rfl
          simp [this]
      · obtain rfl : k = n := by omega
        go_wp2
        go_ret
        have e1 := he.out
        rw [List.take_of_length_le (by rw [hn'.out]; omega), List.take_of_length_le (by rw [hm'.out]; omega)] at e1
        exact ⟨by simp [e1], hbr⟩
  · have hne : ¬ xs = ys := fun h => by subst h; omega
    have hne' : ((n : Int) != (m : Int)) = true := by simp; omega
    clear hn hm
    go_enter Tryd.func33, Tryd.ntmps33
    go_wp2
    go_ret
    exact ⟨by simp [hne], Below.refl _ _⟩
theorem eqSameI_c {A B : Option Addr} {n m c d lo lo' : Nat} {xs : List Int} {w : World} (h : Own encI 1 3 w lo (.slice A n c) xs) (h' : Own encI 1 3 w lo' (.slice B m d) xs) (hb : xs.length ≤ 1048576) :
    Calls Tryd.prog 33 #[.slice A n c, .slice B m d] w fun e w' => e = .returned (.bool true) ∧ Below w.heap.size w w' := by
  obtain ⟨h1, _, h2⟩ := h.slAt encI_len
  obtain ⟨h3, _, h4⟩ := h'.slAt encI_len
  have := eqIntS_c A B n m c d _ _ _ _ xs xs w h1 h3 (by omega) (by omega) h2 h4 (Nat.le_refl _) (Nat.le_refl _)
  simpa using this
theorem clone1I_c (A : Option Addr) (n c lo hi : Nat) (xs : List Int) (w : World) (hn : n = xs.length) (hb : n ≤ 1048576) (hs : Sl encI 1 w lo hi A xs) (hhi : hi ≤ w.heap.size) :
    Calls Tryd.prog 88 #[.slice A n c] w fun e w' => ∃ v, e = .returned v ∧ Own encI 1 3 w' w.heap.size v xs ∧ Below w.heap.size w w' := by
  have hn' := hide hn
  clear hn
  cases A with
  | none =>
    have hx : xs = [] := by
      by_cases h : xs = []
      · exact h
      · obtain ⟨_, _, h1, _⟩ := hs h; cases h1
    subst hx
    obtain rfl : n = 0 := hn'.out
    have he := fun (w : World) (c : Nat) => Lib.run_eql_slice_nil (P := Tryd.prog) w 23 3 none 0 c 0 0 Tryd.underlying23
    go_enter Tryd.func88, Tryd.ntmps88
    go_wp2
    go_ret
    exact ⟨_, rfl, Own.nil_ _ _ _ _ _, Below.refl _ _⟩
  | some ad =>
    have he := fun (w : World) (c : Nat) => Lib.run_eql_slice_nil (P := Tryd.prog) w 23 3 (some ad) n c 0 0 Tryd.underlying23
    go_enter Tryd.func88, Tryd.ntmps88
    go_wp2_with (at_builtin; refine wpList_app encI_len (by omega) encI_one rfl _ _ 23 rfl 3 _ 8 Tryd.underlying23 infoI rfl w.heap.size _ [] rfl (own_empty encI 1 _ w) lo hi _ xs _ _ rfl hn'.out ?h1 ?h2 ?h3 ?_)
    case h1 => exact hs.below ((Below.refl hi w).alloc hhi _) (Nat.le_refl _)
    case h2 => have := hn'.out; simp [maxLen]; omega
    case h3 => simp
    intro v' w1 ho hg hb1
    go_wp2
    go_ret
    exact ⟨_, rfl, ho, (Below.refl _ _).trans (((Below.refl _ _).alloc (Nat.le_refl _) _).trans hb1)⟩

theorem clipI_c (A : Option Addr) (n c : Nat) (w : World) (h0 : n ≤ c) (h1 : c ≤ maxLen) (hA : A = none → n = 0) (hA2 : ∀ a, A = some a → ∃ g, a = ⟨g, 0, none⟩) :
    Calls Tryd.prog 87 #[.slice A n c] w fun e w' => e = .returned (.slice A n n) ∧ w = w' := by
  unfold maxLen at h1
  cases A with
  | none =>
    obtain rfl := hA rfl
    go_enter Tryd.func87, Tryd.ntmps87
    go_wp2
    go_ret
    exact ⟨rfl, rfl⟩
  | some a =>
    obtain ⟨g, rfl⟩ := hA2 a rfl
    clear hA hA2
    go_enter Tryd.func87, Tryd.ntmps87
    go_wp2
    go_ret
    exact ⟨rfl, rfl⟩

theorem cloneI_c (A : Option Addr) (n c lo hi : Nat) (xs : List Int) (w : World) (hn : n = xs.length) (hb : n ≤ 1048576) (hs : Sl encI 1 w lo hi A xs) (hhi : hi ≤ w.heap.size) :
    Calls Tryd.prog 69 #[.slice A n c] w fun e w' => ∃ A', e = .returned (.slice A' n n) ∧ Own encI 1 3 w' w.heap.size (.slice A' n n) xs ∧ Below w.heap.size w w' := by
  have hn' := hide hn
  clear hn
  go_enter Tryd.func69, Tryd.ntmps69
  go_wp2_with fail
  refine (clone1I_c A n c lo hi xs w hn'.out hb hs hhi).mono ?_
  rintro e w1 ⟨v, rfl, ho, hb1⟩
  obtain ⟨A', c', rfl, h1, h2, h3⟩ := ho.form
  have hz := ho.clip
  rw [← hn'.out] at h1 hz ho ⊢
  have hcl := clipI_c A' n c' w1 h1 h2 (by
    rintro rfl
    rcases ho with ⟨h4, h5⟩ | ⟨g, cap, cur, he, _⟩
    · injection h4
    · injection he with he; cases he) (by
    intro a ha
    rcases h3 with h3 | ⟨g, h3, _⟩
    · rw [h3] at ha; cases ha
    · rw [h3] at ha; injection ha with ha; exact ⟨g, ha.symm⟩)
  clear h3 h1 h2
  go_wp2_with fail
  refine hcl.mono ?_
  rintro e w2 ⟨rfl, rfl⟩
  go_wp2
  go_ret
  exact ⟨A', rfl, hz, hb1⟩
end Go.Proofs.YtajmfonepnkofaaDoor
