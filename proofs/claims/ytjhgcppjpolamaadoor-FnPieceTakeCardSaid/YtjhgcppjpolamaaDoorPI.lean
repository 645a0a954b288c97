/-
  Lists of ints in the laws: 'toIntS', 'eqIntS', 'wpInts', 'markIntS', 'heldIntS'. (Printed by gen_pi.py.)
-/
import Derived.Test.YtjhgcppjpolamaaDoorPD
import Derived.Test.YtjhgcppjpolamaaDoorPB
import Derived.Test.YtjhgcppjpolamaaDoorDR
namespace Go.Proofs.YtjhgcppjpolamaaDoor
open Go.RowKit Rg
set_option linter.unusedVariables false
set_option linter.unusedSimpArgs false

theorem infoI : (Tryd.prog.info? 3).map (fun i => (i.zero, i.size, i.bytes)) = some (some (.int .i64 0), 1, 8) := by kernel_rfl
theorem Own.i64At {w : World} {lo g n c k : Nat} {e : TypeId} {xs : List Int} (h : Own encI 1 e w lo (.slice (some ⟨g, 0, none⟩) n c) xs) (hk : k < n) : ∃ a : Int, w.cell? ⟨g, k, none⟩ = some (.int .i64 a) := by
  obtain ⟨h1, _, h2⟩ := h.slAt encI_len
  have hk' : k < xs.length := by omega
  have := h2.i64 hk'
  simp only [Nat.zero_add] at this
  exact ⟨_, this⟩
def imarks (k n : Nat) : List Int := (List.range n).map fun (i : Nat) => (((k + i : Nat) : Int))
theorem imarks_len (k n : Nat) : (imarks k n).length = n := by simp [imarks]
theorem imarks_succ (k n : Nat) : imarks k (n + 1) = imarks k n ++ [((k + n : Nat) : Int)] := by simp [imarks, List.range_succ]
theorem imarks_set (k j : Nat) (xs : List Int) (h : j < xs.length) : (imarks k j ++ xs.drop j).set j ((k + j : Nat) : Int) = imarks k (j + 1) ++ xs.drop (j + 1) := by
  rw [List.set_append_right _ _ (by rw [imarks_len]; omega), imarks_len, Nat.sub_self, imarks_succ, List.append_assoc]
  congr 1
  rw [List.drop_eq_getElem_cons h]
  rfl
theorem toIntS_c (A : Option Addr) (n c lo hi : Nat) (xs : List Int) (w : World) (hn : n = xs.length) (hb : n ≤ 1048576) (hs : Sl encI 1 w lo hi A xs) (hhi : hi ≤ w.heap.size) :
    Calls Tryd.prog 12 #[.slice A n c] w fun e w' => ∃ v, e = .returned v ∧ Own encI 1 3 w' w.heap.size v xs ∧ Below w.heap.size w w' := by
  have hmk := fun W => run_make_n (P := Tryd.prog) 22 3 (info_parts infoI).choose _ Tryd.underlying22 (info_parts infoI).choose_spec.1 (info_parts infoI).choose_spec.2.1 .i64 .i64 n (by rw [(info_parts infoI).choose_spec.2.2.2]; omega) (by omega) W
  rw [(info_parts infoI).choose_spec.2.2.1] at hmk
  have hown : Own encI 1 3 (w.alloc (.cells (madeCells (Value.int .i64 0).cells (n * 1)) 3)) w.heap.size (.slice (some ⟨w.heap.size, 0, none⟩) n n) (List.replicate n 0) :=
    own_made encI_len (by omega) _ w _ n 0 (.int .i64 0) rfl (Nat.le_refl _) (by unfold maxLen; omega)
  rw [Nat.mul_one] at hown
  have hn' := hide hn
  clear hn
  go_enter Tryd.func12, Tryd.ntmps12
  go_wp2
  go_loopw [4] (fun i wr => ∃ k : Nat, k ≤ n ∧ i = .int .i64 k ∧ Own encI 1 3 wr w.heap.size (.slice (some ⟨w.heap.size, 0, none⟩) n n) (xs.take k ++ List.replicate (n - k) 0) ∧ Below w.heap.size w wr) (fun i _ => n - (intOf i).toNat)
  case atStart => exact ⟨0, Nat.zero_le _, rfl, by rw [List.take_zero, List.nil_append, Nat.sub_zero]; exact hown, (Below.refl _ _).alloc (Nat.le_refl _) _⟩
  case round =>
    obtain ⟨k, hk, rfl, ho, hbr⟩ := hrel
    by_cases hlt : k < n
    · have hlx : k < xs.length := by have := hn'.out; omega
      obtain ⟨b, off, rfl, hlo, hbh⟩ := hs.addr hlx
      have a1 := (hs.below hbr hhi).i64 hlx
      obtain ⟨u0, c0⟩ := ho.i64At hlt
      have f0 := ho.frozen k
      go_wp2
      go_roundw
      case rel =>
        refine ⟨k + 1, by omega, by go_num, ?_, ?_⟩
        · have := ho.put_ encI_len hlt xs[k]
          rw [take_set_replicate xs _ k n hn'.out hlt, Nat.mul_one] at this
          exact this
        · exact hbr.setCell (by simp) _
      case measure => simp [intOf]; omega
    · obtain rfl : k = n := by omega
      go_wp2
      go_ret
      refine ⟨_, rfl, ?_, hbr⟩
      rw [Nat.sub_self, List.replicate_zero, List.append_nil, List.take_of_length_le (by rw [hn'.out]; omega)] at ho
      exact ho

theorem eqIntS_c (A B : Option Addr) (n m c d lo hi lo' hi' : Nat) (xs ys : List Int) (w : World) (hn : n = xs.length) (hm : m = ys.length) (hb : n ≤ 1048576) (hb' : m ≤ 1048576) (hs : Sl encI 1 w lo hi A xs) (hs' : Sl encI 1 w lo' hi' B ys) (hhi : hi ≤ w.heap.size) (hhi' : hi' ≤ w.heap.size) :
    Calls Tryd.prog 14 #[.slice A n c, .slice B m d] w fun e w' => e = .returned (.bool (decide (xs = ys))) ∧ Below w.heap.size w w' := by
  have hn' := hide hn
  have hm' := hide hm
  by_cases hnm : n = m
  · have hxy : xs.length = ys.length := by omega
    have hxy' := hide hxy
    clear hn hm hxy
    subst hnm
    go_enter Tryd.func14, Tryd.ntmps14
    go_wp2
    go_loopw [5] (fun i wr => ∃ k : Nat, k ≤ n ∧ i = .int .i64 k ∧ Hid (xs.take k = ys.take k) ∧ Below w.heap.size w wr) (fun i _ => n - (intOf i).toNat)
    case atStart => exact ⟨0, Nat.zero_le _, rfl, rfl, Below.refl _ _⟩
    case round =>
      obtain ⟨k, hk, rfl, he, hbr⟩ := hrel
      by_cases hlt : k < n
      · have hlx : k < xs.length := by have := hn'.out; omega
        have hly : k < ys.length := by have := hm'.out; omega
        obtain ⟨b, off, rfl, hlo, hbh⟩ := hs.addr hlx
        obtain ⟨b', off', rfl, hlo', hbh'⟩ := hs'.addr hly
        have a1 := (hs.below hbr hhi).i64 hlx
        have b1 := (hs'.below hbr hhi').i64 hly
        by_cases hq : xs[k] = ys[k]
        · have hq' := hide hq
          have hbeq : (xs[k] != ys[k]) = false := by simp [hq]
          clear hq
          go_wp2
          refine wp_region_T (fun _ => True) [] [] [] [0, 1, 2, 3, 4, 5, 6, 7, 8] (by kernel_rfl) (by kernel_rfl) (by kernel_rfl) trivial ?_; simp only [pickL, List.getElem?_cons_succ, List.getElem?_cons_zero]
          go_wp2_with (first
            | ((with_reducible refine wpT_q0 ?_ ?_ ?_ ?_); (focus rfl); (focus rfl); (focus rfl); intro K hK) | ((with_reducible refine wpT_x0 ?_ ?_ ?_); (focus rfl); (focus rfl); intro K hK) | ((with_reducible refine wpT_noL ?_ ?_); (focus (first | exact wanted_no _ _ _ rfl rfl rfl | exact wanted_un _ _ _ rfl rfl rfl)); simp only [setO, List.set_cons_succ, List.set_cons_zero]) | ((with_reducible refine wpT_q1 ?_ ?_ ?_ ?_); (focus exact wanted_yes _ _ _ rfl rfl rfl); (focus rfl); (focus rfl); intro K hK) | ((with_reducible refine wpT_x1 ?_ ?_ ?_); (focus exact wanted_yes _ _ _ rfl rfl rfl); (focus rfl); intro K hK) | ((with_reducible refine wpT_nil ?_); try dsimp only)
            | fail)
          go_roundw
          case rel => exact ⟨k + 1, by omega, by go_num, hide (take_eq_succ xs ys k hlx hly he.out hq'.out), hbr.trans (Below.drew (Below.refl _ _))⟩
          case measure => simp [intOf]; omega
        · have hq' := hide hq
          have hbne : (xs[k] != ys[k]) = true := by simp [hq]
          clear hq
          go_wp2
          refine wp_region_T (fun _ => True) [] [] [] [0, 1, 2, 3, 4, 5, 6, 7, 8] (by kernel_rfl) (by kernel_rfl) (by kernel_rfl) trivial ?_; simp only [pickL, List.getElem?_cons_succ, List.getElem?_cons_zero]
          go_wp2_with (first
            | ((with_reducible refine wpT_q0 ?_ ?_ ?_ ?_); (focus rfl); (focus rfl); (focus rfl); intro K hK) | ((with_reducible refine wpT_x0 ?_ ?_ ?_); (focus rfl); (focus rfl); intro K hK) | ((with_reducible refine wpT_noL ?_ ?_); (focus (first | exact wanted_no _ _ _ rfl rfl rfl | exact wanted_un _ _ _ rfl rfl rfl)); simp only [setO, List.set_cons_succ, List.set_cons_zero]) | ((with_reducible refine wpT_q1 ?_ ?_ ?_ ?_); (focus exact wanted_yes _ _ _ rfl rfl rfl); (focus rfl); (focus rfl); intro K hK) | ((with_reducible refine wpT_x1 ?_ ?_ ?_); (focus exact wanted_yes _ _ _ rfl rfl rfl); (focus rfl); intro K hK) | ((with_reducible refine wpT_nil ?_); try dsimp only)
            | fail)
          go_ret
          refine ⟨congrArg (fun b => Ending.returned (.bool b)) ?_, hbr.trans (Below.drew (Below.refl _ _))⟩
          have : ¬ xs = ys := fun h => by subst h; exact hq'.out rfl
          simp [this]
      · obtain rfl : k = n := by omega
        go_wp2
        go_ret
        have e1 := he.out
        rw [List.take_of_length_le (by rw [hn'.out]; omega), List.take_of_length_le (by rw [hm'.out]; omega)] at e1
        exact ⟨by simp [e1], hbr⟩
  · have hne : ¬ xs = ys := fun h => by subst h; omega
    have hne' : ((n : Int) != (m : Int)) = true := by simp; omega
    clear hn hm
    go_enter Tryd.func14, Tryd.ntmps14
    go_wp2
    go_ret
    exact ⟨by simp [hne], Below.refl _ _⟩
theorem wpInts_c (A B : Option Addr) (n m c d lo hi lo' hi' : Nat) (xs ys : List Int) (w : World) (hn : n = xs.length) (hm : m = ys.length) (hb : n ≤ 1048576) (hb' : m ≤ 1048576) (hs : Sl encI 1 w lo hi A xs) (hs' : Sl encI 1 w lo' hi' B ys) (hhi : hi ≤ w.heap.size) (hhi' : hi' ≤ w.heap.size) :
    Calls Tryd.prog 23 #[.slice A n c, .slice B m d] w fun e w' => e = .returned (.bool (decide (xs = ys))) ∧ Below w.heap.size w w' := by
  have hn' := hide hn
  have hm' := hide hm
  by_cases hnm : n = m
  · have hxy : xs.length = ys.length := by omega
    have hxy' := hide hxy
    clear hn hm hxy
    subst hnm
    go_enter Tryd.func23, Tryd.ntmps23
    go_wp2
    go_loopw [5] (fun i wr => ∃ k : Nat, k ≤ n ∧ i = .int .i64 k ∧ Hid (xs.take k = ys.take k) ∧ Below w.heap.size w wr) (fun i _ => n - (intOf i).toNat)
    case atStart => exact ⟨0, Nat.zero_le _, rfl, rfl, Below.refl _ _⟩
    case round =>
      obtain ⟨k, hk, rfl, he, hbr⟩ := hrel
      by_cases hlt : k < n
      · have hlx : k < xs.length := by have := hn'.out; omega
        have hly : k < ys.length := by have := hm'.out; omega
        obtain ⟨b, off, rfl, hlo, hbh⟩ := hs.addr hlx
        obtain ⟨b', off', rfl, hlo', hbh'⟩ := hs'.addr hly
        have a1 := (hs.below hbr hhi).i64 hlx
        have b1 := (hs'.below hbr hhi').i64 hly
        by_cases hq : xs[k] = ys[k]
        · have hq' := hide hq
          have hbeq : (xs[k] != ys[k]) = false := by simp [hq]
          clear hq
          go_wp2
          refine wp_region_T (fun _ => True) [] [] [] [0, 1, 2, 3, 4, 5, 6, 7, 8] (by kernel_rfl) (by kernel_rfl) (by kernel_rfl) trivial ?_; simp only [pickL, List.getElem?_cons_succ, List.getElem?_cons_zero]
          go_wp2_with (first
            | ((with_reducible refine wpT_q0 ?_ ?_ ?_ ?_); (focus rfl); (focus rfl); (focus rfl); intro K hK) | ((with_reducible refine wpT_x0 ?_ ?_ ?_); (focus rfl); (focus rfl); intro K hK) | ((with_reducible refine wpT_noL ?_ ?_); (focus (first | exact wanted_no _ _ _ rfl rfl rfl | exact wanted_un _ _ _ rfl rfl rfl)); simp only [setO, List.set_cons_succ, List.set_cons_zero]) | ((with_reducible refine wpT_q1 ?_ ?_ ?_ ?_); (focus exact wanted_yes _ _ _ rfl rfl rfl); (focus rfl); (focus rfl); intro K hK) | ((with_reducible refine wpT_x1 ?_ ?_ ?_); (focus exact wanted_yes _ _ _ rfl rfl rfl); (focus rfl); intro K hK) | ((with_reducible refine wpT_nil ?_); try dsimp only)
            | fail)
          go_roundw
          case rel => exact ⟨k + 1, by omega, by go_num, hide (take_eq_succ xs ys k hlx hly he.out hq'.out), hbr.trans (Below.drew (Below.refl _ _))⟩
          case measure => simp [intOf]; omega
        · have hq' := hide hq
          have hbne : (xs[k] != ys[k]) = true := by simp [hq]
          clear hq
          go_wp2
          refine wp_region_T (fun _ => True) [] [] [] [0, 1, 2, 3, 4, 5, 6, 7, 8] (by kernel_rfl) (by kernel_rfl) (by kernel_rfl) trivial ?_; simp only [pickL, List.getElem?_cons_succ, List.getElem?_cons_zero]
          go_wp2_with (first
            | ((with_reducible refine wpT_q0 ?_ ?_ ?_ ?_); (focus rfl); (focus rfl); (focus rfl); intro K hK) | ((with_reducible refine wpT_x0 ?_ ?_ ?_); (focus rfl); (focus rfl); intro K hK) | ((with_reducible refine wpT_noL ?_ ?_); (focus (first | exact wanted_no _ _ _ rfl rfl rfl | exact wanted_un _ _ _ rfl rfl rfl)); simp only [setO, List.set_cons_succ, List.set_cons_zero]) | ((with_reducible refine wpT_q1 ?_ ?_ ?_ ?_); (focus exact wanted_yes _ _ _ rfl rfl rfl); (focus rfl); (focus rfl); intro K hK) | ((with_reducible refine wpT_x1 ?_ ?_ ?_); (focus exact wanted_yes _ _ _ rfl rfl rfl); (focus rfl); intro K hK) | ((with_reducible refine wpT_nil ?_); try dsimp only)
            | fail)
          go_ret
          refine ⟨congrArg (fun b => Ending.returned (.bool b)) ?_, hbr.trans (Below.drew (Below.refl _ _))⟩
          have : ¬ xs = ys := fun h => by subst h; exact hq'.out rfl
          simp [this]
      · obtain rfl : k = n := by omega
        go_wp2
        go_ret
        have e1 := he.out
        rw [List.take_of_length_le (by rw [hn'.out]; omega), List.take_of_length_le (by rw [hm'.out]; omega)] at e1
        exact ⟨by simp [e1], hbr⟩
  · have hne : ¬ xs = ys := fun h => by subst h; omega
    have hne' : ((n : Int) != (m : Int)) = true := by simp; omega
    clear hn hm
    go_enter Tryd.func23, Tryd.ntmps23
    go_wp2
    go_ret
    exact ⟨by simp [hne], Below.refl _ _⟩

theorem wpSameI_c {A B : Option Addr} {n m c d lo lo' : Nat} {xs : List Int} {w : World} (h : Own encI 1 3 w lo (.slice A n c) xs) (h' : Own encI 1 3 w lo' (.slice B m d) xs) (hb : xs.length ≤ 1048570) :
    Calls Tryd.prog 23 #[.slice A n c, .slice B m d] w fun e w' => e = .returned (.bool true) ∧ Below w.heap.size w w' := by
  obtain ⟨h1, _, h2⟩ := h.slAt encI_len
  obtain ⟨h3, _, h4⟩ := h'.slAt encI_len
  have := wpInts_c A B n m c d _ _ _ _ xs xs w h1 h3 (by omega) (by omega) h2 h4 (Nat.le_refl _) (Nat.le_refl _)
  simpa using this

theorem markIntS_c (A : Option Addr) (n c lo k : Nat) (xs : List Int) (w : World) (hn : n = xs.length) (hb : n ≤ 1048576) (hk0 : 0 < k) (hk1 : k ≤ 1048576) (ho : Own encI 1 3 w lo (.slice A n c) xs) :
    Calls Tryd.prog 26 #[.slice A n c, .int .i64 (k : Int)] w fun e w' => e = .returned (.int .i64 ((k : Int) + n)) ∧ Own encI 1 3 w' lo (.slice A n c) (imarks k n) ∧ Only w.heap.size (Value.slice A n c).ownBlock w w' := by
  have hn' := hide hn
  clear hn
  go_enter Tryd.func26, Tryd.ntmps26
  go_wp2
  go_loopw [1, 5] (fun kk i wr => ∃ j : Nat, j ≤ n ∧ i = .int .i64 j ∧ kk = .int .i64 ((k : Int) + j) ∧ Own encI 1 3 wr lo (.slice A n c) (imarks k j ++ xs.drop j) ∧ Only w.heap.size (Value.slice A n c).ownBlock w wr) (fun _ i _ => n - (intOf i).toNat)
  case atStart => exact ⟨0, Nat.zero_le _, rfl, by go_num, by simpa [imarks] using ho, Only.refl _ _ _⟩
  case round =>
    obtain ⟨j, hj, rfl, rfl, hor, hgr⟩ := hrel
    by_cases hlt : j < n
    · obtain ⟨g, rfl, hg1, hg2⟩ := hor.addrAt hlt
      have hx : j < xs.length := by have := hn'.out; omega
      obtain ⟨u0, c0⟩ := hor.i64At hlt
      have f0 := hor.frozen j
      go_wp2
      go_roundw
      case rel =>
        refine ⟨j + 1, by omega, by go_num, by go_num, ?_, ?_⟩
        · have h5 := hor.put_ encI_len hlt ((k + j : Nat) : Int)
          rw [imarks_set k j xs hx] at h5
          simp only [Nat.mul_one] at h5
          exact h5
        · exact Only.put (encI ((k + j : Nat) : Int)) hgr
      case measure => simp [intOf]; omega
    · obtain rfl : j = n := by omega
      go_wp2
      go_ret
      refine ⟨rfl, ?_, hgr⟩
      rw [List.drop_of_length_le (by rw [hn'.out]; omega), List.append_nil] at hor
      exact hor
theorem heldIntS_c (A : Option Addr) (n c lo hi k : Nat) (w : World) (hb : n ≤ 1048576) (hk0 : 0 < k) (hk1 : k ≤ 1048576) (hs : Sl encI 1 w lo hi A (imarks k n)) (hhi : hi ≤ w.heap.size) :
    Calls Tryd.prog 27 #[.slice A n c, .int .i64 (k : Int)] w fun e w' => e = .returned (.int .i64 ((k : Int) + n)) ∧ Below w.heap.size w w' := by
  go_enter Tryd.func27, Tryd.ntmps27
  go_wp2
  go_loopw [1, 5] (fun kk i wr => ∃ j : Nat, j ≤ n ∧ i = .int .i64 j ∧ kk = .int .i64 ((k : Int) + j) ∧ Below w.heap.size w wr) (fun _ i _ => n - (intOf i).toNat)
  case atStart => exact ⟨0, Nat.zero_le _, rfl, by go_num, Below.refl _ _⟩
  case round =>
    obtain ⟨j, hj, rfl, rfl, hbr⟩ := hrel
    by_cases hlt : j < n
    · have hlx : j < (imarks k n).length := by rw [imarks_len]; exact hlt
      obtain ⟨b, off, rfl, hlo, hbh⟩ := hs.addr hlx
      have a1 := (hs.below hbr hhi).i64 hlx
      have he : (imarks k n)[j] = (k : Int) + (j : Int) := by simp [imarks]
      rw [he] at a1
      clear he
      have hbl : b < wr.heap.size := by have := hbr.size; omega
      have hbeq : ((k : Int) + (j : Int) != (k : Int) + (j : Int)) = false := by simp
      go_wp2
      go_roundw
      case rel => exact ⟨j + 1, by omega, by go_num, by go_num, hbr⟩
      case measure => simp [intOf]; omega
    · obtain rfl : j = n := by omega
      go_wp2
      go_ret
      exact ⟨rfl, hbr⟩


theorem eqSameI_c {A B : Option Addr} {n m c d lo lo' : Nat} {xs : List Int} {w : World} (h : Own encI 1 3 w lo (.slice A n c) xs) (h' : Own encI 1 3 w lo' (.slice B m d) xs) (hb : xs.length ≤ 1048576) :
    Calls Tryd.prog 14 #[.slice A n c, .slice B m d] w fun e w' => e = .returned (.bool true) ∧ Below w.heap.size w w' := by
  obtain ⟨h1, _, h2⟩ := h.slAt encI_len
  obtain ⟨h3, _, h4⟩ := h'.slAt encI_len
  have := eqIntS_c A B n m c d _ _ _ _ xs xs w h1 h3 (by omega) (by omega) h2 h4 (Nat.le_refl _) (Nat.le_refl _)
  simpa using this
theorem markIO_c {A : Option Addr} {n c lo : Nat} {xs : List Int} {w : World} (h : Own encI 1 3 w lo (.slice A n c) xs) (hb : xs.length ≤ 1048570) :
    Calls Tryd.prog 26 #[.slice A n c, .int .i64 1] w fun e w' => e = .returned (.int .i64 (1 + (n : Int))) ∧ Own encI 1 3 w' lo (.slice A n c) (imarks 1 n) ∧ Only w.heap.size (Value.slice A n c).ownBlock w w' := by
  have h1 := h.lenEq
  have := markIntS_c A n c lo 1 xs w h1 (by omega) (by omega) (by omega) h
  simpa using this
theorem heldIO_c {A : Option Addr} {n c lo : Nat} {w : World} (h : Own encI 1 3 w lo (.slice A n c) (imarks 1 n)) (hb : n ≤ 1048570) :
    Calls Tryd.prog 27 #[.slice A n c, .int .i64 1] w fun e w' => e = .returned (.int .i64 (1 + (n : Int))) ∧ Below w.heap.size w w' := by
  have := heldIntS_c A n c _ _ 1 w (by omega) (by omega) (by omega) (h.slAt encI_len).2.2 (Nat.le_refl _)
  simpa using this


end Go.Proofs.YtjhgcppjpolamaaDoor
