/-
  Pieces: copies and comparisons of slices of texts.
-/
import Derived.Test.YtjhgcppjpolamaaDoorPC
namespace Go.Proofs.YtjhgcppjpolamaaDoor
open Go.RowKit Rg
set_option linter.unusedVariables false
set_option linter.unusedSimpArgs false

theorem equal_c (A B : Option Addr) (n m c d lo hi lo' hi' : Nat) (xs ys : List ByteArray) (w : World) (hn : n = xs.length) (hm : m = ys.length) (hb : n ≤ 1048576) (hb' : m ≤ 1048576) (hs : Sl encS 1 w lo hi A xs) (hs' : Sl encS 1 w lo' hi' B ys) (hhi : hi ≤ w.heap.size) (hhi' : hi' ≤ w.heap.size) :
    Calls Tryd.prog 66 #[.slice A n c, .slice B m d] w fun e w' => e = .returned (.bool (decide (xs = ys))) ∧ Below w.heap.size w w' := by
  have hn' := hide hn
  have hm' := hide hm
  by_cases hnm : n = m
  · have hxy : xs.length = ys.length := by omega
    have hxy' := hide hxy
    clear hn hm hxy
    subst hnm
    go_enter Tryd.func66, Tryd.ntmps66
    go_wp2
    go_loopw [5, 13] (fun _ i wr => ∃ k : Nat, k ≤ n ∧ i = .int .i64 k ∧ Hid (xs.take k = ys.take k) ∧ Below w.heap.size w wr) (fun _ i _ => n - (intOf i).toNat)
    case atStart => exact ⟨0, Nat.zero_le _, rfl, rfl, Below.refl _ _⟩
    case round =>
      obtain ⟨k, hk, rfl, he, hbr⟩ := hrel
      by_cases hlt : k < n
      · have hlx : k < xs.length := by have := hn'.out; omega
        have hly : k < ys.length := by have := hm'.out; omega
        obtain ⟨b, off, rfl, hlo, hbh⟩ := hs.addr hlx
        obtain ⟨b', off', rfl, hlo', hbh'⟩ := hs'.addr hly
        have a1 := (hs.below hbr hhi).str hlx
        have b1 := (hs'.below hbr hhi').str hly
        by_cases hq : xs[k] = ys[k]
        · have hq' := hide hq
          go_wp2
          refine wp_region_T (fun _ => True) [] [] [] [0, 1, 2, 3, 4, 5, 6, 7, 8] (by kernel_rfl) (by kernel_rfl) (by kernel_rfl) trivial ?_; simp only [pickL, List.getElem?_cons_succ, List.getElem?_cons_zero]
          go_wp2_with (first
            | ((with_reducible refine wpT_q0 ?_ ?_ ?_ ?_); (focus rfl); (focus rfl); (focus rfl); intro K hK) | ((with_reducible refine wpT_x0 ?_ ?_ ?_); (focus rfl); (focus rfl); intro K hK) | ((with_reducible refine wpT_noL ?_ ?_); (focus (first | exact wanted_no _ _ _ rfl rfl rfl | exact wanted_un _ _ _ rfl rfl rfl)); simp only [setO, List.set_cons_succ, List.set_cons_zero]) | ((with_reducible refine wpT_q1 ?_ ?_ ?_ ?_); (focus exact wanted_yes _ _ _ rfl rfl rfl); (focus rfl); (focus rfl); intro K hK) | ((with_reducible refine wpT_x1 ?_ ?_ ?_); (focus exact wanted_yes _ _ _ rfl rfl rfl); (focus rfl); intro K hK) | ((with_reducible refine wpT_nil ?_); try dsimp only)
            | fail)
          go_roundw
          case rel => exact ⟨k + 1, by omega, by go_num, hide (take_eq_succ xs ys k hlx hly he.out hq'.out), hbr.trans (Below.drew (Below.refl _ _))⟩
          case measure => simp [intOf]; omega
        · have hq' := hide hq
          have hbne : (xs[k].toList == ys[k].toList) = false := beq_false_of_ne fun h => hq (by rw [ByteArray.toList_eq, ByteArray.toList_eq] at h; exact Go.WideShapes.bytes_inj h)
          clear hq
          go_wp2
          refine wp_region_T (fun _ => True) [] [] [] [0, 1, 2, 3, 4, 5, 6, 7, 8] (by kernel_rfl) (by kernel_rfl) (by kernel_rfl) trivial ?_; simp only [pickL, List.getElem?_cons_succ, List.getElem?_cons_zero]
          go_wp2_with (first
            | ((with_reducible refine wpT_q0 ?_ ?_ ?_ ?_); (focus rfl); (focus rfl); (focus rfl); intro K hK) | ((with_reducible refine wpT_x0 ?_ ?_ ?_); (focus rfl); (focus rfl); intro K hK) | ((with_reducible refine wpT_noL ?_ ?_); (focus (first | exact wanted_no _ _ _ rfl rfl rfl | exact wanted_un _ _ _ rfl rfl rfl)); simp only [setO, List.set_cons_succ, List.set_cons_zero]) | ((with_reducible refine wpT_q1 ?_ ?_ ?_ ?_); (focus exact wanted_yes _ _ _ rfl rfl rfl); (focus rfl); (focus rfl); intro K hK) | ((with_reducible refine wpT_x1 ?_ ?_ ?_); (focus exact wanted_yes _ _ _ rfl rfl rfl); (focus rfl); intro K hK) | ((with_reducible refine wpT_nil ?_); try dsimp only)
            | fail)
          go_ret
          refine ⟨congrArg (fun b => Ending.returned (.bool b)) ?_, hbr.trans (Below.drew (Below.refl _ _))⟩
          have : ¬ xs = ys := fun h => by subst h; exact hq'.out rfl
          simp [this]
      · obtain rfl : k = n := by omega
        go_wp2
        go_ret
        have e1 := he.out
        rw [List.take_of_length_le (by rw [hn'.out]; omega), List.take_of_length_le (by rw [hm'.out]; omega)] at e1
        exact ⟨by simp [e1], hbr⟩
  · have hne : ¬ xs = ys := fun h => by subst h; omega
    have hne' : ((n : Int) != (m : Int)) = true := by simp; omega
    clear hn hm
    go_enter Tryd.func66, Tryd.ntmps66
    go_wp2
    go_ret
    exact ⟨by simp [hne], Below.refl _ _⟩

theorem info_partsS : (Tryd.prog.info? 9).map (fun i => (i.zero, i.size, i.bytes)) = some (some (.string ⟨#[]⟩), 1, 16) := infoS
theorem take_set_replicate {α : Type} (xs : List α) (z : α) (k n : Nat) (hn : n = xs.length) (hk : k < n) : (xs.take k ++ List.replicate (n - k) z).set k (xs[k]'(by omega)) = xs.take (k + 1) ++ List.replicate (n - (k + 1)) z := by
  subst hn
  have h1 : (xs.take k).length = k := by simp; omega
  rw [List.set_append_right _ _ (by omega), h1, Nat.sub_self, show xs.length - k = (xs.length - (k + 1)) + 1 by omega, List.replicate_succ, List.set_cons_zero,
    List.take_succ_eq_append_getElem hk, List.append_assoc]
  rfl
theorem Own.strAt {w : World} {lo g n c k : Nat} {e : TypeId} {xs : List ByteArray} (h : Own encS 1 e w lo (.slice (some ⟨g, 0, none⟩) n c) xs) (hk : k < n) : ∃ a : ByteArray, w.cell? ⟨g, k, none⟩ = some (.string a) := by
  obtain ⟨rfl, _, hs⟩ := h.slAt encS_len
  have := hs.str hk
  simp only [Nat.zero_add] at this
  exact ⟨_, this⟩
theorem toStringS_c (A : Option Addr) (n c lo hi : Nat) (xs : List ByteArray) (w : World) (hn : n = xs.length) (hb : n ≤ 1048576) (hs : Sl encS 1 w lo hi A xs) (hhi : hi ≤ w.heap.size) :
    Calls Tryd.prog 18 #[.slice A n c] w fun e w' => ∃ v, e = .returned v ∧ Own encS 1 9 w' w.heap.size v xs ∧ Below w.heap.size w w' := by
  have hmk := fun W => run_make_n (P := Tryd.prog) 30 9 (info_parts infoS).choose _ Tryd.underlying30 (info_parts infoS).choose_spec.1 (info_parts infoS).choose_spec.2.1 .i64 .i64 n (by rw [(info_parts infoS).choose_spec.2.2.2]; omega) (by omega) W
  rw [(info_parts infoS).choose_spec.2.2.1] at hmk
  have hown : Own encS 1 9 (w.alloc (.cells (madeCells (Value.string ⟨#[]⟩).cells (n * 1)) 9)) w.heap.size (.slice (some ⟨w.heap.size, 0, none⟩) n n) (List.replicate n ⟨#[]⟩) :=
    own_made encS_len (by omega) _ w _ n ⟨#[]⟩ (.string ⟨#[]⟩) rfl (Nat.le_refl _) (by unfold maxLen; omega)
  rw [Nat.mul_one] at hown
  have hn' := hide hn
  clear hn
  go_enter Tryd.func18, Tryd.ntmps18
  go_wp2
  go_loopw [4] (fun i wr => ∃ k : Nat, k ≤ n ∧ i = .int .i64 k ∧ Own encS 1 9 wr w.heap.size (.slice (some ⟨w.heap.size, 0, none⟩) n n) (xs.take k ++ List.replicate (n - k) ⟨#[]⟩) ∧ Below w.heap.size w wr) (fun i _ => n - (intOf i).toNat)
  case atStart => exact ⟨0, Nat.zero_le _, rfl, by rw [List.take_zero, List.nil_append, Nat.sub_zero]; exact hown, (Below.refl _ _).alloc (Nat.le_refl _) _⟩
  case round =>
    obtain ⟨k, hk, rfl, ho, hbr⟩ := hrel
    by_cases hlt : k < n
    · have hlx : k < xs.length := by have := hn'.out; omega
      obtain ⟨b, off, rfl, hlo, hbh⟩ := hs.addr hlx
      have a1 := (hs.below hbr hhi).str hlx
      obtain ⟨u0, c0⟩ := ho.strAt hlt
      have f0 := ho.frozen k
      go_wp2
      go_roundw
      case rel =>
        refine ⟨k + 1, by omega, by go_num, ?_, ?_⟩
        · have := ho.put_ encS_len hlt xs[k]
          rw [take_set_replicate xs _ k n hn'.out hlt, Nat.mul_one] at this
          exact this
        · exact hbr.setCell (by simp) _
      case measure => simp [intOf]; omega
    · obtain rfl : k = n := by omega
      go_wp2
      go_ret
      refine ⟨_, rfl, ?_, hbr⟩
      rw [Nat.sub_self, List.replicate_zero, List.append_nil, List.take_of_length_le (by rw [hn'.out]; omega)] at ho
      exact ho

/-- The sum of the sizes. -/
def sumS : List ByteArray → Nat
  | [] => 0
  | x :: xs => x.size + sumS xs
theorem sumS_app (xs ys : List ByteArray) : sumS (xs ++ ys) = sumS xs + sumS ys := by
  induction xs with
  | nil => simp [sumS]
  | cons x xs ih => simp [sumS, ih]; omega
theorem sumS_take (xs : List ByteArray) (k : Nat) (h : k < xs.length) : sumS (xs.take (k + 1)) = sumS (xs.take k) + xs[k].size := by
  rw [List.take_succ_eq_append_getElem h, sumS_app]; simp [sumS]
theorem sumS_le (xs : List ByteArray) (k : Nat) : sumS (xs.take k) ≤ sumS xs := by
  have := sumS_app (xs.take k) (xs.drop k)
  rw [List.take_append_drop] at this
  omega
def szS (xs : List ByteArray) : Int := if xs.length + sumS xs ≤ 1048576 then 1048576 - ((xs.length : Int) + (sumS xs : Int)) else -1
theorem szStringS_c (A : Option Addr) (n c lo hi : Nat) (xs : List ByteArray) (w : World) (hn : n = xs.length) (hb : n ≤ maxLen) (hg : ∀ x ∈ xs, x.size ≤ maxLen) (hs : Sl encS 1 w lo hi A xs) (hhi : hi ≤ w.heap.size) :
    Calls Tryd.prog 16 #[.slice A n c, .int .i64 1048576] w fun e w' => e = .returned (.int .i64 (szS xs)) ∧ w = w' := by
  have hn' := hide hn
  clear hn
  unfold maxLen at hb
  by_cases hbn : n ≤ 1048576
  · have d0 : decide ((1048576 : Int) - (n : Int) < 0) = false := by simp; omega
    go_enter Tryd.func16, Tryd.ntmps16
    go_wp2
    go_loop [1, 5] (fun lv i => ∃ k : Nat, k ≤ n ∧ i = .int .i64 k ∧ lv = .int .i64 (1048576 - ((n : Int) + (sumS (xs.take k) : Int))) ∧ n + sumS (xs.take k) ≤ 1048576) (fun _ i => n - (intOf i).toNat)
    case atStart => exact ⟨0, Nat.zero_le _, rfl, by simp [sumS], by simp [sumS]; omega⟩
    case round =>
      obtain ⟨k, hk, rfl, rfl, hz⟩ := hrel
      by_cases hlt : k < n
      · have hlx : k < xs.length := by have := hn'.out; omega
        obtain ⟨b, off, rfl, hlo, hbh⟩ := hs.addr hlx
        have a1 := hs.str hlx
        have hx := hg xs[k] (List.getElem_mem _)
        have ht := hide (sumS_take xs k hlx)
        unfold maxLen at hx
        by_cases hneg : 1048576 < n + sumS (xs.take k) + xs[k].size
        · have d1 : decide ((1048576 : Int) - ((n : Int) + (sumS (xs.take k) : Int)) - (xs[k].size : Int) < 0) = true := by simp; omega
          go_wp2
          go_ret
          refine ⟨?_, rfl⟩
          have hle := sumS_le xs (k + 1)
          have := ht.out
          have := hn'.out
          rw [szS, if_neg (by omega)]; rfl
        · have d1 : decide ((1048576 : Int) - ((n : Int) + (sumS (xs.take k) : Int)) - (xs[k].size : Int) < 0) = false := by simp; omega
          go_wp2
          go_roundw
          case rel => exact ⟨k + 1, by omega, by go_num, by have := ht.out; simp; omega, by have := ht.out; omega⟩
          case measure => simp [intOf]; omega
      · obtain rfl : k = n := by omega
        go_wp2
        go_ret
        refine ⟨?_, rfl⟩
        rw [List.take_of_length_le (by rw [hn'.out]; omega)] at hz
        have := hn'.out
        rw [szS, if_pos (by omega), List.take_of_length_le (by omega), ← this]; rfl
  · have d0 : decide ((1048576 : Int) - (n : Int) < 0) = true := by simp; omega
    go_enter Tryd.func16, Tryd.ntmps16
    go_wp2
    go_ret
    refine ⟨?_, rfl⟩
    have := hn'.out
    rw [szS, if_neg (by omega)]; rfl
end Go.Proofs.YtjhgcppjpolamaaDoor
