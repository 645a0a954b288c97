/-
  Numbers as text, in both packages. (Cut from MA.)
-/
import Derived.Test.YtajmfonepnkofaaDoorPJ
import Derived.Test.YtajmfonepnkofaaDoorRegA
import Derived.Test.YtajmfonepnkofaaDoorRegG
import Derived.Test.YtajmfonepnkofaaDoorRegI
import Derived.Test.YtajmfonepnkofaaDoorNB
import Derived.Laws.BytesArg
import Derived.Lib.ItoaLen
import Derived.Lib.LaidTab
namespace Go.Proofs.YtajmfonepnkofaaDoor
open Go.RowKit Rg Go.Lib
set_option linter.unusedVariables false
set_option linter.unusedSimpArgs false

theorem ba_ext {a b : ByteArray} (h : a.data = b.data) : a = b := by cases a; cases b; simp at h; rw [h]
theorem run_byte (w : World) (x : Int) : (convert 42 9 (.slice (some ⟨w.heap.size, 0, none⟩) 1 1)).run Tryd.prog (w.alloc (.cells #[.int .u8 x] 5)) = .ok (.string (strOfNums [x])) (w.alloc (.cells #[.int .u8 x] 5)) := by
  refine run_convert_bytes_arg (P := Tryd.prog) _ 42 5 Tryd.underlying42 Tryd.underlying5 w.heap.size 0 1 1 [x] rfl (fun i hi => ?_) 9 Tryd.underlying9
  have h0 : i = 0 := by omega
  subst h0
  simp

def asS (l : List UInt8) : ByteArray := ⟨l.toArray⟩
theorem asS_app (a b : List UInt8) : asS a ++ asS b = asS (a ++ b) := ba_ext (by simp [asS])
theorem asS_list (l : List UInt8) : (asS l).data.toList = l := by simp [asS]
theorem asS_size (l : List UInt8) : (asS l).size = l.length := by simp [asS, ByteArray.size]
theorem asS_of (s : ByteArray) : asS s.data.toList = s := ba_ext (by simp [asS])
theorem digit_text : ∀ d : Nat, d < 10 → strOfNums [48 + (d : Int)] = asS [UInt8.ofNat (48 + d)] := by decide
theorem run_byteAt (w : World) (b : Nat) (x : Int) (h : w.heap[b]? = some (.cells #[.int .u8 x] 5 (0, 0))) : (convert 42 9 (.slice (some ⟨b, 0, none⟩) 1 1)).run Tryd.prog w = .ok (.string (strOfNums [x])) w := by
  refine run_convert_bytes_arg (P := Tryd.prog) _ 42 5 Tryd.underlying42 Tryd.underlying5 b 0 1 1 [x] rfl (fun i hi => ?_) 9 Tryd.underlying9
  have h0 : i = 0 := by omega
  subst h0
  simp [World.cell?, h]
theorem dec_len (u : Nat) (h : u ≤ 9223372036854775807) : (decDigits u).length ≤ 21 := by
  have := itoa_length_le (u : Int) (by omega) (by omega)
  rwa [itoa_nonneg] at this

set_option maxRecDepth 100000 in
set_option maxHeartbeats 1000000 in
theorem l1DecN_c (u : Nat) : ∀ (hu : u ≤ 9223372036854775807) (w : World),
    Calls Tryd.prog 52 #[.int .i64 (u : Int)] w fun e w' => e = .returned (.string (asS (decDigits u))) ∧ Below w.heap.size w w' := by
  induction u using Nat.strongRecOn with
  | _ u ih =>
    intro hu w
    have d1 : decide ((u : Int) < -9223372036854775807) = false := by simp only [decide_eq_false_iff_not]; omega
    have d2 : decide ((u : Int) < 0) = false := by simp only [decide_eq_false_iff_not]; omega
    by_cases h10 : u < 10
    · have d3 : decide ((u : Int) < 10) = true := by simp; omega
      have hcv := run_byte w (48 + (u : Int))
      have hd : Hid (strOfNums [48 + (u : Int)] = asS (decDigits u)) := hide (by rw [decDigits, dif_pos h10]; exact digit_text u h10)
      go_enter Tryd.func52, Tryd.ntmps52
      go_wp2
      go_ret
      exact ⟨congrArg (fun v => Ending.returned (.string v)) hd.out, (Below.refl _ _).alloc (Nat.le_refl _) _⟩
    · have d3 : decide ((u : Int) < 10) = false := by simp; omega
      have hih : Hid (∀ W : World, Calls Tryd.prog 52 #[.int .i64 ((u : Int) / 10)] W fun e w' => e = .returned (.string (asS (decDigits (u / 10)))) ∧ Below W.heap.size W w') := hide (fun W => by
        have := ih (u / 10) (by omega) (by omega) W
        rwa [show (((u / 10 : Nat) : Int)) = (u : Int) / 10 by omega] at this)
      clear ih
      have hd : Hid (asS (decDigits (u / 10)) ++ strOfNums [48 + (u : Int) % 10] = asS (decDigits u)) := hide (by rw [show (u : Int) % 10 = ((u % 10 : Nat) : Int) by omega, decDigits.eq_1 u, dif_neg h10, digit_text (u % 10) (by omega), asS_app])
      have hsz : ¬ 9223372036854775807 < (asS (decDigits (u / 10))).size + (strOfNums [48 + (u : Int) % 10]).size := by
        have := dec_len (u / 10) (by omega)
        rw [asS_size, strOfNums_size]; simp; omega
      have hA : Below w.heap.size w (w.alloc (.cells #[.int .u8 (48 + (u : Int) % 10)] 5)) := (Below.refl _ _).alloc (Nat.le_refl _) _
      have hblk := heap_alloc_new w (.cells #[.int .u8 (48 + (u : Int) % 10)] 5)
      have hblk' := hide hblk
      have hcvA := run_byteAt (w.alloc (.cells #[.int .u8 (48 + (u : Int) % 10)] 5)).drew w.heap.size _ hblk
      clear hblk
      go_enter Tryd.func52, Tryd.ntmps52
      go_wp2
      refine wp_region_O (fun _ => True) [] [24, 26] [19, 22, 23] (Ord.seg [0, 1, 3, 4, 5] (Ord.both 2 6 (Ord.seg [6, 7, 8, 9, 10] Ord.done) (Ord.seg [] (Ord.both 2 7 (Ord.seg [7, 8, 9, 10] Ord.done) (Ord.seg [] (Ord.both 2 8 (Ord.seg [8, 9, 10] Ord.done) (Ord.seg [2, 9, 10] Ord.done))))))) (by kernel_rfl) (by kernel_rfl) (by kernel_rfl) trivial ?_
      go_wp2_with (first
        | (go_at_call 52; refine (hih.out _).mono ?_; rintro e w1 ⟨rfl, hb1⟩; have hcv1 := run_byte w1 (48 + (u : Int) % 10); (try have hcvB := run_byteAt w1 w.heap.size (48 + (u : Int) % 10) ((hb1.block _ (by simp)).trans hblk'.out)))
        | ((with_reducible refine wpO_seg ?_); simp only [pickL, List.toList_toArray, List.getElem?_cons_succ, List.getElem?_cons_zero]) | ((with_reducible refine wpO_both ?_ ?_) <;> simp only [pickL, List.toList_toArray, List.getElem?_cons_succ, List.getElem?_cons_zero]) | ((with_reducible refine wpO_three ?_ ?_ ?_) <;> simp only [pickL, List.toList_toArray, List.getElem?_cons_succ, List.getElem?_cons_zero]) | ((with_reducible refine wpO_done ?_); try dsimp only) | ((with_reducible refine wpT_q0 ?_ ?_ ?_ ?_); (focus rfl); (focus rfl); (focus rfl); intro K hK) | ((with_reducible refine wpT_b ?_ ?_); (focus (exact ⟨_, _, _, _, _, _, _, _, _, rfl, rfl, rfl, rfl, rfl, rfl⟩)); intro K hK) | ((with_reducible refine wpT_x0 ?_ ?_ ?_); (focus rfl); (focus rfl); intro K hK) | ((with_reducible refine wpT_noL ?_ ?_); (focus (first | exact wanted_no _ _ _ rfl rfl rfl | exact wanted_un _ _ _ rfl rfl rfl)); simp only [setO, List.set_cons_succ, List.set_cons_zero]) | ((with_reducible refine wpT_q1 ?_ ?_ ?_ ?_); (focus exact wanted_yes _ _ _ rfl rfl rfl); (focus rfl); (focus rfl); intro K hK) | ((with_reducible refine wpT_x1 ?_ ?_ ?_); (focus exact wanted_yes _ _ _ rfl rfl rfl); (focus rfl); intro K hK) | ((with_reducible refine wpT_nil ?_); try dsimp only)
        | fail)
      all_goals go_ret
      all_goals refine ⟨congrArg (fun v => Ending.returned (.string v)) hd.out, ?_⟩
      all_goals first
        | exact Below.alloc (Below.trans (Below.drew (Below.refl w.heap.size w)) hb1) hb1.size _
        | exact hA.drew.trans (hb1.mono (by simp))
theorem itoa_min : itoa (-9223372036854775808) = [45, 57, 50, 50, 51, 51, 55, 50, 48, 51, 54, 56, 53, 52, 55, 55, 53, 56, 48, 56] := by
  unfold itoa
  rw [if_pos (by decide)]
  repeat (rw [decDigits]; simp)
set_option maxRecDepth 100000 in
set_option maxHeartbeats 1000000 in
theorem l1Dec_c (n : Int) (h0 : -9223372036854775808 ≤ n) (h1 : n ≤ 9223372036854775807) (w : World) :
    Calls Tryd.prog 52 #[.int .i64 n] w fun e w' => e = .returned (.string (asS (itoa n))) ∧ Below w.heap.size w w' := by
  by_cases hneg : n < 0
  · by_cases hmin : n < -9223372036854775807
    · obtain rfl : n = -9223372036854775808 := by omega
      go_enter Tryd.func52, Tryd.ntmps52
      go_wp2
      go_ret
      exact ⟨by rw [itoa_min]; rfl, Below.refl _ _⟩
    · obtain ⟨u, rfl⟩ : ∃ u : Nat, n = -(u : Int) := ⟨n.natAbs, by omega⟩
      have hu : 1 ≤ u := by omega
      have d1 : decide (-(u : Int) < -9223372036854775807) = false := by simp only [decide_eq_false_iff_not]; omega
      have d2 : decide (-(u : Int) < 0) = true := by simp only [decide_eq_true_eq]; omega
      have hd : Hid (asS [45] ++ asS (decDigits u) = asS (itoa (-(u : Int)))) := hide (by rw [itoa_neg u hu, asS_app]; rfl)
      have hsz : ¬ 9223372036854775807 < 1 + (asS (decDigits u)).size := by
        have := dec_len u (by omega)
        rw [asS_size]; omega
      go_enter Tryd.func52, Tryd.ntmps52
      go_wp2_with fail
      refine (l1DecN_c u (by omega) w).mono ?_
      rintro e w1 ⟨rfl, hb1⟩
      go_wp2
      go_ret
      exact ⟨congrArg (fun v => Ending.returned (.string v)) hd.out, hb1⟩
  · obtain ⟨u, rfl⟩ : ∃ u : Nat, n = (u : Int) := ⟨n.toNat, by omega⟩
    rw [itoa_nonneg]
    exact l1DecN_c u (by omega) w
/-- The library's table lies as its text lays it. -/
def Tab (w : World) : Prop := TabIs Tryd.prog w "internal/strconv.uint64pow10" .u64 pow10Tab
theorem Tab.below {w w' : World} (h : Tab w) (hb : Below w.heap.size w w') : Tab w' := by
  unfold Tab TabIs World.var? at *
  cases hg : Tryd.prog.globalNamed "internal/strconv.uint64pow10" with
  | none => simp [hg] at h
  | some g =>
    simp only [hg, Option.bind_some] at h ⊢
    have hlt : g < w.heap.size := by
      rcases Nat.lt_or_ge g w.heap.size with h' | h'
      · exact h'
      · rw [Array.getElem?_eq_none h'] at h; simp at h
    rw [hb.block g hlt]
    exact h
theorem below_grow {w : World} (k : Nat) (os : Array Obj) : Below w.heap.size w (Go.Sort.grow (w.drewN k) os) :=
  ⟨rfl, rfl, rfl, by simp, fun j hj => Go.Sort.heap_grow_old (w.drewN k) os hj⟩
theorem Itoa_c (n : Int) (h0 : -9223372036854775808 ≤ n) (h1 : n ≤ 9223372036854775807) (w : World) (ht : Tab w) :
    Calls Tryd.prog 76 #[.int .i64 n] w fun e w' => e = .returned (.string (asS (itoa n))) ∧ Below w.heap.size w w' := by
  refine (strconv_Itoa n h0 h1 w ht).mono ?_
  rintro e w' ⟨rfl, k, os, rfl⟩
  exact ⟨rfl, below_grow k os⟩
theorem ItoaS_c (i : Nat) (hi : i < 100) (w : World) :
    Calls Tryd.prog 76 #[.int .i64 (i : Int)] w fun e w' => e = .returned (.string (asS (itoa (i : Int)))) ∧ w' = w := by
  rw [itoa_nonneg]
  exact strconv_Itoa_small i hi w

theorem lenI (i : Int) (h0 : -9223372036854775808 ≤ i) (h1 : i ≤ 9223372036854775807) : (asS (itoa i)).size ≤ 21 := by rw [asS_size]; exact itoa_length_le i h0 h1

end Go.Proofs.YtajmfonepnkofaaDoor
