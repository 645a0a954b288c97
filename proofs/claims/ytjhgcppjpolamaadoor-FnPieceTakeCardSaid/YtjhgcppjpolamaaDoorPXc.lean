/-
  The sum of a piece, and of two sums, in both packages: 'leaf', 'node', 'l12Leaf', 'l12Node'.
  Conditions: 'node' reads the library's table of powers of ten ('Tab').
-/
import Derived.Test.YtjhgcppjpolamaaDoorPXb
namespace Go.Proofs.YtjhgcppjpolamaaDoor
open Go.RowKit Rg Go.Lib
set_option linter.unusedVariables false
set_option linter.unusedSimpArgs false

/-- The library's table lies as its text lays it. -/
def Tab (w : World) : Prop := TabIs Tryd.prog w "internal/strconv.uint64pow10" .u64 pow10Tab
theorem Tab.below {w w' : World} (h : Tab w) (hb : Below w.heap.size w w') : Tab w' := by
  unfold Tab TabIs World.var? at *
  cases hg : Tryd.prog.globalNamed "internal/strconv.uint64pow10" with
  | none => simp [hg] at h
  | some g =>
    simp only [hg, Option.bind_some] at h ⊢
    have hlt : g < w.heap.size := by
      rcases Nat.lt_or_ge g w.heap.size with h' | h'
      · exact h'
      · rw [Array.getElem?_eq_none h'] at h; simp at h
    rw [hb.block g hlt]
    exact h
theorem below_grow {w : World} (k : Nat) (os : Array Obj) : Below w.heap.size w (Go.Sort.grow (w.drewN k) os) :=
  ⟨rfl, rfl, rfl, by simp, fun j hj => Go.Sort.heap_grow_old (w.drewN k) os hj⟩
theorem Itoa_c (n : Int) (h0 : -9223372036854775808 ≤ n) (h1 : n ≤ 9223372036854775807) (w : World) (ht : Tab w) :
    Calls Tryd.prog 64 #[.int .i64 n] w fun e w' => e = .returned (.string (asS (itoa n))) ∧ Below w.heap.size w w' := by
  refine (strconv_Itoa n h0 h1 w ht).mono ?_
  rintro e w' ⟨rfl, k, os, rfl⟩
  exact ⟨rfl, below_grow k os⟩
theorem ItoaS_c (i : Nat) (hi : i < 100) (w : World) :
    Calls Tryd.prog 64 #[.int .i64 (i : Int)] w fun e w' => e = .returned (.string (asS (itoa (i : Int)))) ∧ w' = w := by
  rw [itoa_nonneg]
  exact strconv_Itoa_small i hi w

theorem leaf_text (i : Int) (s : ByteArray) : ((asS [108, 101, 97, 102, 32] ++ asS (itoa i)) ++ asS [32]) ++ s = asS (leafB i s.data.toList) := by
  have := asS_of s
  rw [← this, asS_app, asS_app, asS_app, asS_list]
  rfl
theorem node_text (a b : Int) : ((asS [110, 111, 100, 101, 32] ++ asS (itoa a)) ++ asS [32]) ++ asS (itoa b) = asS (nodeB a b) := by
  rw [asS_app, asS_app, asS_app]
  rfl
theorem crc_asS (l : List UInt8) : crcN (asS l).data.toList = crcN l := by rw [asS_list]
theorem lenI (i : Int) (h0 : -9223372036854775808 ≤ i) (h1 : i ≤ 9223372036854775807) : (asS (itoa i)).size ≤ 21 := by rw [asS_size]; exact itoa_length_le i h0 h1
theorem leaf_size (i : Int) (s : ByteArray) (h0 : -9223372036854775808 ≤ i) (h1 : i ≤ 9223372036854775807) (hs : s.size ≤ 100) : (asS (leafB i s.data.toList)).size ≤ 1048576 := by
  have := itoa_length_le i h0 h1
  have e : s.data.toList.length = s.size := rfl
  rw [asS_size]; unfold leafB; simp only [List.length_append, List.length_cons, List.length_nil, e]; omega
theorem node_size (a b : Int) (h0 : -9223372036854775808 ≤ a) (h1 : a ≤ 9223372036854775807) (h2 : -9223372036854775808 ≤ b) (h3 : b ≤ 9223372036854775807) : (asS (nodeB a b)).size ≤ 1048576 := by
  have := itoa_length_le a h0 h1
  have := itoa_length_le b h2 h3
  rw [asS_size]; unfold nodeB; simp only [List.length_append, List.length_cons, List.length_nil]; omega
set_option maxRecDepth 100000 in
theorem leaf_c (i : Nat) (hi : i < 100) (s : ByteArray) (hs : s.size ≤ 100) (w : World) :
    Calls Tryd.prog 40 #[.int .i64 (i : Int), .string s] w fun e w' => e = .returned (.int .i64 (leafS (i : Int) s.data.toList)) ∧ w = w' := by
  have hI := lenI (i : Int) (by omega) (by omega)
  have hL := leaf_size (i : Int) s (by omega) (by omega) hs
  have hcr : Hid ((crcN (asS (leafB (i : Int) s.data.toList)).data.toList : Int) = leafS (i : Int) s.data.toList) := hide (by rw [crc_asS]; rfl)
  have hC := fun W => Crc_c (asS (leafB (i : Int) s.data.toList)) W hL
  rw [hcr.out] at hC
  rw [← leaf_text (i : Int) s] at hC
  have hC' := hide hC
  clear hC hcr hL
  have z1 : ¬ 9223372036854775807 < 5 + (asS (itoa (i : Int))).size := by omega
  have z2 : ¬ 9223372036854775807 < 5 + (asS (itoa (i : Int))).size + 1 := by omega
  have z3 : ¬ 9223372036854775807 < 5 + (asS (itoa (i : Int))).size + 1 + s.size := by omega
  go_enter Tryd.func40, Tryd.ntmps40
  go_wp2_with (go_at_call 64; refine (ItoaS_c i hi w).mono ?_; rintro e w1 ⟨rfl, rfl⟩)
  refine (hC'.out w1).mono ?_
  rintro e w2 ⟨rfl, rfl⟩
  go_wp2
  go_ret
  exact ⟨rfl, rfl⟩
set_option maxRecDepth 100000 in
theorem l12Leaf_c (i : Nat) (hi : i < 100) (s : ByteArray) (hs : s.size ≤ 100) (w : World) :
    Calls Tryd.prog 61 #[.int .i64 (i : Int), .string s] w fun e w' => e = .returned (.int .i64 (leafS (i : Int) s.data.toList)) ∧ Below w.heap.size w w' := by
  have hI := lenI (i : Int) (by omega) (by omega)
  have hL := leaf_size (i : Int) s (by omega) (by omega) hs
  have hcr : Hid ((crcN (asS (leafB (i : Int) s.data.toList)).data.toList : Int) = leafS (i : Int) s.data.toList) := hide (by rw [crc_asS]; rfl)
  have hC := fun W => l7Crc_c (asS (leafB (i : Int) s.data.toList)) W hL
  rw [hcr.out] at hC
  rw [← leaf_text (i : Int) s] at hC
  have hC' := hide hC
  clear hC hcr hL
  have z1 : ¬ 9223372036854775807 < 5 + (asS (itoa (i : Int))).size := by omega
  have z2 : ¬ 9223372036854775807 < 5 + (asS (itoa (i : Int))).size + 1 := by omega
  have z3 : ¬ 9223372036854775807 < 5 + (asS (itoa (i : Int))).size + 1 + s.size := by omega
  go_enter Tryd.func61, Tryd.ntmps61
  go_wp2_with (go_at_call 72; refine (l1Dec_c (i : Int) (by omega) (by omega) w).mono ?_; rintro e w1 ⟨rfl, hb1⟩)
  refine (hC'.out w1).mono ?_
  rintro e w2 ⟨rfl, rfl⟩
  go_wp2
  go_ret
  exact ⟨rfl, hb1⟩
set_option maxRecDepth 100000 in
theorem node_c (a b : Int) (h0 : -9223372036854775808 ≤ a) (h1 : a ≤ 9223372036854775807) (h2 : -9223372036854775808 ≤ b) (h3 : b ≤ 9223372036854775807) (w : World) (ht : Tab w) :
    Calls Tryd.prog 41 #[.int .i64 a, .int .i64 b] w fun e w' => e = .returned (.int .i64 (nodeS a b)) ∧ Below w.heap.size w w' := by
  have hI := lenI a h0 h1
  have hJ := lenI b h2 h3
  have hL := node_size a b h0 h1 h2 h3
  have hcr : Hid ((crcN (asS (nodeB a b)).data.toList : Int) = nodeS a b) := hide (by rw [crc_asS]; rfl)
  have hC := fun W => Crc_c (asS (nodeB a b)) W hL
  rw [hcr.out] at hC
  rw [← node_text a b] at hC
  have hC' := hide hC
  clear hC hcr hL
  have z1 : ¬ 9223372036854775807 < 5 + (asS (itoa a)).size := by omega
  have z2 : ¬ 9223372036854775807 < 5 + (asS (itoa a)).size + 1 := by omega
  have z3 : ¬ 9223372036854775807 < 5 + (asS (itoa a)).size + 1 + (asS (itoa b)).size := by omega
  go_enter Tryd.func41, Tryd.ntmps41
  go_wp2_with fail
  refine (Itoa_c a h0 h1 _ ht).mono ?_
  rintro e w1 ⟨rfl, hb1⟩
  have ht1 := ht.below hb1
  go_wp2_with fail
  refine (Itoa_c b h2 h3 _ ht1).mono ?_
  rintro e w2 ⟨rfl, hb2⟩
  go_wp2_with fail
  refine (hC'.out w2).mono ?_
  rintro e w3 ⟨rfl, rfl⟩
  go_wp2
  go_ret
  exact ⟨rfl, hb1.trans (hb2.mono hb1.size)⟩
set_option maxRecDepth 100000 in
theorem l12Node_c (a b : Int) (h0 : -9223372036854775808 ≤ a) (h1 : a ≤ 9223372036854775807) (h2 : -9223372036854775808 ≤ b) (h3 : b ≤ 9223372036854775807) (w : World) :
    Calls Tryd.prog 62 #[.int .i64 a, .int .i64 b] w fun e w' => e = .returned (.int .i64 (nodeS a b)) ∧ Below w.heap.size w w' := by
  have hI := lenI a h0 h1
  have hJ := lenI b h2 h3
  have hL := node_size a b h0 h1 h2 h3
  have hcr : Hid ((crcN (asS (nodeB a b)).data.toList : Int) = nodeS a b) := hide (by rw [crc_asS]; rfl)
  have hC := fun W => l7Crc_c (asS (nodeB a b)) W hL
  rw [hcr.out] at hC
  rw [← node_text a b] at hC
  have hC' := hide hC
  clear hC hcr hL
  have z1 : ¬ 9223372036854775807 < 5 + (asS (itoa a)).size := by omega
  have z2 : ¬ 9223372036854775807 < 5 + (asS (itoa a)).size + 1 := by omega
  have z3 : ¬ 9223372036854775807 < 5 + (asS (itoa a)).size + 1 + (asS (itoa b)).size := by omega
  go_enter Tryd.func62, Tryd.ntmps62
  go_wp2_with fail
  refine (l1Dec_c a h0 h1 _).mono ?_
  rintro e w1 ⟨rfl, hb1⟩
  skip
  go_wp2_with fail
  refine (l1Dec_c b h2 h3 _).mono ?_
  rintro e w2 ⟨rfl, hb2⟩
  go_wp2_with fail
  refine (hC'.out w2).mono ?_
  rintro e w3 ⟨rfl, rfl⟩
  go_wp2
  go_ret
  exact ⟨rfl, hb1.trans (hb2.mono hb1.size)⟩
end Go.Proofs.YtjhgcppjpolamaaDoor
