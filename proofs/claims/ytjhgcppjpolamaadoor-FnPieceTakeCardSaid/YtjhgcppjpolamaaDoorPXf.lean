/-
  'PieceCheck' in the reference. (Printed by gen_pxd.py.)
-/
import Derived.Test.YtjhgcppjpolamaaDoorPXd
namespace Go.Proofs.YtjhgcppjpolamaaDoor
open Go.RowKit Rg
set_option linter.unusedVariables false
set_option linter.unusedSimpArgs false
set_option maxRecDepth 100000 in
set_option maxHeartbeats 2000000 in
theorem specPieceCheck_c (root many at_ : Int) (s : ByteArray) (A : Option Addr) (n c lo hi : Nat) (p : List Int) (w : World) (hn : n = p.length) (hc : n ≤ c) (hcm : c ≤ maxLen) (hb : n ≤ 1048576) (hs : Sl encI 1 w lo hi A p) (hhi : hi ≤ w.heap.size) (hp : ∀ x ∈ p, I64 x) :
    Calls Tryd.prog 11 #[.int .i64 root, .int .i64 many, .int .i64 at_, .string s, .slice A n c] w fun e w' => e = .returned (.bool (chkR root many at_ s p)) ∧ Below w.heap.size w w' := by
  unfold maxLen at hcm
  by_cases hin : chkIn many at_ s
  case neg =>
    have hno := hide (chkR_no (root := root) (p := p) hin)
    cases e1 : inB many 1 16
    · go_enter Tryd.func11, Tryd.ntmps11
      go_wp2_with (go_at_call 37; refine (l1In_c _ _ _ _).mono ?_; rintro e _ ⟨rfl, rfl⟩)
      go_ret
      exact ⟨by rw [hno.out]; rfl, Below.refl _ _⟩
    · have hm : 1 ≤ many ∧ many ≤ 16 := by simpa [inB] using e1
      cases e2 : inB at_ 0 (many - 1)
      · go_enter Tryd.func11, Tryd.ntmps11
        go_wp2_with (go_at_call 37; refine (l1In_c _ _ _ _).mono ?_; rintro e _ ⟨rfl, rfl⟩)
        go_ret
        exact ⟨by rw [hno.out]; rfl, Below.refl _ _⟩
      · have hs12 : 12 < s.size := by
          rcases Nat.lt_or_ge 12 s.size with h | h
          · exact h
          · exact absurd ⟨e1, e2, h⟩ hin
        have d1 : decide (12 < (s.size : Int)) = true := by simp only [decide_eq_true_eq]; omega
        go_enter Tryd.func11, Tryd.ntmps11
        go_wp2_with (go_at_call 37; refine (l1In_c _ _ _ _).mono ?_; rintro e _ ⟨rfl, rfl⟩)
        go_ret
        exact ⟨by rw [hno.out]; rfl, Below.refl _ _⟩
  case pos =>
    obtain ⟨e1, e2, hs12⟩ := hin
    have hm : 1 ≤ many ∧ many ≤ 16 := by simpa [inB] using e1
    have hib : 0 ≤ at_ ∧ at_ ≤ many - 1 := by simpa [inB] using e2
    obtain ⟨m, rfl⟩ : ∃ m : Nat, many = (m : Int) := ⟨many.toNat, by omega⟩
    obtain ⟨i, rfl⟩ : ∃ i : Nat, at_ = (i : Int) := ⟨at_.toNat, by omega⟩
    have him : i < m := by omega
    have hm16 : m ≤ 16 := by omega
    have d1 : decide (12 < (s.size : Int)) = false := by simp only [decide_eq_false_iff_not]; omega
    have hR : Hid (∀ o, chk m i (leafS (i : Int) s.data.toList) p = o → chkR root (m : Int) (i : Int) s p = decide (o = some root)) := hide (fun o ho => chkR_is ⟨e1, e2, hs12⟩ ho)
    have hS0 := hide (leafS_sum (i : Int) s.data.toList)
    have hn' := hide hn
    clear hn
    go_enter Tryd.func11, Tryd.ntmps11
    go_wp2_with (go_at_call 37; refine (l1In_c _ _ _ _).mono ?_; rintro e _ ⟨rfl, rfl⟩)
    refine (l12Check_c m i s A n c lo hi p _ hn'.out hb hs hhi hp him hm16 hs12).mono ?_
    rintro e w1 ⟨v, b, rfl, hk, hb1⟩
    have hf' := hide (hR.out _ hk)
    clear hk
    cases b
    · have hf2 : Hid (chkR root (m : Int) (i : Int) s p = false) := hide (by rw [hf'.out]; rfl)
      go_wp2
      go_ret
      exact ⟨by rw [hf2.out]; rfl, hb1⟩
    · by_cases hr : v = root
      · subst hr
        have hf2 : Hid (chkR v (m : Int) (i : Int) s p = true) := hide (by rw [hf'.out]; simp)
        go_wp2
        go_ret
        exact ⟨by rw [hf2.out]; rfl, hb1⟩
      · have g5 : (v == root) = false := by simpa using hr
        have hf2 : Hid (chkR root (m : Int) (i : Int) s p = false) := hide (by rw [hf'.out]; simp [hr])
        go_wp2
        go_ret
        exact ⟨by rw [hf2.out]; rfl, hb1⟩
end Go.Proofs.YtjhgcppjpolamaaDoor
