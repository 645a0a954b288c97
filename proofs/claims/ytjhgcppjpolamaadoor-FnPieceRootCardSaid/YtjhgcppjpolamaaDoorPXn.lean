/-
  'FnPieceCheck': the law.
-/
import Derived.Test.YtjhgcppjpolamaaDoorPXm
import Derived.Test.YtjhgcppjpolamaaDoorPXf
import Derived.Test.YtjhgcppjpolamaaDoorPXt
namespace Go.Proofs.YtjhgcppjpolamaaDoor
open Go.RowKit Rg
set_option linter.unusedVariables false
set_option linter.unusedSimpArgs false

theorem chk_sum : ∀ (n : Nat) (i : Nat) (s : Int) (p : List Int) (r : Int), chk n i s p = some r → Sum s → Sum r := by
  intro n
  induction n using Nat.strongRecOn with
  | _ n ih =>
    intro i s p r h hs
    by_cases h1 : n ≤ 1
    · rw [chk_one h1] at h
      split at h
      · injection h with h; subst h; exact hs
      · cases h
    · by_cases h2 : oth i < n
      · cases p with
        | nil => rw [chk_nil h1 h2] at h; cases h
        | cons x p =>
          rw [chk_cons h1 h2] at h
          refine ih _ (by omega) _ _ _ _ h ?_
          split
          · exact nodeS_sum _ _
          · exact nodeS_sum _ _
      · rw [chk_pass h1 h2] at h
        exact ih _ (by omega) _ _ _ _ h hs
theorem chkR_yes {root many at_ : Int} {s : ByteArray} {p : List Int} (h : chkR root many at_ s p = true) : chk many.toNat at_.toNat (leafS at_ s.data.toList) p = some root := by
  simp only [chkR, decide_eq_true_eq] at h
  exact h.2
theorem chkR_sum {root many at_ : Int} {s : ByteArray} {p : List Int} (h : chkR root many at_ s p = true) : Sum root := chk_sum _ _ _ _ _ (chkR_yes h) (leafS_sum _ _)
theorem chkR_tail {root many at_ : Int} {s : ByteArray} {x : Int} {p : List Int} (h : chkR root many at_ s (x :: p) = true) : chkR root many at_ s p = false := by
  have h1 := chk_len _ _ _ _ _ (chkR_yes h)
  cases e : chkR root many at_ s p
  · rfl
  · have h2 := chk_len _ _ _ _ _ (chkR_yes e)
    simp at h1
    omega
theorem chkR_more {root many at_ : Int} {s : ByteArray} {p q : List Int} (h : chkR root many at_ s p = true) (hq : q.length = p.length + 1) : chkR root many at_ s q = false := by
  have h1 := chk_len _ _ _ _ _ (chkR_yes h)
  cases e : chkR root many at_ s q
  · rfl
  · have h2 := chk_len _ _ _ _ _ (chkR_yes e)
    omega
theorem chkR_other {root root' many at_ : Int} {s : ByteArray} {p : List Int} (h : chkR root many at_ s p = true) (hr : root' ≠ root) : chkR root' many at_ s p = false := by
  have h1 := chkR_yes h
  cases e : chkR root' many at_ s p
  · rfl
  · have h2 := chkR_yes e
    rw [h1] at h2
    injection h2 with h2
    exact absurd h2.symm hr
theorem xor_root {r : Int} (h : Sum r) : bits .xor .i64 r 1 ≠ r := by
  unfold Sum at h
  obtain ⟨k, rfl⟩ : ∃ k : Nat, r = (k : Int) := ⟨r.toNat, by omega⟩
  rw [xor_i64 (k : Int) 1 (by omega) (by omega) (by omega) (by omega)]
  show ((k ^^^ 1 : Nat) : Int) ≠ _
  rw [oth_xor]
  unfold oth
  split <;> omega
set_option maxRecDepth 100000 in
set_option maxHeartbeats 2000000 in
theorem lawPieceCheckD (A : Option Addr) (n c : Nat) (bs : List Int) (w : World) (hn : n = bs.length) (hc : n ≤ c) (hcm : c ≤ maxLen) (hs : Sl encU 1 w 0 w.heap.size A bs) (hb : ∀ b ∈ bs, 0 ≤ b ∧ b < 256) (ht : Tab w) :
    Calls Tryd.prog 4 #[.slice A n c] w fun e w' => e = .returned (.bool true) ∧ Below w.heap.size w w' := by
  by_cases hbig : 1048576 < n
  · have d1 : decide (1048576 < (n : Int)) = true := by simp only [decide_eq_true_eq]; omega
    go_enter Tryd.func4, Tryd.ntmps4
    go_wp2
    go_ret
    exact ⟨rfl, Below.refl _ _⟩
  · have d1 : decide (1048576 < (n : Int)) = false := by simp only [decide_eq_false_iff_not]; omega
    have hn' := hide hn
    clear hn
    go_enter Tryd.func4, Tryd.ntmps4
    go_wp2_with fail
    refine (DrawPieceCheck_c A n c bs w hn'.out hc hcm hs hb).mono ?_
    rintro e w1 ⟨root, many, at_, s, v, p, rfl, hsz, hpl, hpi, ho, hb1⟩
    obtain ⟨A1, n1, c1, rfl, hn1⟩ := ho.shape
    have hcap := ho.cap
    have hcm1 := hcap.2
    unfold maxLen at hcm1
    have hsl := (ho.slAt encI_len).2.2
    have hn20 : n1 ≤ 20 := by have := hn1.out; omega
    have imp : ∀ (r : Int) (W : World), Below w1.heap.size w1 W → Calls Tryd.prog 13 #[.int .i64 r, .int .i64 many, .int .i64 at_, .string s, .slice A1 n1 c1] W fun e w' => e = .returned (.bool (chkR r many at_ s p)) ∧ Below W.heap.size W w' := fun r W hW =>
      PieceCheck_c r many at_ s A1 n1 c1 _ _ p W hn1.out hcap.1 hcap.2 (by omega) (hsl.below hW (Nat.le_refl _)) hW.size hpi ((ht.below hb1).below hW)
    have spc : ∀ (r : Int) (W : World), Below w1.heap.size w1 W → Calls Tryd.prog 11 #[.int .i64 r, .int .i64 many, .int .i64 at_, .string s, .slice A1 n1 c1] W fun e w' => e = .returned (.bool (chkR r many at_ s p)) ∧ Below W.heap.size W w' := fun r W hW =>
      specPieceCheck_c r many at_ s A1 n1 c1 _ _ p W hn1.out hcap.1 hcap.2 (by omega) (hsl.below hW (Nat.le_refl _)) hW.size hpi
    have imp' := hide imp
    have spc' := hide spc
    clear imp spc
    go_wp2_with fail
    refine (imp'.out root w1 (Below.refl _ _)).mono ?_
    rintro e w2 ⟨rfl, hb2⟩
    have hb2' := hide hb2
    have hB2 := hide (hb1.trans (hb2.mono hb1.size))
    cases e1 : chkR root many at_ s p
    · have q0 : (false != false) = false := by decide
      have q1 : (false == false) = true := by decide
      go_wp2_with fail
      refine (spc'.out root w2 hb2'.out).mono ?_
      rintro e w3 ⟨rfl, hb3⟩
      have hB3 := hide (hB2.out.trans (hb3.mono hB2.out.size))
      have hb3' := hide (hb2'.out.trans (hb3.mono hb2'.out.size))
      rw [e1]
      go_wp2_with fail
      refine (spc'.out root w3 hb3'.out).mono ?_
      rintro e w4 ⟨rfl, hb4⟩
      rw [e1]
      go_wp2
      go_ret
      exact ⟨rfl, hB3.out.trans (hb4.mono hB3.out.size)⟩
    · have q0 : (true != true) = false := by decide
      have q1 : (true == true) = true := by decide
      go_wp2_with fail
      refine (spc'.out root w2 hb2'.out).mono ?_
      rintro e w3 ⟨rfl, hb3⟩
      have hB3 := hide (hB2.out.trans (hb3.mono hB2.out.size))
      have hb3' := hide (hb2'.out.trans (hb3.mono hb2'.out.size))
      rw [e1]
      cases p with
      | nil =>
        have hn0 : n1 = 0 := hn1.out
        subst hn0
        go_wp2_with fail
        refine (spc'.out root w3 hb3'.out).mono ?_
        rintro e w4 ⟨rfl, hb4⟩
        rw [e1]
        go_wp2
        go_ret
        exact ⟨rfl, hB3.out.trans (hb4.mono hB3.out.size)⟩
      | cons x q =>
        have hn2 : n1 = q.length + 1 := hn1.out
        obtain ⟨n2, rfl⟩ : ∃ n2, n1 = n2 + 1 := ⟨q.length, hn2⟩
        have hn3 : Hid (n2 = q.length) := hide (by omega)
        obtain ⟨b, off, rfl, hlo, hbh⟩ := hsl.addr (k := 0) (by simp)
        have hst2 : Hid (Sl encI 1 w3 0 w3.heap.size (some ⟨b, off + 1, none⟩) q) := hide (((hsl.below hb3'.out (Nat.le_refl _)).tail.mono (Nat.zero_le _) hb3'.out.size).keep (fun _ _ _ => rfl))
        have hcap1 := hcap.1
        have htl := chkR_tail e1
        have hso := hide (chkR_other (root' := bits .xor .i64 root 1) e1 (xor_root (chkR_sum e1)))
        have hpi2 : Hid (∀ y ∈ q, I64 y) := hide (fun y hy => hpi y (by simp [hy]))
        have g3 : (((n2 + 1 : Nat) : Int) == 0) = false := by simp only [beq_eq_false_iff_ne, ne_eq]; omega
        have g3' : ((n2 : Int) + 1 == 0) = false := by simp only [beq_eq_false_iff_ne, ne_eq]; omega
        have hT3 := ht.below hB3.out
        clear hn2 hn1
        have hq0 : c1 = 1 → Sl encI 1 w3 0 w3.heap.size (some ⟨b, off, none⟩) q ∧ n2 = 0 := fun h => by
          have h9 : q = [] := List.eq_nil_of_length_eq_zero (by have := hn3.out; omega)
          have h8 : n2 = 0 := by omega
          exact ⟨by rw [h9]; exact Sl.nil_, h8⟩
        have hq0' := hide hq0
        clear hq0
        by_cases hc1 : c1 = 1
        · obtain ⟨hst1, h20⟩ := hq0'.out hc1
          subst hc1
          subst h20
          have hst1' := hide hst1
          clear hst1
          go_wp2_with fail
          refine (PieceCheck_c root many at_ s (some ⟨b, off, none⟩) 0 0 0 w3.heap.size q w3 hn3.out (Nat.le_refl _) (Nat.zero_le _) (Nat.zero_le _) hst1'.out (Nat.le_refl _) hpi2.out hT3).mono ?_
          rintro e w4 ⟨rfl, hb4⟩
          rw [htl]
          have hb4' := hide (hb3'.out.trans (hb4.mono hb3'.out.size))
          have hB4 := hide (hB3.out.trans (hb4.mono hB3.out.size))
          go_wp2_with fail
          refine (imp'.out _ w4 hb4'.out).mono ?_
          rintro e w5 ⟨rfl, hb5⟩
          rw [hso.out]
          go_wp2
          go_ret
          exact ⟨rfl, hB4.out.trans (hb5.mono hB4.out.size)⟩
        · go_wp2_with fail
          refine (PieceCheck_c root many at_ s (some ⟨b, off + 1, none⟩) n2 (c1 - 1) 0 w3.heap.size q w3 hn3.out (by omega) (by unfold maxLen; omega) (by omega) hst2.out (Nat.le_refl _) hpi2.out hT3).mono ?_
          rintro e w4 ⟨rfl, hb4⟩
          rw [htl]
          have hb4' := hide (hb3'.out.trans (hb4.mono hb3'.out.size))
          have hB4 := hide (hB3.out.trans (hb4.mono hB3.out.size))
          go_wp2_with fail
          refine (imp'.out _ w4 hb4'.out).mono ?_
          rintro e w5 ⟨rfl, hb5⟩
          rw [hso.out]
          go_wp2
          go_ret
          exact ⟨rfl, hB4.out.trans (hb5.mono hB4.out.size)⟩
end Go.Proofs.YtjhgcppjpolamaaDoor
