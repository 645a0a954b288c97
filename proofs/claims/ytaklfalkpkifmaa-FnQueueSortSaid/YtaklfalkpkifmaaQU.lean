/-
  'QueueSort' in both packages.
-/
import Derived.Test.YtaklfalkpkifmaaQS
import Derived.Test.YtaklfalkpkifmaaQK
namespace Go.Proofs.Ytaklfalkpkifmaa
open Go.RowKit Rg
set_option linter.unusedVariables false

/-- Things added one after another; none if one cannot be. -/
def addAll (q : List Tm) : List Tm → Option (List Tm)
  | [] => some q
  | t :: ts => if (addL q t).2 = true then addAll (addL q t).1 ts else none
/-- What 'QueueSort' answers. -/
def sortL (xs : List Tm) : List Tm := match addAll [] xs with
  | some q => (tillQ 999 q).2
  | none => []
theorem drop_cons {α : Type} (xs : List α) (k : Nat) (h : k < xs.length) : xs.drop k = xs[k] :: xs.drop (k + 1) := List.drop_eq_getElem_cons h
theorem riseAt_len2 (k : Nat) (ys : List Tm) : (riseAt k ys).length = ys.length := riseAt_len k ys
theorem addL_len20 {q : List Tm} {t : Tm} (h : (addL q t).2 = true) : (addL q t).1.length ≤ 20 := by
  unfold addL at h ⊢
  split at h
  · rename_i h1
    rw [if_pos h1]
    split at h
    · rename_i h2
      rw [if_pos h2]
      simp only [riseAt_len, List.length_append, List.length_cons, List.length_nil]
      omega
    · simp at h
  · simp at h

set_option maxHeartbeats 2000000 in
theorem QueueSort_c (A : Option Addr) (n c lo hi : Nat) (xs : List Tm) (w : World) (hn : n = xs.length) (hb : n ≤ 1048576) (hs : Sl encT 3 w lo hi A xs) (hhi : hi ≤ w.heap.size) :
    Calls Try.prog 33 #[.slice A n c] w fun e w' => ∃ v, e = .returned v ∧ Own encT 3 31 w' w.heap.size v (sortL xs) ∧ Below w.heap.size w w' := by
  have hn' := hide hn
  clear hn
  go_enter Try.func33, Try.ntmps33
  go_wp2_with fail
  go_loopw [3, 5, 6, 7, 12] (fun qv _ _ _ iv wr => ∃ (k : Nat) (q : List Tm), k ≤ n ∧ iv = .int .i64 k ∧ Hid (q.length ≤ 20) ∧ Own encT 3 31 wr w.heap.size qv q ∧ Hid (addAll [] xs = addAll q (xs.drop k)) ∧ Below w.heap.size w wr) (fun _ _ _ _ iv _ => n - (intOf iv).toNat)
  case atStart => exact ⟨0, [], Nat.zero_le _, rfl, hide (by simp), Own.nil_ _ _ _ _ _, hide (by simp), Below.refl _ _⟩
  case round =>
    obtain ⟨k, q, hk, rfl, hql, hoq, had, hbr⟩ := hrel
    obtain ⟨Aq, cq, rfl, hcq1, hcq2, hsq⟩ := hoq.sl encT_len
    have hqb : q.length ≤ 1048576 := by have := hql.out; omega
    by_cases hlt : k < n
    · have hlx : k < xs.length := by have := hn'.out; omega
      obtain ⟨b, off, rfl, hlo, hbh⟩ := hs.addr hlx
      obtain ⟨a1, a2, a3⟩ := (hs.below hbr hhi).tm hlx
      have hdr := hide (had.out.trans (by rw [drop_cons xs k hlx]; rfl : addAll q (xs.drop k) = if (addL q xs[k]).2 = true then addAll (addL q xs[k]).1 (xs.drop (k + 1)) else none))
      have hW1 : Below w.heap.size w (wr.alloc (.cells #[.int .i64 xs[k].1, .int .i64 xs[k].2.1, .int .i64 xs[k].2.2] 31)) := hbr.alloc hbr.size _
      have hsq1 := hsq.below ((Below.refl _ wr).alloc (Nat.le_refl _) (.cells #[.int .i64 xs[k].1, .int .i64 xs[k].2.1, .int .i64 xs[k].2.2] 31)) (Nat.le_refl _)
      clear had
      go_wp2_with fail
      refine (QueueAdd_c Aq q.length cq _ _ q xs[k] _ rfl hqb hcq1 hcq2 hsq1 (by simp)).mono ?_
      rintro e w2 ⟨v2, rfl, ho2, hb2⟩
      have hB2 : Below w.heap.size w w2 := hW1.trans (hb2.mono hW1.size)
      cases e1 : (addL q xs[k]).2
      · go_wp2
        go_ret
        refine ⟨_, rfl, ?_, hB2⟩
        have hno : sortL xs = [] := by unfold sortL; rw [hdr.out, e1]; rfl
        rw [hno]
        exact Own.nil_ _ _ _ _ _
      · have hl20 := hide (addL_len20 e1)
        go_wp2
        go_roundw
        case rel => exact ⟨k + 1, (addL q xs[k]).1, by omega, by go_num, hl20, ho2.mono hW1.size, hide (by rw [hdr.out, if_pos e1]), hB2⟩
        case measure => simp [intOf]; omega
    · obtain rfl : k = n := by omega
      have hq : Hid (sortL xs = (tillQ 999 q).2) := hide (by unfold sortL; rw [had.out, List.drop_of_length_le (by rw [hn'.out]; omega)]; rfl)
      go_wp2_with fail
      refine (QueueTill_c Aq q.length cq _ _ 999 q wr rfl hqb hcq1 hcq2 hsq (Nat.le_refl _)).mono ?_
      rintro e w2 ⟨v2, u2, rfl, ho2, hu2, hne2, hb2⟩
      go_wp2
      go_ret
      refine ⟨_, rfl, ?_, hbr.trans (hb2.mono hbr.size)⟩
      rw [hq.out]
      exact hu2.mono hbr.size
set_option maxHeartbeats 2000000 in
theorem specQueueSort_c (A : Option Addr) (n c lo hi : Nat) (xs : List Tm) (w : World) (hn : n = xs.length) (hb : n ≤ 1048576) (hs : Sl encT 3 w lo hi A xs) (hhi : hi ≤ w.heap.size) :
    Calls Try.prog 34 #[.slice A n c] w fun e w' => ∃ v, e = .returned v ∧ Own encT 3 31 w' w.heap.size v (sortL xs) ∧ Below w.heap.size w w' := by
  have hn' := hide hn
  clear hn
  go_enter Try.func34, Try.ntmps34
  go_wp2_with fail
  go_loopw [3, 4, 5, 6] (fun qv iv _ _ wr => ∃ (k : Nat) (q : List Tm), k ≤ n ∧ iv = .int .i64 k ∧ Hid (q.length ≤ 20) ∧ Own encT 3 31 wr w.heap.size qv q ∧ Hid (addAll [] xs = addAll q (xs.drop k)) ∧ Below w.heap.size w wr) (fun _ iv _ _ _ => n - (intOf iv).toNat)
  case atStart => exact ⟨0, [], Nat.zero_le _, rfl, hide (by simp), own_empty encT 3 31 w, hide (by simp), (Below.refl _ _).alloc (Nat.le_refl _) _⟩
  case round =>
    obtain ⟨k, q, hk, rfl, hql, hoq, had, hbr⟩ := hrel
    obtain ⟨Aq, cq, rfl, hcq1, hcq2, hsq⟩ := hoq.sl encT_len
    have hqb : q.length ≤ 1048576 := by have := hql.out; omega
    by_cases hlt : k < n
    · have hlx : k < xs.length := by have := hn'.out; omega
      obtain ⟨b, off, rfl, hlo, hbh⟩ := hs.addr hlx
      obtain ⟨a1, a2, a3⟩ := (hs.below hbr hhi).tm hlx
      have hdr := hide (had.out.trans (by rw [drop_cons xs k hlx]; rfl : addAll q (xs.drop k) = if (addL q xs[k]).2 = true then addAll (addL q xs[k]).1 (xs.drop (k + 1)) else none))
      clear had
      go_wp2_with fail
      refine (specQueueAdd_c Aq q.length cq _ _ q xs[k] wr rfl hqb hsq (Nat.le_refl _)).mono ?_
      rintro e w2 ⟨v2, rfl, ho2, hb2⟩
      have hB2 : Below w.heap.size w w2 := hbr.trans (hb2.mono hbr.size)
      cases e1 : (addL q xs[k]).2
      · go_wp2
        go_ret
        refine ⟨_, rfl, ?_, hB2⟩
        have hno : sortL xs = [] := by unfold sortL; rw [hdr.out, e1]; rfl
        rw [hno]
        exact Own.nil_ _ _ _ _ _
      · have hl20 := hide (addL_len20 e1)
        go_wp2
        go_roundw
        case rel => exact ⟨k + 1, (addL q xs[k]).1, by omega, by go_num, hl20, ho2.mono hbr.size, hide (by rw [hdr.out, if_pos e1]), hB2⟩
        case measure => simp [intOf]; omega
    · obtain rfl : k = n := by omega
      have hq : Hid (sortL xs = (tillQ 999 q).2) := hide (by unfold sortL; rw [had.out, List.drop_of_length_le (by rw [hn'.out]; omega)]; rfl)
      go_wp2_with fail
      refine (specQueueTill_c Aq q.length cq _ _ 999 q wr rfl hqb hsq (Nat.le_refl _)).mono ?_
      rintro e w2 ⟨v2, u2, rfl, ho2, hu2, hb2⟩
      go_wp2
      go_ret
      refine ⟨_, rfl, ?_, hbr.trans (hb2.mono hbr.size)⟩
      rw [hq.out]
      exact hu2.mono hbr.size
end Go.Proofs.Ytaklfalkpkifmaa
