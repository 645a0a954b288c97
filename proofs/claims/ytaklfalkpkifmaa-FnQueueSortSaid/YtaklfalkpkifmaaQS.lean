/-
  The specification's 'QueueTill'.
-/
import Derived.Test.YtaklfalkpkifmaaQR
namespace Go.Proofs.Ytaklfalkpkifmaa
open Go.RowKit Rg
set_option linter.unusedVariables false

set_option maxHeartbeats 2000000 in
theorem specQueueTill_c (A : Option Addr) (n c lo hi : Nat) (at_ : Int) (xs : List Tm) (w : World) (hn : n = xs.length) (hb : n ≤ 1048576) (hs : Sl encT 3 w lo hi A xs) (hhi : hi ≤ w.heap.size) :
    Calls Try.prog 27 #[.slice A n c, .int .i64 at_] w fun e w' => ∃ v u, e = .returned (.tuple #[v, u]) ∧ Own encT 3 31 w' w.heap.size v (tillQ at_ xs).1 ∧ Own encT 3 31 w' w.heap.size u (tillQ at_ xs).2 ∧ Below w.heap.size w w' := by
  have hn' := hide hn
  clear hn
  have hW : Below w.heap.size w (w.alloc (.cells #[] 31)) := (Below.refl _ _).alloc (Nat.le_refl _) _
  have ho0 := own_empty encT 3 31 w
  go_enter Try.func27, Try.ntmps27
  go_wp2_with fail
  refine (l13Ok_c A n c lo hi xs _ hn'.out hb (hs.below hW hhi) (Nat.le_trans hhi hW.size)).mono ?_
  rintro e w1 ⟨rfl, hb1⟩
  have hB1 : Below w.heap.size w w1 := hW.trans (hb1.mono hW.size)
  have ho1 := ho0.below hb1 (Nat.le_refl _)
  cases e1 : decide (okQ xs)
  · have hno : tillQ at_ xs = ([], []) := by simp at e1; simp [tillQ, e1]
    go_wp2
    refine bodyPost_ret (v := .tuple #[.slice none 0 0, .slice (some ⟨w.heap.size, 0, none⟩) 0 0]) (by simp [results, Try.results27, go_sem]) rfl ⟨_, _, rfl, ?_, ?_, hB1⟩
    · rw [hno]; exact Own.nil_ _ _ _ _ _
    · rw [hno]; exact ho1
  · have hok : Hid (okQ xs) := hide (of_decide_eq_true e1)
    have hle : n ≤ 20 := by have := hok.out.2; have := hn'.out; omega
    have hq : Hid (tillQ at_ xs = tillL at_ xs []) := hide (by rw [tillQ, if_pos hok.out])
    go_wp2_with (at_builtin; refine wpList_app encT_len (by omega) encT_one rfl _ _ 25 rfl 31 _ 24 Try.underlying25 info_T rfl w1.heap.size _ [] rfl (own_empty encT 3 _ w1) lo hi _ xs _ _ rfl hn'.out ?h1 ?h2 ?h3 ?_)
    case h1 => exact hs.below (hB1.alloc hB1.size _) hhi
    case h2 => have := hn'.out; simp [maxLen]; omega
    case h3 => simp
    intro v2 w2 ho2' hg2 hb2'
    have hb2 : Below w1.heap.size w1 w2 := ((Below.refl _ _).alloc (Nat.le_refl _) _).trans hb2'
    have hB2 : Below w.heap.size w w2 := hB1.trans (hb2.mono hB1.size)
    have ho2 : Own encT 3 31 w2 w.heap.size v2 xs := by simpa using ho2'.mono hB1.size
    have hd2 := ho1.below hb2 (Nat.le_refl _)
    clear ho2' hg2 hb2'
    go_wp2
    go_loopw [6, 7, 8, 9, 10] (fun dv rv _ _ _ wr => ∃ (rest done : List Tm), Hid (rest.length + done.length = n) ∧ Hid (okQ rest) ∧ Own encT 3 31 wr w.heap.size rv rest ∧ Own encT 3 31 wr w.heap.size dv done ∧ Hid (tillL at_ rest done = tillL at_ xs []) ∧ Below w.heap.size w wr) (fun _ rv _ _ _ _ => lenOf' rv)
    case atStart => exact ⟨xs, [], hide (by have := hn'.out; simp; omega), hok, ho2, hd2, hide rfl, hB2⟩
    case round =>
      obtain ⟨rest, done, hsum, hokr, hor, hod, hte, hbr⟩ := hrel
      obtain ⟨Ar, cr, rfl, hcr1, hcr2, hsr⟩ := hor.sl encT_len
      obtain ⟨Ad, cd, rfl, hcd1, hcd2, hsd⟩ := hod.sl encT_len
      have hdl : done.length ≤ 20 := by have := hsum.out; omega
      have hrl : rest.length ≤ 20 := by have := hsum.out; omega
      by_cases h0 : 0 < rest.length
      · have d1 : decide (0 < (rest.length : Int)) = true := by simpa using h0
        obtain ⟨g, rfl, hg1, hg2⟩ := hor.addrAt (k := 0) h0
        obtain ⟨z1, z2, z3⟩ := hor.tm h0
        simp only [Nat.zero_mul, Nat.zero_add] at z1 z2 z3
        by_cases hle2 : rest[0].1 ≤ at_
        · have d2 : decide (rest[0].1 ≤ at_) = true := by simpa using hle2
          have hnx := nextL_yes (xs := rest) (by simpa using hokr.out) h0
          have hc := specQueueNext_c (some ⟨g, 0, none⟩) rest.length cr _ _ rest wr rfl (by omega) hsr (Nat.le_refl _)
          rw [hnx] at hc
          dsimp only at hc
          have hc' := hide hc
          clear hc hnx
          go_wp2_with fail
          refine hc'.out.mono ?_
          rintro e w3 ⟨v3, rfl, ho3, hb3⟩
          have hB3 : Below w.heap.size w w3 := hbr.trans (hb3.mono hbr.size)
          have hod3 := hod.below hb3 (Nat.le_refl _)
          clear z1 z2 z3 hc'
          obtain ⟨A3, c3, rfl, hc31, hc32, hs3⟩ := ho3.sl encT_len
          have hne : ∀ b, (Value.slice A3 (popL rest h0).length c3).ownBlock = some b → (Value.slice Ad done.length cd).ownBlock = some b → False := fun b g1 g2 => by have := (ho3.lt b g1).1; have := (hod.lt b g2).2; omega
          go_wp2_with (at_builtin; refine wpList_app encT_len (by omega) encT_one rfl _ _ 25 rfl 31 _ 24 Try.underlying25 info_T rfl w.heap.size _ done rfl ((hod3.alloc _).alloc _) 0 _ _ [rest[0]] _ _ rfl rfl (sl_one' (w3.alloc _) _ rest[0] _ (by simp)) ?h2 ?h3 ?_)
          case h2 => simp [maxLen]; omega
          case h3 => simp; have := hB3.size; omega
          intro v5 w5 ho5 hg5 hb5
          go_wp2
          go_roundw
          case rel =>
            exact ⟨popL rest h0, done ++ [rest[0]], hide (by have := hsum.out; rw [popL_len]; simp; omega), hide (okQ_pop hokr.out h0), (((ho3.mono hbr.size).alloc _).alloc _).only (Only.of_grown hg5) (Nat.le_refl _) (fun b g1 g2 => hne b g1 g2), ho5, hide ((tillL_step h0 hle2).symm.trans hte.out), ((hB3.alloc hB3.size _).alloc (by simp; have := hB3.size; omega) _).trans hb5⟩
          case measure => simp [lenOf', popL_len]; omega
        · have d2 : decide (rest[0].1 ≤ at_) = false := by simpa using hle2
          have hf := hide ((tillL_stop (done := done) h0 hle2).symm.trans hte.out)
          clear hte
          go_wp2
          refine bodyPost_ret (v := .tuple #[.slice (some ⟨g, 0, none⟩) rest.length cr, .slice Ad done.length cd]) (by simp [results, Try.results27, go_sem]) rfl ⟨_, _, rfl, ?_, ?_, hbr⟩
          · rw [hq.out, ← hf.out]; exact hor
          · rw [hq.out, ← hf.out]; exact hod
      · have d1 : decide (0 < (rest.length : Int)) = false := by simpa using h0
        have hf := hide ((tillL_end (at_ := at_) (xs := rest) (done := done) h0).symm.trans hte.out)
        clear hte
        go_wp2
        refine bodyPost_ret (v := .tuple #[.slice Ar rest.length cr, .slice Ad done.length cd]) (by simp [results, Try.results27, go_sem]) rfl ⟨_, _, rfl, ?_, ?_, hbr⟩
        · rw [hq.out, ← hf.out]; exact hor
        · rw [hq.out, ← hf.out]; exact hod
end Go.Proofs.Ytaklfalkpkifmaa
