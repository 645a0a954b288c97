/-
  What the queue's laws are drawn of: 'DrawQueueNext', 'DrawQueueTill', 'DrawQueueAdd'; 'wpFirst'.
-/
import Derived.Test.YtaklfalkpkifmaaQY
namespace Go.Proofs.Ytaklfalkpkifmaa
open Go.RowKit Rg
set_option linter.unusedVariables false

theorem wpFirst_c (t u : Tm) (w : World) : Calls Try.prog 30 #[.agg #[.int .i64 t.1, .int .i64 t.2.1, .int .i64 t.2.2], .agg #[.int .i64 u.1, .int .i64 u.2.1, .int .i64 u.2.2]] w fun e w' => e = .returned (.bool (ltT t u)) ∧ Below w.heap.size w w' := by
  have hz : ltT t u = (decide (t.1 < u.1) || (decide (t.1 = u.1) && (decide (t.2.1 < u.2.1) || (decide (t.2.1 = u.2.1) && decide (t.2.2 < u.2.2))))) := by
    rw [Bool.eq_iff_iff, ltT_iff]
    simp
  rw [hz]
  clear hz
  go_enter Try.func30, Try.ntmps30
  go_wp2
  all_goals
    go_ret
    refine ⟨congrArg (fun b => Ending.returned (.bool b)) ?_, (((Below.refl _ _).alloc (Nat.le_refl _) _).alloc (by simp) _)⟩
    simp [*]
theorem DrawQueueNext_c (A : Option Addr) (n c : Nat) (bs : List Int) (w : World) (hn : n = bs.length) (hc : n ≤ c) (hcm : c ≤ maxLen) (hs : Sl encU 1 w 0 w.heap.size A bs) (hb : ∀ b ∈ bs, 0 ≤ b ∧ b < 256) :
    Calls Try.prog 29 #[.slice A n c] w fun e w' => ∃ (v : Value) (q : List Tm), e = .returned v ∧ q.length ≤ 25 ∧ Own encT 3 31 w' w.heap.size v q ∧ Below w.heap.size w w' := by
  have hn' := hide hn
  have hb' := hide hb
  clear hn hb
  go_enter Try.func29, Try.ntmps29
  go_wp2_with fail
  refine (l20Open_c A n c bs w hn'.out hc hcm hs hb'.out).mono ?_
  rintro e w1 ⟨rfl, hr1, hb1⟩
  go_wp2_with fail
  refine (l20Queue_c _ 0 w1 hr1 (by omega)).mono ?_
  rintro e w2 ⟨v, q, rfl, hq, ho, hr2, h2⟩
  have hb2 := hb1.trans (h2.toBelow hb1.size (fun k hk => by injection hk with hk; omega))
  go_wp2
  go_ret
  exact ⟨v, q, rfl, hq, ho.mono hb1.size, hb2⟩
theorem DrawQueueTill_c (A : Option Addr) (n c : Nat) (bs : List Int) (w : World) (hn : n = bs.length) (hc : n ≤ c) (hcm : c ≤ maxLen) (hs : Sl encU 1 w 0 w.heap.size A bs) (hb : ∀ b ∈ bs, 0 ≤ b ∧ b < 256) :
    Calls Try.prog 31 #[.slice A n c] w fun e w' => ∃ (v : Value) (q : List Tm) (x : Int), e = .returned (.tuple #[v, .int .i64 x]) ∧ q.length ≤ 25 ∧ Own encT 3 31 w' w.heap.size v q ∧ Below w.heap.size w w' := by
  have hn' := hide hn
  have hb' := hide hb
  clear hn hb
  go_enter Try.func31, Try.ntmps31
  go_wp2_with fail
  refine (l20Open_c A n c bs w hn'.out hc hcm hs hb'.out).mono ?_
  rintro e w1 ⟨rfl, hr1, hb1⟩
  go_wp2_with fail
  refine (l20Queue_c _ 0 w1 hr1 (by omega)).mono ?_
  rintro e w2 ⟨v, q, rfl, hq, ho, hr2, h2⟩
  have hb2 := hb1.trans (h2.toBelow hb1.size (fun k hk => by injection hk with hk; omega))
  have hb3 := (Below.refl w2.heap.size w2).alloc (Nat.le_refl _) (.cells #[.int .i64 (-1), .int .i64 0, .int .i64 3, .int .i64 6, .int .i64 999] 3)
  have hs3 := sl_arr encI_len w2 #[.int .i64 (-1), .int .i64 0, .int .i64 3, .int .i64 6, .int .i64 999] 3 [-1, 0, 3, 6, 999] rfl
  have hr3 := hr2.keep hb3
  have ho3 := ho.below hb3 (Nat.le_refl _)
  have hB3 := hb2.trans (hb3.mono hb2.size)
  go_wp2_with fail
  refine (one_c _ _ _ _ _ 5 5 [-1, 0, 3, 6, 999] _ hr3 (by omega) rfl (by omega) (by omega) hs3 hr2.lt (by simp)).mono ?_
  rintro e w4 ⟨x, hx, rfl, hr4, h4⟩
  have ho4 := ho3.only h4 (Nat.le_refl _) (fun b hb' e => by injection e with e; have := (ho3.lt b hb').1; have := hr1.lt; omega)
  have hB4 := hB3.trans (h4.toBelow hB3.size (fun k hk => by injection hk with hk; omega))
  go_wp2
  exact bodyPost_ret (v := .tuple #[v, .int .i64 x]) (by simp [results, Try.results31, go_sem]) rfl ⟨v, q, x, rfl, hq, ho4.mono hb1.size, hB4⟩
end Go.Proofs.Ytaklfalkpkifmaa
