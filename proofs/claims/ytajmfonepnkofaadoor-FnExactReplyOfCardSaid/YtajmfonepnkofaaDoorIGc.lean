/-
  'FnExactReplyOf' returns true, for every argument: both packages' 'ReplyOf' answer alike.
  Conditions: none (the card's tie is used as it is given).
-/
import Derived.Test.YtajmfonepnkofaaDoorIF
import Derived.Test.YtajmfonepnkofaaDoorIG
import Derived.Test.YtajmfonepnkofaaDoorCards
import Derived.Test.YtajmfonepnkofaaDoorTie
import Derived.Stop.LaidErr
import Derived.MakeChecks
import Derived.LaidMore
import Derived.OpenShut
import Derived.ProofKit
import Derived.Stop.Joined
import Derived.SevenTiedAt
import Derived.LaidOnce
import Derived.LaidSub
namespace Go.Proofs.YtajmfonepnkofaaDoor
open Go.RowKit Rg
set_option linter.unusedVariables false
set_option linter.unusedSimpArgs false

/-! ### The row of 'laws.FnExactReplyOf' -/
namespace FnExactReplyOf
open Go.ChangeShapes Go.WideShapes Go.ChangeAt Go.RowKit
open Go.ChangeMaps (open_string shut_string)
theorem own : ownKnob Tryd.prog.godebug = none := by kernel_rfl
theorem laidOut : laidOutB Tryd.prog = true := by kernel_rfl

theorem door_met (os : Os) (args : Array Value) : laidMetH Tryd.prog Rows.fnExactReplyOfRow.laid ((World.doorLaid Tryd.prog 24 os).forCall (fun _ _ => 0) ⟨#[], args, []⟩).memory :=
  laidMetH_of_parts3 (fuel := 8) (laidMet_of_run' 8 (by kernel_rfl) (by kernel_rfl)) (by kernel_rfl) (by kernel_rfl)

set_option maxRecDepth 100000 in
set_option maxHeartbeats 1000000 in
theorem lifted (os : Os) (started : os.Started) (H : Type) (enc : TypeId × Value → H) :
    ReturnsInHanded {} Tryd.checked os 3 .any (fun w args => (Rows.fnExactReplyOfSpec.pre enc Tryd.prog Tryd.f3 [] false w args ∧ laidMetH Tryd.prog Rows.fnExactReplyOfRow.laid w) ∧ sizedMet enc Tryd.prog Tryd.f3 (OpenSpec.ofChange Rows.fnExactReplyOfSpec) false w args)
      (Rows.fnExactReplyOfSpec.post enc Tryd.prog Tryd.f3 false true false false) := by
  refine returnsInHanded_of_change_and (C := Tryd.checked) (X := fun w _ => laidMetH Tryd.prog Rows.fnExactReplyOfRow.laid w) (fun _ _ _ hh h => h.of_heap hh) own started (by kernel_rfl) Tryd.func3
    (ChangeSpec.witness_shaped (enc := enc) (C := Tryd.checked) (os := os) (X := fun w _ => laidMetH Tryd.prog Rows.fnExactReplyOfRow.laid w) false (World.doorLaid Tryd.prog 24 os) #[.int .i64 0, .agg #[.slice none 0 0, .slice none 0 0, .slice none 0 0], .agg #[.int .i64 0, .int .i64 0, .int .i64 0, .int .i64 0, .int .i64 0]] 8 rfl (World.shaped_of_RefB (by kernel_rfl) (by kernel_rfl)) (by kernel_rfl) (by kernel_rfl) (by kernel_rfl) (door_met os _)) ?_
  intro W base args ds gs before hval0 hW _ _ hL _
  have hval : ∀ (j : Nat) t v, Tryd.f3.params[j]? = some t → args[j]? = some v → Value.okWide Tryd.prog W .any base t v := hval0
  have hW' := hW
  obtain ⟨p, q, hA0, hV, rfl, hfz, hnd⟩ := hW
  have hA : DataW.TrodAll enc Tryd.prog W 0 (fun _ => true) true Tryd.f3.params.toList args.toList ds p := hA0
  rw [Tryd.params3] at hA hval
  obtain ⟨v0, vs0, d0, ds0, p0, q0, hargs, rfl, rfl, h0, r0⟩ := trodAll_cons hA
  obtain ⟨v1, vs1, d1, ds1, p1, q1, rfl, rfl, rfl, h1, r1⟩ := trodAll_cons r0
  obtain ⟨v2, vs2, d2, ds2, p2, q2, rfl, rfl, rfl, h2, r2⟩ := trodAll_cons r1
  obtain ⟨rfl, rfl, rfl⟩ := trodAll_nil r2
  obtain rfl : args = #[v0, v1, v2] := by cases args; simp_all
  obtain ⟨rfl, rfl⟩ := trodVars_none hV
  obtain ⟨a0, rfl, rfl, rfl, g0⟩ := open_int Tryd.underlying3 (hval 0 3 v0 rfl rfl) h0
  have k1 := h1
  have lt1 : ∀ x ∈ p1, x.block < W.heap.size := by obtain ⟨m, hm⟩ := k1; exact DataW.trod_lt m _ _ _ hm
  obtain ⟨A1, n1, c1, B1, m1, e1, E1, u1_, f1_, g1, rfl, hl1, hm1, ha1, hb1, hc1⟩ : ∃ (A : Option Addr) (n c : Nat) (B : Option Addr) (p d : Nat) (E : Option Addr) (q f : Nat) (g : GameT), v1 = .agg #[.slice A n c, .slice B p d, .slice E q f] ∧ (n = g.1.length ∧ p = g.2.1.length ∧ q = g.2.2.length) ∧ (n ≤ maxLen ∧ p ≤ maxLen ∧ q ≤ maxLen) ∧ Sl encEnt 5 W 0 W.heap.size A g.1 ∧ Sl encI 1 W 0 W.heap.size B g.2.1 ∧ Sl encI 1 W 0 W.heap.size E g.2.2 := by
    obtain ⟨fuel, hf⟩ := h1
    obtain ⟨cs, rfl, hcs⟩ := okWide_struct Tryd.underlying25 (hval 1 25 v1 rfl rfl)
    simp only [Value.cells] at hf
    exact trod_game hf
  have k2 := h2
  have lt2 : ∀ x ∈ p2, x.block < W.heap.size := by obtain ⟨m, hm⟩ := k2; exact DataW.trod_lt m _ _ _ hm
  obtain ⟨t2, rfl⟩ : ∃ (t : ReqV), v2 = .agg #[.int .i64 t.1, .int .i64 t.2.1, .int .i64 t.2.2.1, .int .i64 t.2.2.2.1, .int .i64 t.2.2.2.2] := by
    obtain ⟨fuel, hf⟩ := h2
    obtain ⟨cs, rfl, hcs⟩ := okWide_struct Tryd.underlying27 (hval 2 27 v2 rfl rfl)
    simp only [Value.cells] at hf
    obtain ⟨t, ht, _⟩ := trod_int5 Tryd.underlying27 Tryd.underlying3 rfl (by kernel_rfl) (by kernel_rfl) (by kernel_rfl) hf
    exact ⟨t, by rw [← Array.toArray_toList (xs := cs), ht]; rfl⟩
  clear hA0 hval0
  refine (lawExactReplyOf a0 A1 n1 c1 B1 m1 e1 E1 u1_ f1_ g1 t2 W hl1.1 hl1.2.1 hl1.2.2 ha1 hb1 hc1 hm1.1 hm1.2.1 hm1.2.2).mono fun e W' ⟨he, bel⟩ => ?_
  subst he
  exact ⟨_, rfl, _, _, _, [], _, [], hW', trodAll_mk1 (shut_bool Tryd.underlying4 _), (trodAll_cons_mk (shut_int Tryd.underlying3 g0) (trodAll_cons_mk (Below.trod laidOut (by kernel_rfl) (of_decide_eq_true (by kernel_rfl)) k1 bel lt1) (trodAll_cons_mk (Below.trod laidOut (by kernel_rfl) (of_decide_eq_true (by kernel_rfl)) k2 bel lt2) trodAll_mk0))), rfl, bel.frame _, fun h => by cases h⟩

theorem over : Rows.fnExactReplyOfRow.holds Tryd.pinned (OpenSpec.ofChange Rows.fnExactReplyOfSpec) :=
  OpenClaim.holds_of_wide 3 Tryd.f3 rfl rfl rfl rfl rfl rfl rfl ⟨rfl, rfl, rfl, rfl, rfl⟩ rfl rfl rfl rfl rfl (by kernel_rfl) Tryd.func3 (by kernel_rfl)
    (of_decide_eq_true (by kernel_rfl)) (by unfold Func.isWrapper; first | (rw [if_pos (by decide +kernel)]; kernel_rfl) | (rw [if_neg (by decide +kernel)]; exact ⟨rfl, rfl⟩))
    (fun os started H enc _ => lifted os started H enc)

theorem proved : Rows.FnExactReplyOfCardSaid :=
  Claim7.holds_tied_plain_at .later [] [.data, .data, .data] true (true, "c37f6de92cc2b832fd2fdbd6888db135bf5cb128044d97dab06dee5a46785510") false
    over (fun _ h => by cases h) (by kernel_rfl) (fun _ h => by cases h) fnExactReplyOf_row_tie rfl ⟨rfl, rfl⟩ (by kernel_rfl) rfl
    (fun f fn hf hfn => by
      obtain rfl : f = 3 := Option.some.inj ((show Tryd.prog.funcNamed Rows.fnExactReplyOfRow.func = some 3 by kernel_rfl).symm.trans hf) |>.symm
      obtain rfl : fn = Tryd.f3 := (Option.some.inj (Tryd.func3.symm.trans hfn)).symm
      exact ⟨by kernel_rfl, fun j t ht => by
        rw [Tryd.params3] at ht
        have hm : t ∈ [3, 25, 27] := by simpa using Array.mem_of_getElem? ht
        have hall : ([3, 25, 27].all fun u => !Tryd.prog.wantsStandIn u) = true := by kernel_rfl
        exact (show Tryd.prog.wantsStandIn t = false by simpa using List.all_eq_true.1 hall t hm)⟩)
    (by kernel_rfl)
end FnExactReplyOf
end Go.Proofs.YtajmfonepnkofaaDoor
