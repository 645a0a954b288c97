/-
  'FnExactRepList' returns true, for every argument: both packages answer alike.
  Conditions: none.
-/
import Derived.Test.YtphlnihmfgmecaaNRa
import Derived.Test.YtphlnihmfgmecaaNZ
namespace Go.Proofs.Ytphlnihmfgmecaa
open Go.RowKit Rg
set_option linter.unusedVariables false
set_option linter.unusedSimpArgs false

/-! ### The row of 'laws.FnExactRepList' -/
namespace FnExactRepList
open Go.ChangeShapes Go.WideShapes Go.ChangeAt Go.RowKit
open Go.ChangeMaps (open_string shut_string)
theorem own : ownKnob Try.prog.godebug = none := by kernel_rfl
theorem laidOut : laidOutB Try.prog = true := Shut.laidOut

def wi : Input := ⟨#[], #[.agg #[.int .i64 0, .int .i64 0, .bool false, .int .i64 0, .slice none 0 0, .slice none 0 0, .slice none 0 0]], []⟩
theorem wit1 (os : Os) : (World.plainHolding Try.prog os wi).variablesB Try.prog = true := by kernel_rfl
theorem wit2 (os : Os) : ((World.plainHolding Try.prog os wi).heap.toList.drop Try.prog.globals.size).take ((begin Try.prog (fun _ _ => 0) default).world.heap.size - Try.prog.globals.size) =
      (begin Try.prog (fun _ _ => 0) default).world.heap.toList.drop Try.prog.globals.size := by kernel_rfl
theorem wit3 (os : Os) : Input.okWideB Try.prog (World.plainHolding Try.prog os wi) 13 ⟨#[], wi.args, []⟩ = true := by kernel_rfl
theorem wit4 {H : Type} (enc : TypeId × Value → H) (os : Os) : Rows.fnExactRepListSpec.preB enc Try.prog Try.f13 Rows.fnExactRepListRow.domain false (World.plainHolding Try.prog os wi).memory wi.args 8 = true := by kernel_rfl
theorem wit5 {H : Type} (enc : TypeId × Value → H) (os : Os) : Rows.fnExactRepListSpec.sizedB enc Try.prog Try.f13 false (World.plainHolding Try.prog os wi).memory wi.args 8 = true := by kernel_rfl
theorem readR0 : Try.prog.readableRec 80 = true := by kernel_rfl
theorem rowR0 : 80 < Try.prog.types.size := of_decide_eq_true (by kernel_rfl)
theorem noI : Try.prog.inits.idxOf? 13 = none := by kernel_rfl

set_option maxRecDepth 100000 in
set_option maxHeartbeats 1000000 in
theorem walk {H : Type} (enc : TypeId × Value → H) (W : World) (base : Nat) (args : Array Value) (ds gs : List (DataW H)) (before : List MemPlace)
    (hval0 : ∀ (j : Nat) t v, Try.f13.params[j]? = some t → args[j]? = some v → Value.okWide Try.prog W .any base t v)
    (hW : DataW.Whole enc Try.prog Try.f13.params.toList Rows.fnExactRepListSpec.vars false W args.toList ds gs before) :
    Calls Try.prog 13 args W fun e W' => ∃ v, e = .returned v ∧ Rows.fnExactRepListSpec.post enc Try.prog Try.f13 false true false false W args v W' := by
  have hval : ∀ (j : Nat) t v, Try.f13.params[j]? = some t → args[j]? = some v → Value.okWide Try.prog W .any base t v := hval0
  have hW' := hW
  obtain ⟨p, q, hA0, hV, rfl, hfz, hnd⟩ := hW
  have hA : DataW.TrodAll enc Try.prog W 0 (fun _ => true) true Try.f13.params.toList args.toList ds p := hA0
  rw [Try.params13] at hA hval
  obtain ⟨v0, vs0, d0, ds0, p0, q0, hargs, rfl, rfl, h0, r0⟩ := trodAll_cons hA
  obtain ⟨rfl, rfl, rfl⟩ := trodAll_nil r0
  obtain rfl : args = #[v0] := by cases args; simp_all
  obtain ⟨rfl, rfl⟩ := trodVars_none hV
  have k0 := h0
  have lt0 : ∀ x ∈ p0, x.block < W.heap.size := by obtain ⟨m, hm⟩ := k0; exact DataW.trod_lt m _ _ _ hm
  obtain ⟨t0, A, B, E, n, c, p, d, q, f, rfl, h0_, h1_, h2_⟩ : ∃ (t : RepT) (A B E : Option Addr) (n c p d q f : Nat), v0 = .agg #[.int .i64 t.1, .int .i64 t.2.1, .bool t.2.2.1, .int .i64 t.2.2.2.1, .slice A n c, .slice B p d, .slice E q f] ∧ RdN 7 clR W 0 W.heap.size A n c t.2.2.2.2.1 ∧ RdN 11 msgR W 0 W.heap.size B p d t.2.2.2.2.2.1 ∧ RdN 7 clR W 0 W.heap.size E q f t.2.2.2.2.2.2 := by
    obtain ⟨fuel, hf⟩ := h0
    obtain ⟨cs, rfl, hcs⟩ := okWide_struct Try.underlying80 (hval 0 80 v0 rfl rfl)
    simp only [Value.cells] at hf
    obtain ⟨_, t, A, n, c, B, p, d, E, q, f, hcs', r0, r1, r2⟩ := open_Rep hf
    refine ⟨t, A, B, E, n, c, p, d, q, f, ?_, r0, r1, r2⟩
    rw [← Array.toArray_toList (xs := cs), hcs']
  clear hA0 hval0
  refine (lawExactRepList t0 A B E n c p d q f W h0_ h1_ h2_).mono fun e W' ⟨he, bel⟩ => ?_
  subst he
  exact ⟨_, rfl, _, _, _, [], _, [], hW', trodAll_mk1 (shut_bool Try.underlying4 _), (trodAll_cons_mk (Below.trod laidOut readR0 rowR0 k0 bel lt0) trodAll_mk0), rfl, bel.frame _, fun h => by cases h⟩

set_option maxRecDepth 100000 in
theorem lifted (os : Os) (started : os.Started) (H : Type) (enc : TypeId × Value → H) :
    ReturnsInHanded {} Try.checked os 13 .any (Rows.fnExactRepListSpec.pre6 enc Try.prog Try.f13 Rows.fnExactRepListRow.domain false) (Rows.fnExactRepListSpec.post enc Try.prog Try.f13 false true false false) :=
  returnsInHanded_of_change (C := Try.checked) own started noI Try.func13
    (ChangeSpec.witness6 (enc := enc) (C := Try.checked) false wi 8 (wit1 os) (wit2 os) (wit3 os) (wit4 enc os) (wit5 enc os)) (fun W base args ds gs before hval0 hW _ _ => walk enc W base args ds gs before hval0 hW)

set_option maxHeartbeats 4000000 in
theorem closed : joinedFacts Try.prog 13 Try.f13 Rows.fnExactRepListSpec Rows.fnExactRepListRow = true := by
  unfold joinedFacts
  repeat' (with_reducible refine Shut.and_intro ?_ ?_)
  all_goals first
    | with_reducible exact Shut.laidOut
    | with_reducible exact Shut.rowed
    | with_reducible exact Shut.heard
    | with_reducible exact Shut.enter
    | with_reducible exact Shut.stops
    | with_reducible exact Shut.knobs
    | (rw [Shut.lifts]; as_aux_lemma => kernel_rfl)
    | (rw [Shut.keys]; as_aux_lemma => kernel_rfl)
    | with_reducible exact Shut.make
    | (rw [eq_of_beq Shut.make]; as_aux_lemma => kernel_rfl)
    | as_aux_lemma => kernel_rfl
theorem inst : Try.f13.isInstance Try.prog Rows.fnExactRepListRow.origin Rows.fnExactRepListRow.targs := of_decide_eq_true (by kernel_rfl)
theorem wrapper : Try.f13.isWrapper Try.prog Rows.fnExactRepListRow.wrapper Rows.fnExactRepListRow.mainSum := by unfold Func.isWrapper; first | (rw [if_neg (by decide +kernel)]; exact ⟨rfl, rfl⟩) | (rw [if_pos (by decide +kernel)]; kernel_rfl)
theorem named : Try.prog.funcNamed Rows.fnExactRepListRow.func = some 13 := by kernel_rfl
theorem over : Rows.fnExactRepListRow.holds Try.pinned (OpenSpec.ofChange Rows.fnExactRepListSpec) :=
  OpenClaim.holds_of_wide 13 Try.f13 rfl rfl rfl rfl rfl rfl rfl ⟨rfl, rfl, rfl, rfl, rfl⟩ rfl rfl rfl rfl rfl named Try.func13 closed
    inst wrapper (fun os started H enc _ => lifted os started H enc)

theorem proved : Rows.FnExactRepListSaid := over
end FnExactRepList
end Go.Proofs.Ytphlnihmfgmecaa
