/-
  'FnVotesOk' returns true, for every two codes: votes that make a leader are of as many as must, each once.
  Conditions: none.
-/
import Derived.Test.YtopmbnnjhoinkaaVV55
namespace Go.Proofs.Ytopmbnnjhoinkaa
open Go.RowKit Rg
set_option linter.unusedVariables false
set_option linter.unusedSimpArgs false
set_option maxHeartbeats 1000000
/-! ### The row of 'laws.FnVotesOk' -/
namespace FnVotesOk
open Go.ChangeShapes Go.WideShapes Go.ChangeAt Go.RowKit
open Go.ChangeMaps (open_string shut_string)
theorem own : ownKnob Try.prog.godebug = none := by kernel_rfl
theorem laidOut : laidOutB Try.prog = true := Shut.laidOut
def wi : Input := ⟨#[], #[.slice none 0 0, .slice none 0 0], []⟩
theorem wit1 (os : Os) : (World.plainHolding Try.prog os wi).variablesB Try.prog = true := by kernel_rfl
theorem wit2 (os : Os) : ((World.plainHolding Try.prog os wi).heap.toList.drop Try.prog.globals.size).take ((begin Try.prog (fun _ _ => 0) default).world.heap.size - Try.prog.globals.size) =
      (begin Try.prog (fun _ _ => 0) default).world.heap.toList.drop Try.prog.globals.size := by kernel_rfl
theorem wit3 (os : Os) : Input.okWideB Try.prog (World.plainHolding Try.prog os wi) 4 ⟨#[], wi.args, []⟩ = true := by kernel_rfl
theorem wit4 {H : Type} (enc : TypeId × Value → H) (os : Os) : Rows.fnVotesOkSpec.preB enc Try.prog Try.f4 Rows.fnVotesOkRow.domain false (World.plainHolding Try.prog os wi).memory wi.args 8 = true := by kernel_rfl
theorem wit5 {H : Type} (enc : TypeId × Value → H) (os : Os) : Rows.fnVotesOkSpec.sizedB enc Try.prog Try.f4 false (World.plainHolding Try.prog os wi).memory wi.args 8 = true := by kernel_rfl
theorem readR0 : Try.prog.readableRec 22 = true := by kernel_rfl
theorem rowR0 : 22 < Try.prog.types.size := of_decide_eq_true (by kernel_rfl)
theorem readR1 : Try.prog.readableRec 22 = true := by kernel_rfl
theorem rowR1 : 22 < Try.prog.types.size := of_decide_eq_true (by kernel_rfl)
theorem noI : Try.prog.inits.idxOf? 4 = none := by kernel_rfl
set_option maxRecDepth 100000 in
set_option maxHeartbeats 1000000 in
theorem walk {H : Type} (enc : TypeId × Value → H) (W : World) (base : Nat) (args : Array Value) (ds gs : List (DataW H)) (before : List MemPlace)
    (hval0 : ∀ (j : Nat) t v, Try.f4.params[j]? = some t → args[j]? = some v → Value.okWide Try.prog W .any base t v)
    (hW : DataW.Whole enc Try.prog Try.f4.params.toList Rows.fnVotesOkSpec.vars false W args.toList ds gs before) :
    Calls Try.prog 4 args W fun e W' => ∃ v, e = .returned v ∧ Rows.fnVotesOkSpec.post enc Try.prog Try.f4 false true false false W args v W' := by
  have hval : ∀ (j : Nat) t v, Try.f4.params[j]? = some t → args[j]? = some v → Value.okWide Try.prog W .any base t v := hval0
  have hW' := hW
  obtain ⟨p, q, hA0, hV, rfl, hfz, hnd⟩ := hW
  have hA : DataW.TrodAll enc Try.prog W 0 (fun _ => true) true Try.f4.params.toList args.toList ds p := hA0
  rw [Try.params4] at hA hval
  obtain ⟨v0, vs0, d0, ds0, p0, q0, hargs, rfl, rfl, h0, r0⟩ := trodAll_cons hA
  obtain ⟨v1, vs1, d1, ds1, p1, q1, rfl, rfl, rfl, h1, r1⟩ := trodAll_cons r0
  obtain ⟨rfl, rfl, rfl⟩ := trodAll_nil r1
  obtain rfl : args = #[v0, v1] := by cases args; simp_all
  obtain ⟨rfl, rfl⟩ := trodVars_none hV
  have k0 := h0
  have lt0 : ∀ x ∈ p0, x.block < W.heap.size := by obtain ⟨m, hm⟩ := k0; exact DataW.trod_lt m _ _ _ hm
  obtain ⟨A0, len0, cap0, z0, rfl, hl0, hc0, hm0, w0, g0⟩ : ∃ A len cap, ∃ xs : List Int, v0 = .slice A len cap ∧ len = xs.length ∧ len ≤ cap ∧ cap ≤ maxLen ∧ Sl encU 1 W 0 W.heap.size A xs ∧ ∀ x ∈ xs, (fun b => 0 ≤ b ∧ b < 256) x := by
    obtain ⟨fuel, hf⟩ := h0
    obtain ⟨a0, len0, cap0, rfl⟩ := okWide_slice Try.underlying22 (hval 0 22 v0 rfl rfl)
    simp only [Value.cells] at hf
    exact trod_sl (encA := encU) (sz := 1) (Good := fun b => 0 ≤ b ∧ b < 256) Try.underlying22 (by kernel_rfl) (by omega) encU_len hf (fun n cs y hy => (by obtain ⟨k, h1, _, h2⟩ := DataW.trod_int Try.underlying5 hy; exact ⟨k, h1, u8_wf h2⟩))
  have k1 := h1
  have lt1 : ∀ x ∈ p1, x.block < W.heap.size := by obtain ⟨m, hm⟩ := k1; exact DataW.trod_lt m _ _ _ hm
  obtain ⟨A1, len1, cap1, z1, rfl, hl1, hc1, hm1, w1, g1⟩ : ∃ A len cap, ∃ xs : List Int, v1 = .slice A len cap ∧ len = xs.length ∧ len ≤ cap ∧ cap ≤ maxLen ∧ Sl encU 1 W 0 W.heap.size A xs ∧ ∀ x ∈ xs, (fun b => 0 ≤ b ∧ b < 256) x := by
    obtain ⟨fuel, hf⟩ := h1
    obtain ⟨a0, len0, cap0, rfl⟩ := okWide_slice Try.underlying22 (hval 1 22 v1 rfl rfl)
    simp only [Value.cells] at hf
    exact trod_sl (encA := encU) (sz := 1) (Good := fun b => 0 ≤ b ∧ b < 256) Try.underlying22 (by kernel_rfl) (by omega) encU_len hf (fun n cs y hy => (by obtain ⟨k, h1, _, h2⟩ := DataW.trod_int Try.underlying5 hy; exact ⟨k, h1, u8_wf h2⟩))
  clear hA0 hval0
  refine (lawVotes A0 len0 cap0 z0 W hl0 hc0 hm0 w0 g0 A1 len1 cap1 z1 hl1 hc1 hm1 w1 g1).mono fun e W' ⟨he, bel⟩ => ?_
  subst he
  exact ⟨_, rfl, _, _, _, [], _, [], hW', trodAll_mk1 (shut_bool Try.underlying4 _), (trodAll_cons_mk (Below.trod laidOut readR0 rowR0 k0 bel lt0) (trodAll_cons_mk (Below.trod laidOut readR1 rowR1 k1 bel lt1) trodAll_mk0)), rfl, bel.frame _, fun h => by cases h⟩
set_option maxRecDepth 100000 in
theorem lifted (os : Os) (started : os.Started) (H : Type) (enc : TypeId × Value → H) :
    ReturnsInHanded {} Try.checked os 4 .any (Rows.fnVotesOkSpec.pre6 enc Try.prog Try.f4 Rows.fnVotesOkRow.domain false) (Rows.fnVotesOkSpec.post enc Try.prog Try.f4 false true false false) :=
  returnsInHanded_of_change (C := Try.checked) own started noI Try.func4
    (ChangeSpec.witness6 (enc := enc) (C := Try.checked) false wi 8 (wit1 os) (wit2 os) (wit3 os) (wit4 enc os) (wit5 enc os)) (fun W base args ds gs before hval0 hW _ _ => walk enc W base args ds gs before hval0 hW)
set_option maxHeartbeats 4000000 in
theorem closed : joinedFacts Try.prog 4 Try.f4 Rows.fnVotesOkSpec Rows.fnVotesOkRow = true := by
  unfold joinedFacts
  repeat' (with_reducible refine Shut.and_intro ?_ ?_)
  all_goals first
    | with_reducible exact Shut.laidOut
    | with_reducible exact Shut.rowed
    | with_reducible exact Shut.heard
    | with_reducible exact Shut.enter
    | with_reducible exact Shut.stops
    | with_reducible exact Shut.knobs
    | (rw [Shut.lifts]; as_aux_lemma => kernel_rfl)
    | (rw [Shut.keys]; as_aux_lemma => kernel_rfl)
    | with_reducible exact Shut.make
    | (rw [eq_of_beq Shut.make]; as_aux_lemma => kernel_rfl)
    | as_aux_lemma => kernel_rfl
theorem inst : Try.f4.isInstance Try.prog Rows.fnVotesOkRow.origin Rows.fnVotesOkRow.targs := of_decide_eq_true (by kernel_rfl)
theorem wrapper : Try.f4.isWrapper Try.prog Rows.fnVotesOkRow.wrapper Rows.fnVotesOkRow.mainSum := by unfold Func.isWrapper; first | (rw [if_neg (by decide +kernel)]; exact ⟨rfl, rfl⟩) | (rw [if_pos (by decide +kernel)]; kernel_rfl)
theorem named : Try.prog.funcNamed Rows.fnVotesOkRow.func = some 4 := by kernel_rfl
theorem over : Rows.fnVotesOkRow.holds Try.pinned (OpenSpec.ofChange Rows.fnVotesOkSpec) :=
  OpenClaim.holds_of_wide 4 Try.f4 rfl rfl rfl rfl rfl rfl rfl ⟨rfl, rfl, rfl, rfl, rfl⟩ rfl rfl rfl rfl rfl named Try.func4 closed
    inst wrapper (fun os started H enc _ => lifted os started H enc)
theorem proved : Rows.FnVotesOkSaid := over
end FnVotesOk
end Go.Proofs.Ytopmbnnjhoinkaa
