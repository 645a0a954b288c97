/-
  What 'LAc' rests on (texts of this seat put together: LAc).
  Conditions: none.
-/
import Derived.Test.YtopmbnnjhoinkaaGreatZZ53
namespace Go.Proofs.YtopmbnnjhoinkaaGreat
open Go.RowKit Rg
set_option linter.unusedVariables false
set_option linter.unusedSimpArgs false
set_option maxHeartbeats 1000000
/-! ### The row of 'laws.FnAgreeLook' -/
namespace FnAgreeLook
open Go.ChangeShapes Go.WideShapes Go.ChangeAt Go.RowKit
open Go.ChangeMaps (open_string shut_string)
theorem own : ownKnob Tryz.prog.godebug = none := by kernel_rfl
theorem laidOut : laidOutB Tryz.prog = true := Shut.laidOut
def wi : Input := ⟨#[], #[.slice none 0 0, .slice none 0 0], []⟩
theorem wit1 (os : Os) : (World.plainHolding Tryz.prog os wi).variablesB Tryz.prog = true := by kernel_rfl
theorem wit2 (os : Os) : ((World.plainHolding Tryz.prog os wi).heap.toList.drop Tryz.prog.globals.size).take ((begin Tryz.prog (fun _ _ => 0) default).world.heap.size - Tryz.prog.globals.size) =
      (begin Tryz.prog (fun _ _ => 0) default).world.heap.toList.drop Tryz.prog.globals.size := by kernel_rfl
theorem wit3 (os : Os) : Input.okWideB Tryz.prog (World.plainHolding Tryz.prog os wi) 3 ⟨#[], wi.args, []⟩ = true := by kernel_rfl
theorem wit4 {H : Type} (enc : TypeId × Value → H) (os : Os) : Rows.fnAgreeLookSpec.preB enc Tryz.prog Tryz.f3 Rows.fnAgreeLookRow.domain false (World.plainHolding Tryz.prog os wi).memory wi.args 8 = true := by kernel_rfl
theorem wit5 {H : Type} (enc : TypeId × Value → H) (os : Os) : Rows.fnAgreeLookSpec.sizedB enc Tryz.prog Tryz.f3 false (World.plainHolding Tryz.prog os wi).memory wi.args 8 = true := by kernel_rfl
theorem readR0 : Tryz.prog.readableRec 22 = true := by kernel_rfl
theorem rowR0 : 22 < Tryz.prog.types.size := of_decide_eq_true (by kernel_rfl)
theorem readR1 : Tryz.prog.readableRec 22 = true := by kernel_rfl
theorem rowR1 : 22 < Tryz.prog.types.size := of_decide_eq_true (by kernel_rfl)
theorem noI : Tryz.prog.inits.idxOf? 3 = none := by kernel_rfl
set_option maxRecDepth 100000 in
set_option maxHeartbeats 1000000 in
theorem walk {H : Type} (enc : TypeId × Value → H) (W : World) (base : Nat) (args : Array Value) (ds gs : List (DataW H)) (before : List MemPlace)
    (hval0 : ∀ (j : Nat) t v, Tryz.f3.params[j]? = some t → args[j]? = some v → Value.okWide Tryz.prog W .any base t v)
    (hW : DataW.Whole enc Tryz.prog Tryz.f3.params.toList Rows.fnAgreeLookSpec.vars false W args.toList ds gs before) :
    Calls Tryz.prog 3 args W fun e W' => ∃ v, e = .returned v ∧ Rows.fnAgreeLookSpec.post enc Tryz.prog Tryz.f3 false true false false W args v W' := by
  have hval : ∀ (j : Nat) t v, Tryz.f3.params[j]? = some t → args[j]? = some v → Value.okWide Tryz.prog W .any base t v := hval0
  have hW' := hW
  obtain ⟨p, q, hA0, hV, rfl, hfz, hnd⟩ := hW
  have hA : DataW.TrodAll enc Tryz.prog W 0 (fun _ => true) true Tryz.f3.params.toList args.toList ds p := hA0
  rw [Tryz.params3] at hA hval
  obtain ⟨v0, vs0, d0, ds0, p0, q0, hargs, rfl, rfl, h0, r0⟩ := trodAll_cons hA
  obtain ⟨v1, vs1, d1, ds1, p1, q1, rfl, rfl, rfl, h1, r1⟩ := trodAll_cons r0
  obtain ⟨rfl, rfl, rfl⟩ := trodAll_nil r1
  obtain rfl : args = #[v0, v1] := by cases args; simp_all
  obtain ⟨rfl, rfl⟩ := trodVars_none hV
  have k0 := h0
  have lt0 : ∀ x ∈ p0, x.block < W.heap.size := by obtain ⟨m, hm⟩ := k0; exact DataW.trod_lt m _ _ _ hm
  obtain ⟨A0, len0, cap0, z0, rfl, hl0, hc0, hm0, w0, g0⟩ : ∃ A len cap, ∃ xs : List Int, v0 = .slice A len cap ∧ len = xs.length ∧ len ≤ cap ∧ cap ≤ maxLen ∧ Sl encU 1 W 0 W.heap.size A xs ∧ ∀ x ∈ xs, (fun b => 0 ≤ b ∧ b < 256) x := by
    obtain ⟨fuel, hf⟩ := h0
    obtain ⟨a0, len0, cap0, rfl⟩ := okWide_slice Tryz.underlying22 (hval 0 22 v0 rfl rfl)
    simp only [Value.cells] at hf
    exact trod_sl (encA := encU) (sz := 1) (Good := fun b => 0 ≤ b ∧ b < 256) Tryz.underlying22 (by kernel_rfl) (by omega) encU_len hf (fun n cs y hy => (by obtain ⟨k, h1, _, h2⟩ := DataW.trod_int Tryz.underlying5 hy; exact ⟨k, h1, u8_wf h2⟩))
  have k1 := h1
  have lt1 : ∀ x ∈ p1, x.block < W.heap.size := by obtain ⟨m, hm⟩ := k1; exact DataW.trod_lt m _ _ _ hm
  obtain ⟨A1, len1, cap1, z1, rfl, hl1, hc1, hm1, w1, g1⟩ : ∃ A len cap, ∃ xs : List Int, v1 = .slice A len cap ∧ len = xs.length ∧ len ≤ cap ∧ cap ≤ maxLen ∧ Sl encU 1 W 0 W.heap.size A xs ∧ ∀ x ∈ xs, (fun b => 0 ≤ b ∧ b < 256) x := by
    obtain ⟨fuel, hf⟩ := h1
    obtain ⟨a0, len0, cap0, rfl⟩ := okWide_slice Tryz.underlying22 (hval 1 22 v1 rfl rfl)
    simp only [Value.cells] at hf
    exact trod_sl (encA := encU) (sz := 1) (Good := fun b => 0 ≤ b ∧ b < 256) Tryz.underlying22 (by kernel_rfl) (by omega) encU_len hf (fun n cs y hy => (by obtain ⟨k, h1, _, h2⟩ := DataW.trod_int Tryz.underlying5 hy; exact ⟨k, h1, u8_wf h2⟩))
  clear hA0 hval0
  refine (lawAgreeLook A0 len0 cap0 z0 W hl0 hc0 hm0 w0 g0 A1 len1 cap1 hc1 hm1).mono fun e W' ⟨he, bel⟩ => ?_
  subst he
  exact ⟨_, rfl, _, _, _, [], _, [], hW', trodAll_mk1 (shut_bool Tryz.underlying4 _), (trodAll_cons_mk (Below.trod laidOut readR0 rowR0 k0 bel lt0) (trodAll_cons_mk (Below.trod laidOut readR1 rowR1 k1 bel lt1) trodAll_mk0)), rfl, bel.frame _, fun h => by cases h⟩
set_option maxRecDepth 100000 in
theorem lifted (os : Os) (started : os.Started) (H : Type) (enc : TypeId × Value → H) :
    ReturnsInHanded {} Tryz.checked os 3 .any (Rows.fnAgreeLookSpec.pre6 enc Tryz.prog Tryz.f3 Rows.fnAgreeLookRow.domain false) (Rows.fnAgreeLookSpec.post enc Tryz.prog Tryz.f3 false true false false) :=
  returnsInHanded_of_change (C := Tryz.checked) own started noI Tryz.func3
    (ChangeSpec.witness6 (enc := enc) (C := Tryz.checked) false wi 8 (wit1 os) (wit2 os) (wit3 os) (wit4 enc os) (wit5 enc os)) (fun W base args ds gs before hval0 hW _ _ => walk enc W base args ds gs before hval0 hW)
set_option maxHeartbeats 4000000 in
theorem closed : joinedFacts Tryz.prog 3 Tryz.f3 Rows.fnAgreeLookSpec Rows.fnAgreeLookRow = true := by
  unfold joinedFacts
  repeat' (with_reducible refine Shut.and_intro ?_ ?_)
  all_goals first
    | with_reducible exact Shut.laidOut
    | with_reducible exact Shut.rowed
    | with_reducible exact Shut.heard
    | with_reducible exact Shut.enter
    | with_reducible exact Shut.stops
    | with_reducible exact Shut.knobs
    | (rw [Shut.lifts]; as_aux_lemma => kernel_rfl)
    | (rw [Shut.keys]; as_aux_lemma => kernel_rfl)
    | with_reducible exact Shut.make
    | (rw [eq_of_beq Shut.make]; as_aux_lemma => kernel_rfl)
    | as_aux_lemma => kernel_rfl
theorem inst : Tryz.f3.isInstance Tryz.prog Rows.fnAgreeLookRow.origin Rows.fnAgreeLookRow.targs := of_decide_eq_true (by kernel_rfl)
theorem wrapper : Tryz.f3.isWrapper Tryz.prog Rows.fnAgreeLookRow.wrapper Rows.fnAgreeLookRow.mainSum := by unfold Func.isWrapper; first | (rw [if_neg (by decide +kernel)]; exact ⟨rfl, rfl⟩) | (rw [if_pos (by decide +kernel)]; kernel_rfl)
theorem named : Tryz.prog.funcNamed Rows.fnAgreeLookRow.func = some 3 := by kernel_rfl
theorem over : Rows.fnAgreeLookRow.holds Tryz.pinned (OpenSpec.ofChange Rows.fnAgreeLookSpec) :=
  OpenClaim.holds_of_wide 3 Tryz.f3 rfl rfl rfl rfl rfl rfl rfl ⟨rfl, rfl, rfl, rfl, rfl⟩ rfl rfl rfl rfl rfl named Tryz.func3 closed
    inst wrapper (fun os started H enc _ => lifted os started H enc)
theorem proved : Rows.FnAgreeLookSaid := over
end FnAgreeLook
end Go.Proofs.YtopmbnnjhoinkaaGreat
