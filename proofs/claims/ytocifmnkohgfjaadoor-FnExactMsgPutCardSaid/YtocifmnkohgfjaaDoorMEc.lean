/-
  'FnExactMsgPut' returns true, for every argument: the program's MsgPut answers what the reference's does.
  Conditions: the library's table of powers of ten and the program's words read as their text lays them (tied by the card).
-/
import Derived.Test.YtocifmnkohgfjaaDoorME
import Derived.Test.YtocifmnkohgfjaaDoorMT
import Derived.Test.YtocifmnkohgfjaaDoorNO
namespace Go.Proofs.YtocifmnkohgfjaaDoor
open Go.RowKit Rg
set_option linter.unusedVariables false
set_option linter.unusedSimpArgs false

open Go Go.WideShapes Go.ChangeShapes Go.Deep in
/-- A variable that holds a list of words reads behind a call as before it. -/
theorem var_stay {H : Type} {enc : TypeId × Value → H} {n : String} {g t e : Nat} {cs : Array Value} {fuel : Nat} {d : DataW H} {p : List MemPlace} {W W' : World} (hl : laidOutB Tryd.prog = true) (hr : Tryd.prog.readableRec t = true) (hrow : t < Tryd.prog.types.size) (hg : Tryd.prog.globalNamed n = some g) (ht : Tryd.prog.underlying t = some (.slice e))
    (hv : W.var? Tryd.prog n = some cs) (hd : DataW.trod enc Tryd.prog W 0 (fun _ => true) true fuel t cs.toList = some (d, p)) (hb : Below W.heap.size W W') :
    ∃ fuel', W'.var? Tryd.prog n = some cs ∧ DataW.trod enc Tryd.prog W' 0 (fun b => decide (b < W.heap.size)) true fuel' t cs.toList = some (d, p) := by
  have hv' : W'.var? Tryd.prog n = some cs := by
    unfold World.var? at *
    simp only [hg, Option.bind_some] at hv ⊢
    have hlt : g < W.heap.size := by
      rcases Nat.lt_or_ge g W.heap.size with h' | h'
      · exact h'
      · rw [Array.getElem?_eq_none h'] at hv; simp at hv
    rw [hb.block g hlt]
    exact hv
  obtain ⟨v, hcs⟩ : ∃ v : Value, cs.toList = v.cells.toList := by
    rcases open_slice ht hd with ⟨hcs, _⟩ | ⟨a, len, cap, m, n, D, Pl, hcs, _⟩
    · exact ⟨.slice none 0 0, hcs⟩
    · exact ⟨.slice (some a) len cap, hcs⟩
  rw [hcs] at hd
  have h1 : DataW.Trod enc Tryd.prog W 0 (fun _ => true) true t v d p := ⟨fuel, hd⟩
  obtain ⟨f2, h2⟩ := Below.trod hl hr hrow h1 hb (DataW.trod_lt fuel _ _ _ hd)
  exact ⟨f2, hv', by rw [hcs]; exact h2⟩

/-! ### The row of 'laws.FnExactMsgPut' -/
namespace FnExactMsgPut
open Go.ChangeShapes Go.WideShapes Go.ChangeAt Go.RowKit
open Go.ChangeMaps (open_string shut_string)
theorem own : ownKnob Tryd.prog.godebug = none := by kernel_rfl
theorem laidOut : laidOutB Tryd.prog = true := by kernel_rfl

theorem door_met (os : Os) (args : Array Value) : laidMetH Tryd.prog Rows.fnExactMsgPutRow.laid ((World.doorLaid Tryd.prog 34 os).forCall (fun _ _ => 0) ⟨#[], args, []⟩).memory :=
  laidMetH_of_parts3 (fuel := 8) (laidMet_of_run' 8 (by kernel_rfl) (by kernel_rfl)) (by kernel_rfl) (by kernel_rfl)

set_option maxRecDepth 100000 in
set_option maxHeartbeats 1000000 in
theorem lifted (os : Os) (started : os.Started) (H : Type) (enc : TypeId × Value → H) :
    ReturnsInHanded {} Tryd.checked os 3 .any (fun w args => (Rows.fnExactMsgPutSpec.pre enc Tryd.prog Tryd.f3 [] false w args ∧ laidMetH Tryd.prog Rows.fnExactMsgPutRow.laid w) ∧ sizedMet enc Tryd.prog Tryd.f3 (OpenSpec.ofChange Rows.fnExactMsgPutSpec) false w args)
      (Rows.fnExactMsgPutSpec.post enc Tryd.prog Tryd.f3 false true false false) := by
  refine returnsInHanded_of_change_and (C := Tryd.checked) (X := fun w _ => laidMetH Tryd.prog Rows.fnExactMsgPutRow.laid w) (fun _ _ _ hh h => h.of_heap hh) own started (by kernel_rfl) Tryd.func3
    (ChangeSpec.witness_shaped (enc := enc) (C := Tryd.checked) (os := os) (X := fun w _ => laidMetH Tryd.prog Rows.fnExactMsgPutRow.laid w) false (World.doorLaid Tryd.prog 34 os) #[.agg #[.int .i64 0, .int .i64 0, .int .i64 0, .int .i64 0, .int .i64 0, .int .i64 0, .int .i64 0, .int .i64 0, .int .i64 0, .slice none 0 0, .slice none 0 0]] 8 rfl (World.shaped_of_RefB (by kernel_rfl) (by kernel_rfl)) (by kernel_rfl) (by kernel_rfl) (by kernel_rfl) (door_met os _)) ?_
  intro W base args ds gs before hval0 hW _ _ hL _
  have hT := tab_of hL
  have hval : ∀ (j : Nat) t v, Tryd.f3.params[j]? = some t → args[j]? = some v → Value.okWide Tryd.prog W .any base t v := hval0
  have hW' := hW
  obtain ⟨p, q, hA0, hV, rfl, hfz, hnd⟩ := hW
  have hA : DataW.TrodAll enc Tryd.prog W 0 (fun _ => true) true Tryd.f3.params.toList args.toList ds p := hA0
  rw [Tryd.params3] at hA hval
  obtain ⟨v0, vs0, d0, ds0, p0, q0, hargs, rfl, rfl, h0, r0⟩ := trodAll_cons hA
  obtain ⟨rfl, rfl, rfl⟩ := trodAll_nil r0
  obtain rfl : args = #[v0] := by cases args; simp_all
  have hV' : DataW.TrodVars enc Tryd.prog W (fun _ => true) ["loop.example/wapentake/impl.kinds", "loop.example/wapentake/impl.words"] gs q := hV
  obtain ⟨gk, tk, csk, fk, dk, pk, gw, tw, csw, fw, dw, pw, rfl, hgk, htk, hvk, hdk, hgw, htw, hvw, hdw, rfl⟩ := trodVars_two hV'
  obtain rfl := Option.some.inj (gKinds.symm.trans hgk)
  obtain rfl := Option.some.inj (gKindsT.symm.trans htk)
  obtain rfl := Option.some.inj (gWords.symm.trans hgw)
  obtain rfl := Option.some.inj (gWordsT.symm.trans htw)
  have k0 := h0
  have lt0 : ∀ x ∈ p0, x.block < W.heap.size := by obtain ⟨m, hm⟩ := k0; exact DataW.trod_lt m _ _ _ hm
  obtain ⟨t0, A, B, n, c, p, d, rfl, h0_, h1_⟩ : ∃ (t : MsgT) (A B : Option Addr) (n c p d : Nat), v0 = .agg #[.int .i64 t.1, .int .i64 t.2.1, .int .i64 t.2.2.1, .int .i64 t.2.2.2.1, .int .i64 t.2.2.2.2.1.1, .int .i64 t.2.2.2.2.1.2.1, .int .i64 t.2.2.2.2.1.2.2.1, .int .i64 t.2.2.2.2.1.2.2.2.1, .int .i64 t.2.2.2.2.1.2.2.2.2, .slice A n c, .slice B p d] ∧ RdN 7 clR W 0 W.heap.size A n c t.2.2.2.2.2.1 ∧ RdN 2 voteR W 0 W.heap.size B p d t.2.2.2.2.2.2 := by
    obtain ⟨fuel, hf⟩ := h0
    obtain ⟨cs, rfl, hcs⟩ := okWide_struct Tryd.underlying27 (hval 0 27 v0 rfl rfl)
    simp only [Value.cells] at hf
    obtain ⟨_, t, A, n, c, B, p, d, hcs', r0, r1⟩ := open_Msg hf
    refine ⟨t, A, B, n, c, p, d, ?_, r0, r1⟩
    rw [← Array.toArray_toList (xs := cs), hcs']
  clear hA0 hval0
  refine (lawExactMsgPut t0 A B n c p d W h0_ h1_ hT.1 hT.2.1 hT.2.2).mono fun e W' ⟨he, bel⟩ => ?_
  subst he
  obtain ⟨fk', nk, ek⟩ := var_stay (enc := enc) laidOut (by kernel_rfl) (of_decide_eq_true (by kernel_rfl)) hgk Tryd.underlying45 hvk hdk bel
  obtain ⟨fw', nw, ew⟩ := var_stay (enc := enc) laidOut (by kernel_rfl) (of_decide_eq_true (by kernel_rfl)) hgw Tryd.underlying45 hvw hdw bel
  exact ⟨_, rfl, _, _, _, [], _, _, hW', trodAll_mk1 (shut_bool Tryd.underlying4 _), (trodAll_cons_mk (Below.trod laidOut (by kernel_rfl) (of_decide_eq_true (by kernel_rfl)) k0 bel lt0) trodAll_mk0), ⟨_, _, _, _, _, _, hgk, htk, nk, ek, ⟨_, _, _, _, _, _, hgw, htw, nw, ew, rfl, rfl⟩, rfl⟩, bel.frame _, fun h => by cases h⟩

theorem over : Rows.fnExactMsgPutRow.holds Tryd.pinned (OpenSpec.ofChange Rows.fnExactMsgPutSpec) :=
  OpenClaim.holds_of_wide 3 Tryd.f3 rfl rfl rfl rfl rfl rfl rfl ⟨rfl, rfl, rfl, rfl, rfl⟩ rfl rfl rfl rfl rfl (by kernel_rfl) Tryd.func3 (by kernel_rfl)
    (of_decide_eq_true (by kernel_rfl)) (by unfold Func.isWrapper; first | (rw [if_pos (by decide +kernel)]; kernel_rfl) | (rw [if_neg (by decide +kernel)]; exact ⟨rfl, rfl⟩))
    (fun os started H enc _ => lifted os started H enc)

theorem proved : Rows.FnExactMsgPutCardSaid :=
  Claim7.holds_tied_plain_at .later [] [.data, .data, .data, .widerDeep, .widerDeep] true (true, "cab838864e7c321962d10ce433934e9a89d588bd9b01e639cb955fcf3c1ec298") false
    over (fun _ h => by cases h) (by kernel_rfl) (fun _ h => by cases h) fnExactMsgPut_row_tie rfl ⟨rfl, rfl⟩ (by kernel_rfl) rfl
    (fun f fn hf hfn => by
      obtain rfl : f = 3 := Option.some.inj ((show Tryd.prog.funcNamed Rows.fnExactMsgPutRow.func = some 3 by kernel_rfl).symm.trans hf) |>.symm
      obtain rfl : fn = Tryd.f3 := (Option.some.inj (Tryd.func3.symm.trans hfn)).symm
      exact ⟨by kernel_rfl, fun j t ht => by
        rw [Tryd.params3] at ht
        have hm : t ∈ [27] := by simpa using Array.mem_of_getElem? ht
        have hall : ([27].all fun u => !Tryd.prog.wantsStandIn u) = true := by kernel_rfl
        exact (show Tryd.prog.wantsStandIn t = false by simpa using List.all_eq_true.1 hall t hm)⟩)
    (by kernel_rfl)
end FnExactMsgPut
end Go.Proofs.YtocifmnkohgfjaaDoor
