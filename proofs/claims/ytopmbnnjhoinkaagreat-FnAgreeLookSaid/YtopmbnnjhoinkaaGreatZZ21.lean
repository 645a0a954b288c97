/-
  What 'LAc' rests on (texts of this seat put together: NXa NRL NSf NXb NTa).
  Conditions: none.
-/
import Derived.Test.YtopmbnnjhoinkaaGreatZZ20
namespace Go.Proofs.YtopmbnnjhoinkaaGreat
open Go.RowKit Rg
set_option linter.unusedVariables false
set_option linter.unusedSimpArgs false
set_option maxHeartbeats 1000000
theorem okCls_len {cs : List ClaimT} (h : okCls cs) : cs.length ≤ 5 := by
  have key : ∀ i (hi : i < cs.length), (i : Int) + 1 ≤ cs[i].1 := by
    intro i
    induction i with
    | zero =>
      intro hi
      obtain ⟨_, h1, _⟩ := h 0 hi
      simp only [okCl, inB, Bool.and_eq_true, decide_eq_true_eq] at h1
      omega
    | succ i ih =>
      intro hi
      obtain ⟨_, _, h2⟩ := h (i + 1) hi
      have h3 := h2 (by omega)
      have h4 := ih (by omega)
      simp only [Nat.add_sub_cancel] at h3
      push_cast
      omega
  by_cases h5 : 5 < cs.length
  · have h6 := key 5 h5
    obtain ⟨_, h1, _⟩ := h 5 h5
    simp only [okCl, inB, Bool.and_eq_true, decide_eq_true_eq] at h1
    omega
  · omega
end Go.Proofs.YtopmbnnjhoinkaaGreat
namespace Go.Proofs.YtopmbnnjhoinkaaGreat
open Go.RowKit Go.Maps
set_option linter.unusedVariables false
set_option linter.unusedSimpArgs false
set_option maxHeartbeats 1000000
def askM (r : ReqV) : MsgT := (1, 0, 0, 0, r, [], [])
def doneH (bad : Int) (r : RepT) : List ClaimT := if r.1 = bad then [] else r.2.2.2.2.2.2
def hcl (bad : Int) (rs : List RepT) : List ClaimT := rs.flatMap (doneH bad)
theorem hcl_succ (bad : Int) (rs : List RepT) (k : Nat) (hk : k < rs.length) : hcl bad (rs.take (k + 1)) = hcl bad (rs.take k) ++ doneH bad rs[k] := by
  unfold hcl
  rw [List.take_succ_eq_append_getElem hk, List.flatMap_append]
  simp
def askOk (said : List MsgT) (c : ClaimT) : Prop := c.2.2 = (0, 0, 0, 0, 0) ∨ askM c.2.2 ∈ said
instance (said : List MsgT) (c : ClaimT) : Decidable (askOk said c) := by unfold askOk; infer_instance
def GoodL (said : List MsgT) (cs : List ClaimT) : Prop := (∀ c ∈ cs, askOk said c) ∧ ∀ c ∈ cs, ∀ d ∈ cs, c.1 = d.1 → c.2.2 = d.2.2
instance (said : List MsgT) (cs : List ClaimT) : Decidable (GoodL said cs) := by unfold GoodL; infer_instance
theorem GoodL.sub {said : List MsgT} {cs ds : List ClaimT} (h : GoodL said cs) (hs : ∀ c ∈ ds, c ∈ cs) : GoodL said ds :=
  ⟨fun c hc => h.1 c (hs c hc), fun c hc d hd => h.2 c (hs c hc) d (hs d hd)⟩
theorem GoodL.nil_ (said : List MsgT) : GoodL said [] := ⟨by simp, by simp⟩
theorem GoodL.snoc {said : List MsgT} {cs : List ClaimT} {c : ClaimT} (h : GoodL said cs) (ha : askOk said c) (hc : ∀ d ∈ cs, d.1 = c.1 → d.2.2 = c.2.2) : GoodL said (cs ++ [c]) := by
  refine ⟨fun x hx => ?_, fun x hx y hy e => ?_⟩
  · rcases List.mem_append.1 hx with hx | hx
    · exact h.1 x hx
    · simp at hx; subst hx; exact ha
  · rcases List.mem_append.1 hx with h1 | h1 <;> rcases List.mem_append.1 hy with h2 | h2
    · exact h.2 x h1 y h2 e
    · rw [List.mem_singleton] at h2
      rw [h2] at e ⊢
      exact hc x h1 e
    · rw [List.mem_singleton] at h1
      rw [h1] at e ⊢
      exact (hc y h2 e.symm).symm
    · rw [List.mem_singleton] at h1 h2
      rw [h1, h2]
/-! Asks as data of a map. -/
def reqD (r : ReqV) : DataW Unit := .agg [.lit (.int .i64 r.1), .lit (.int .i64 r.2.1), .lit (.int .i64 r.2.2.1), .lit (.int .i64 r.2.2.2.1), .lit (.int .i64 r.2.2.2.2)]
def reqE (v : Value) : Option (DataW Unit × List MemPlace) :=
  match v with
  | .agg a => match a.toList with
    | [.int .i64 x, .int .i64 y, .int .i64 z, .int .i64 u, .int .i64 s] => some (reqD (x, y, z, u, s), [])
    | _ => none
  | _ => none
theorem reqE_mk (r : ReqV) : reqE (.agg #[.int .i64 r.1, .int .i64 r.2.1, .int .i64 r.2.2.1, .int .i64 r.2.2.2.1, .int .i64 r.2.2.2.2]) = some (reqD r, []) := rfl
theorem reqD_inj {r s : ReqV} (h : reqD r = reqD s) : r = s := by
  obtain ⟨a, b, c, x, y⟩ := r
  obtain ⟨a', b', c', x', y'⟩ := s
  simp [reqD] at h
  simp [h]
theorem reqE_inv {v : Value} {r : ReqV} {ps : List MemPlace} (h : reqE v = some (reqD r, ps)) : v = .agg #[.int .i64 r.1, .int .i64 r.2.1, .int .i64 r.2.2.1, .int .i64 r.2.2.2.1, .int .i64 r.2.2.2.2] := by
  unfold reqE at h
  split at h
  · rename_i a
    split at h
    · rename_i x y z u s hl
      simp only [Option.some.injEq, Prod.mk.injEq] at h
      have := reqD_inj h.1
      subst this
      rw [← Array.toArray_toList (xs := a), hl]
    · cases h
  · cases h
structure MapD (D : DataW Unit) (cs : List ClaimT) : Prop where
  tidy : Tidy D
  mem : ∀ s, Maps.has D (key4 s) = cs.any fun c => decide (c.1 = s)
  at_ : ∀ c ∈ cs, D.atKey (key4 c.1) (reqD (0, 0, 0, 0, 0)) = reqD c.2.2
theorem mapD_none : MapD (.map []) [] := ⟨tidy_empty, fun _ => rfl, by simp⟩
theorem MapD.put {D : DataW Unit} {cs : List ClaimT} (h : MapD D cs) (c : ClaimT) (hc : ∀ d ∈ cs, d.1 = c.1 → d.2.2 = c.2.2) : MapD (D.put (key4 c.1) (reqD c.2.2)) (cs ++ [c]) := by
  refine ⟨h.tidy.put (key4_is _) _, fun s => ?_, fun d hd => ?_⟩
  · rw [List.any_append]
    by_cases e : s = c.1
    · subst e
      rw [has_put_same h.tidy.isMap (key4_is _)]; simp
    · rw [has_put_other (key4_ne e), h.mem]
      have : (decide (c.1 = s)) = false := by simpa using fun h => e h.symm
      simp [this]
  · rcases List.mem_append.1 hd with hd | hd
    · by_cases e : d.1 = c.1
      · rw [e, atKey_put_same h.tidy.isMap (key4_is _), hc d hd e]
      · rw [atKey_put_other (key4_ne e), h.at_ d hd]
    · simp at hd; subst hd
      rw [atKey_put_same h.tidy.isMap (key4_is _)]
theorem MapD.val {D : DataW Unit} {cs : List ClaimT} (h : MapD D cs) (s : Int) : ∃ r, D.atKey (key4 s) (reqD (0, 0, 0, 0, 0)) = reqD r ∧ (Maps.has D (key4 s) = true → ∃ d ∈ cs, d.1 = s ∧ d.2.2 = r) := by
  cases e : Maps.has D (key4 s)
  · exact ⟨_, atKey_of_not_has e _, fun h => by cases h⟩
  · have := h.mem s
    rw [e] at this
    obtain ⟨d, hd, hs⟩ := List.any_eq_true.1 this.symm
    simp at hs
    subst hs
    exact ⟨d.2.2, h.at_ d hd, fun _ => ⟨d, hd, rfl, rfl⟩⟩
theorem MapD.not {D : DataW Unit} {cs : List ClaimT} (h : MapD D cs) {s : Int} (e : Maps.has D (key4 s) = false) : ∀ d ∈ cs, ¬ d.1 = s := by
  intro d hd hs
  have := h.mem s
  rw [e] at this
  have h2 := List.any_eq_false.1 this.symm d hd
  simp at h2
  exact h2 hs
theorem keyInt' : Keyed Tryz.prog 3 := int_keyed Tryz.underlying3
theorem zeroReq (w : World) : (zeroValue 39).run Tryz.prog w = .ok (.agg #[.int .i64 0, .int .i64 0, .int .i64 0, .int .i64 0, .int .i64 0]) w := by kernel_rfl
theorem wpList_lookup_req (w : World) {ops : Array Oper} {rest : List Oper} {o : Oper} {a : Act} {Q : Exit → Act → World → Prop} (hg : o.guard = none) (m x : Operand) (hop : o.op = Op.lookup 37 m x true)
    (b n : Nat) (D : DataW Unit) (hm : a.eval m = .map (some b)) (hown : w.ownsMap Tryz.prog 3 reqE b n D) (key : Value) (kl : Lit) (hx : a.eval x = key) (hkey : keyOf Tryz.prog 3 key = some kl) (r : ReqV) (hr : D.atKey kl (reqD (0, 0, 0, 0, 0)) = reqD r)
    (hK : wpList Tryz.prog ops Q rest (a.put o.dst (.tuple #[.agg #[.int .i64 r.1, .int .i64 r.2.1, .int .i64 r.2.2.1, .int .i64 r.2.2.2.1, .int .i64 r.2.2.2.2], .bool (Maps.has D kl)])) w) :
    wpList Tryz.prog ops Q (o :: rest) a w :=
  wpList_lookup_own_ok w hg m x 37 hop 3 39 keyInt' Tryz.underlying37 reqE (zeroReq w) (reqD (0, 0, 0, 0, 0)) [] rfl b n D hm hown key kl hx hkey (fun v ps hv => by
    rw [hr] at hv
    have := reqE_inv hv
    subst this
    exact hK)
theorem run_neq_req (r s : ReqV) (w : World) : (binOp .neq 39 (.agg #[.int .i64 r.1, .int .i64 r.2.1, .int .i64 r.2.2.1, .int .i64 r.2.2.2.1, .int .i64 r.2.2.2.2]) (.agg #[.int .i64 s.1, .int .i64 s.2.1, .int .i64 s.2.2.1, .int .i64 s.2.2.2.1, .int .i64 s.2.2.2.2])).run Tryz.prog w = .ok (.bool (!decide (r = s))) w := by
  obtain ⟨a, b, c, x, y⟩ := r
  obtain ⟨a', b', c', x', y'⟩ := s
  go_simp
  by_cases h1 : a = a' <;> by_cases h2 : b = b' <;> by_cases h3 : c = c' <;> by_cases h4 : x = x' <;> by_cases h5 : y = y' <;> simp [*]
theorem okReps_done {ts : List RepT} (h : okReps ts) {i : Nat} (hi : i < ts.length) : okCls ts[i].2.2.2.2.2.2 ∧ ts[i].1 = (i : Int) := by
  obtain ⟨_, h1, h2⟩ := h i hi
  refine ⟨?_, h2⟩
  unfold okRep at h1
  simp only [Bool.and_eq_true, decide_eq_true_eq] at h1
  exact h1.2.2.2.2.2.1
end Go.Proofs.YtopmbnnjhoinkaaGreat
namespace Go.Proofs.YtopmbnnjhoinkaaGreat
open Go.RowKit Rg
set_option linter.unusedVariables false
set_option linter.unusedSimpArgs false
set_option maxHeartbeats 1000000
theorem l5New_c (me : Int) (w : World) : Calls Tryz.prog 76 #[.int .i64 me] w fun e w' => e = .returned (.agg #[.int .i64 me, .int .i64 0, .bool true, .int .i64 1, .slice none 0 0, .slice none 0 0, .slice none 0 0]) ∧ Below w.heap.size w w' := by
  have hA := (Below.refl w.heap.size w).alloc (Nat.le_refl _) (.cells #[.int .i64 me, .int .i64 0, .bool true, .int .i64 1, .slice none 0 0, .slice none 0 0, .slice none 0 0] 31)
  go_enter Tryz.func76, Tryz.ntmps76
  go_wp2
  exact bodyPost_ret (v := .agg #[.int .i64 me, .int .i64 0, .bool true, .int .i64 1, .slice none 0 0, .slice none 0 0, .slice none 0 0]) (by simp [results, Tryz.results76, go_sem]) rfl ⟨rfl, by simpa using hA⟩
theorem RepNew_yes (me : Int) (w : World) (h : inB me 0 3 = true) : Calls Tryz.prog 7 #[.int .i64 me] w fun e w' => e = .returned (.agg #[.int .i64 me, .int .i64 0, .bool true, .int .i64 1, .slice none 0 0, .slice none 0 0, .slice none 0 0]) ∧ Below w.heap.size w w' := by
  have hA := (Below.refl w.heap.size w).alloc (Nat.le_refl _) (.cells #[.int .i64 me, .int .i64 0, .bool true, .int .i64 1, .slice none 0 0, .slice none 0 0, .slice none 0 0] 31)
  go_enter Tryz.func7, Tryz.ntmps7
  go_wp2_with (go_at_call 14; refine (isKeeper_c _ _).mono ?_; rintro e w' ⟨rfl, rfl⟩; rw [h])
  exact bodyPost_ret (v := .agg #[.int .i64 me, .int .i64 0, .bool true, .int .i64 1, .slice none 0 0, .slice none 0 0, .slice none 0 0]) (by simp [results, Tryz.results7, go_sem]) rfl ⟨rfl, by simpa using hA⟩
end Go.Proofs.YtopmbnnjhoinkaaGreat
