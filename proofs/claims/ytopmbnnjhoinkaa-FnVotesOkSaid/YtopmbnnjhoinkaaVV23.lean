/-
  What 'FVd' rests on (texts of this seat put together: NXa NRL NSf NXb NTa).
  Conditions: none.
-/
import Derived.Test.YtopmbnnjhoinkaaVV22
namespace Go.Proofs.Ytopmbnnjhoinkaa
open Go.RowKit Rg
set_option linter.unusedVariables false
set_option linter.unusedSimpArgs false
set_option maxHeartbeats 1000000
end Go.Proofs.Ytopmbnnjhoinkaa
namespace Go.Proofs.Ytopmbnnjhoinkaa
open Go.RowKit Go.Maps
set_option linter.unusedVariables false
set_option linter.unusedSimpArgs false
set_option maxHeartbeats 1000000
def askM (r : ReqV) : MsgT := (1, 0, 0, 0, r, [], [])
def doneH (bad : Int) (r : RepT) : List ClaimT := if r.1 = bad then [] else r.2.2.2.2.2.2
def hcl (bad : Int) (rs : List RepT) : List ClaimT := rs.flatMap (doneH bad)
def askOk (said : List MsgT) (c : ClaimT) : Prop := c.2.2 = (0, 0, 0, 0, 0) ∨ askM c.2.2 ∈ said
instance (said : List MsgT) (c : ClaimT) : Decidable (askOk said c) := by unfold askOk; infer_instance
def GoodL (said : List MsgT) (cs : List ClaimT) : Prop := (∀ c ∈ cs, askOk said c) ∧ ∀ c ∈ cs, ∀ d ∈ cs, c.1 = d.1 → c.2.2 = d.2.2
instance (said : List MsgT) (cs : List ClaimT) : Decidable (GoodL said cs) := by unfold GoodL; infer_instance
theorem GoodL.nil_ (said : List MsgT) : GoodL said [] := ⟨by simp, by simp⟩
def reqD (r : ReqV) : DataW Unit := .agg [.lit (.int .i64 r.1), .lit (.int .i64 r.2.1), .lit (.int .i64 r.2.2.1), .lit (.int .i64 r.2.2.2.1), .lit (.int .i64 r.2.2.2.2)]
structure MapD (D : DataW Unit) (cs : List ClaimT) : Prop where
  tidy : Tidy D
  mem : ∀ s, Maps.has D (key4 s) = cs.any fun c => decide (c.1 = s)
  at_ : ∀ c ∈ cs, D.atKey (key4 c.1) (reqD (0, 0, 0, 0, 0)) = reqD c.2.2
theorem MapD.put {D : DataW Unit} {cs : List ClaimT} (h : MapD D cs) (c : ClaimT) (hc : ∀ d ∈ cs, d.1 = c.1 → d.2.2 = c.2.2) : MapD (D.put (key4 c.1) (reqD c.2.2)) (cs ++ [c]) := by
  refine ⟨h.tidy.put (key4_is _) _, fun s => ?_, fun d hd => ?_⟩
  · rw [List.any_append]
    by_cases e : s = c.1
    · subst e
      rw [has_put_same h.tidy.isMap (key4_is _)]; simp
    · rw [has_put_other (key4_ne e), h.mem]
      have : (decide (c.1 = s)) = false := by simpa using fun h => e h.symm
      simp [this]
  · rcases List.mem_append.1 hd with hd | hd
    · by_cases e : d.1 = c.1
      · rw [e, atKey_put_same h.tidy.isMap (key4_is _), hc d hd e]
      · rw [atKey_put_other (key4_ne e), h.at_ d hd]
    · simp at hd; subst hd
      rw [atKey_put_same h.tidy.isMap (key4_is _)]
theorem MapD.val {D : DataW Unit} {cs : List ClaimT} (h : MapD D cs) (s : Int) : ∃ r, D.atKey (key4 s) (reqD (0, 0, 0, 0, 0)) = reqD r ∧ (Maps.has D (key4 s) = true → ∃ d ∈ cs, d.1 = s ∧ d.2.2 = r) := by
  cases e : Maps.has D (key4 s)
  · exact ⟨_, atKey_of_not_has e _, fun h => by cases h⟩
  · have := h.mem s
    rw [e] at this
    obtain ⟨d, hd, hs⟩ := List.any_eq_true.1 this.symm
    simp at hs
    subst hs
    exact ⟨d.2.2, h.at_ d hd, fun _ => ⟨d, hd, rfl, rfl⟩⟩
end Go.Proofs.Ytopmbnnjhoinkaa
namespace Go.Proofs.Ytopmbnnjhoinkaa
open Go.RowKit Rg
set_option linter.unusedVariables false
set_option linter.unusedSimpArgs false
set_option maxHeartbeats 1000000
theorem l5New_c (me : Int) (w : World) : Calls Try.prog 88 #[.int .i64 me] w fun e w' => e = .returned (.agg #[.int .i64 me, .int .i64 0, .bool true, .int .i64 1, .slice none 0 0, .slice none 0 0, .slice none 0 0]) ∧ Below w.heap.size w w' := by
  have hA := (Below.refl w.heap.size w).alloc (Nat.le_refl _) (.cells #[.int .i64 me, .int .i64 0, .bool true, .int .i64 1, .slice none 0 0, .slice none 0 0, .slice none 0 0] 87)
  go_enter Try.func88, Try.ntmps88
  go_wp2
  exact bodyPost_ret (v := .agg #[.int .i64 me, .int .i64 0, .bool true, .int .i64 1, .slice none 0 0, .slice none 0 0, .slice none 0 0]) (by simp [results, Try.results88, go_sem]) rfl ⟨rfl, by simpa using hA⟩
end Go.Proofs.Ytopmbnnjhoinkaa
