/-
  'allOk'; the reference's 'GameFold'. (Printed by gen_hn.py.)
  Conditions: none.
-/
import Derived.Test.YtajmfonepnkofaaDoorHM
namespace Go.Proofs.YtajmfonepnkofaaDoor
open Go.RowKit Rg
set_option linter.unusedVariables false
set_option linter.unusedSimpArgs false

theorem RdN.req {w : World} {lo hi b off n c k : Nat} {ts : List ReqT} (h : RdN 5 (flatR encReq) w lo hi (some ⟨b, off, none⟩) n c ts) (hk : k < ts.length) :
    w.cell? ⟨b, off + k * 5, none⟩ = some (.int .i64 ts[k].1) ∧ w.cell? ⟨b, off + k * 5 + 1, none⟩ = some (.int .i64 ts[k].2.1) ∧ w.cell? ⟨b, off + k * 5 + 2, none⟩ = some (.int .i64 ts[k].2.2.1) ∧ w.cell? ⟨b, off + k * 5 + 3, none⟩ = some (.int .i64 ts[k].2.2.2.1) ∧ w.cell? ⟨b, off + k * 5 + 4, none⟩ = some (.int .i64 ts[k].2.2.2.2) := h.sl.getReq hk
theorem okN_iff (t : ReqV) : okN t = true ↔ okNA t := by
  unfold okN okNA
  rw [Bool.or_eq_true, noneR_iff, okR_iff]
def emptyG : GameT := ([], [], [])
/-- What a fold returns. -/
def foldRes (rs : List ReqT) : GameT := if rs.all okN = true ∧ rs.length ≤ 60 then foldG newG rs else emptyG
theorem okGD_len {g : GameT} (h : okG g) : g.1.length ≤ 1000 ∧ g.2.1.length ≤ 1000 ∧ g.2.2.length ≤ 1000 := by
  have h1 := inc_len h.inc (fun e he => (h.ent e he).1)
  have h2 := h.n16
  have h3 := h.n4
  exact ⟨by omega, by omega, by omega⟩
/-- The empty game in new memory. -/
theorem emptyG_D (w : World) (D : Nat → Prop) : GmD w D none 0 0 none 0 0 none 0 0 emptyG :=
  ⟨⟨rfl, Nat.le_refl _, by simp [maxLen], fun h => absurd rfl h⟩, ⟨rfl, Nat.le_refl _, by simp [maxLen], fun h => absurd rfl h⟩, ⟨rfl, Nat.le_refl _, by simp [maxLen], fun h => absurd rfl h⟩, .inl ⟨rfl, rfl, rfl⟩⟩
theorem GmPost.empty {w w' : World} {D : Nat → Prop} (hB : Below w.heap.size w w') : GmPost w D emptyG (.returned (.agg #[.slice none 0 0, .slice none 0 0, .slice none 0 0])) w' := ⟨none, 0, 0, none, 0, 0, none, 0, 0, rfl, emptyG_D _ _, hB⟩
theorem GmPost2.empty {w w' : World} {D : Nat → Prop} (code : Int) (hB : Below w.heap.size w w') : GmPost2 w D (emptyG, code) (.returned (.tuple #[.agg #[.slice none 0 0, .slice none 0 0, .slice none 0 0], .int .i64 code])) w' := ⟨none, 0, 0, none, 0, 0, none, 0, 0, rfl, emptyG_D _ _, hB⟩

end Go.Proofs.YtajmfonepnkofaaDoor
