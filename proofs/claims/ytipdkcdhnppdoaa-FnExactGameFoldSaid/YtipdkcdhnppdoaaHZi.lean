/-
  A struct of five integers, as an argument.
  Conditions: none.
-/
import Derived.Test.YtipdkcdhnppdoaaHQ
import Derived.Test.YtipdkcdhnppdoaaOpen
namespace Go.Proofs.Ytipdkcdhnppdoaa
open Go.RowKit Rg
set_option linter.unusedVariables false
set_option linter.unusedSimpArgs false
section
open Go.WideShapes Go.ChangeShapes Go.Deep
variable {H : Type} {enc : TypeId × Value → H} {P : Program} {w : World} {base : Nat} {spare : Nat → Bool} {held : Bool}
/-- A struct of integers, of any number. -/
theorem trod_ints {k : Nat} {t ti : TypeId} {fs : Array Field} {fuel : Nat} {cs : List Value} {x : DataW H × List MemPlace} (ht : P.underlying t = some (.struct fs)) (hti : P.underlying ti = some (.int .i64)) (hfs : fs.size = k) (hty : (fs.all fun f => f.type == ti) = true) (hone : oneCellFields P fs = true) (hC : P.cellsOf t = k)
    (h : DataW.trod enc P w base spare held fuel t cs = some x) : cs.length = k ∧ ∀ (i : Nat) (hi : i < cs.length), ∃ n : Int, cs[i] = .int .i64 n := by
  obtain ⟨ys, n, _, _, hlen, _, hf⟩ := DataW.trod_struct ht h
  rw [hC] at hlen
  refine ⟨by omega, fun i hi => ?_⟩
  have hi' : i < fs.size := by omega
  have hfi : fs[i]? = some fs[i] := Array.getElem?_eq_getElem hi'
  obtain ⟨ho, hk⟩ := hone_of hone i fs[i] hfi
  have h1 := hf i fs[i] hfi
  have hty' : fs[i].type = ti := by
    have := Array.all_eq_true_iff_forall_mem.1 hty fs[i] (Array.getElem_mem hi')
    simpa using this
  rw [ho, hk, hty', List.drop_eq_getElem_cons (by omega)] at h1
  cases hy : ys[i]? with
  | none => have : i < ys.length := by omega
            rw [List.getElem?_eq_getElem this] at hy; cases hy
  | some y =>
    rw [hy] at h1
    obtain ⟨k, hk1, _⟩ := DataW.trod_int hti h1
    rw [List.take_succ_cons, List.take_zero] at hk1
    injection hk1 with hk1
    exact ⟨k, hk1⟩
theorem trod_int5 {t ti : TypeId} {fs : Array Field} {fuel : Nat} {cs : List Value} {x : DataW H × List MemPlace} (ht : P.underlying t = some (.struct fs)) (hti : P.underlying ti = some (.int .i64)) (hfs : fs.size = 5) (hty : (fs.all fun f => f.type == ti) = true) (hone : oneCellFields P fs = true) (hC : P.cellsOf t = 5)
    (h : DataW.trod enc P w base spare held fuel t cs = some x) : ∃ a : ReqT, cs = encReq a ∧ True := by
  obtain ⟨hl, key⟩ := trod_ints ht hti hfs hty hone hC h
  clear h
  match cs, hl, key with
  | [c0, c1, c2, c3, c4], _, key =>
    obtain ⟨a, ha⟩ := key 0 (by simp)
    obtain ⟨b, hb⟩ := key 1 (by simp)
    obtain ⟨c, hc⟩ := key 2 (by simp)
    obtain ⟨d, hd⟩ := key 3 (by simp)
    obtain ⟨e, he⟩ := key 4 (by simp)
    refine ⟨(a, b, c, d, e), ?_, trivial⟩
    have ha' : c0 = .int .i64 a := ha
    have hb' : c1 = .int .i64 b := hb
    have hc' : c2 = .int .i64 c := hc
    have hd' : c3 = .int .i64 d := hd
    have he' : c4 = .int .i64 e := he
    rw [ha', hb', hc', hd', he']; rfl
end
end Go.Proofs.Ytipdkcdhnppdoaa
