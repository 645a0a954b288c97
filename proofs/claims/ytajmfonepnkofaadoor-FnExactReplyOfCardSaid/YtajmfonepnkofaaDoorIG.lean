/-
  A game and an ask as arguments. (Printed by gen_ig.py.)
  Conditions: none.
-/
import Derived.Test.YtajmfonepnkofaaDoorHQ
import Derived.Test.YtajmfonepnkofaaDoorHW
import Derived.Test.YtajmfonepnkofaaDoorOpen
namespace Go.Proofs.YtajmfonepnkofaaDoor
open Go.RowKit Rg
set_option linter.unusedVariables false
set_option linter.unusedSimpArgs false
section
open Go.WideShapes Go.ChangeShapes Go.Deep
variable {H : Type} {enc : TypeId × Value → H} {P : Program} {w : World} {base : Nat} {spare : Nat → Bool} {held : Bool}
/-- A struct of integers, of any number. -/
theorem trod_ints {k : Nat} {t ti : TypeId} {fs : Array Field} {fuel : Nat} {cs : List Value} {x : DataW H × List MemPlace} (ht : P.underlying t = some (.struct fs)) (hti : P.underlying ti = some (.int .i64)) (hfs : fs.size = k) (hty : (fs.all fun f => f.type == ti) = true) (hone : oneCellFields P fs = true) (hC : P.cellsOf t = k)
    (h : DataW.trod enc P w base spare held fuel t cs = some x) : cs.length = k ∧ ∀ (i : Nat) (hi : i < cs.length), ∃ n : Int, cs[i] = .int .i64 n := by
  obtain ⟨ys, n, _, _, hlen, _, hf⟩ := DataW.trod_struct ht h
  rw [hC] at hlen
  refine ⟨by omega, fun i hi => ?_⟩
  have hi' : i < fs.size := by omega
  have hfi : fs[i]? = some fs[i] := Array.getElem?_eq_getElem hi'
  obtain ⟨ho, hk⟩ := hone_of hone i fs[i] hfi
  have h1 := hf i fs[i] hfi
  have hty' : fs[i].type = ti := by
    have := Array.all_eq_true_iff_forall_mem.1 hty fs[i] (Array.getElem_mem hi')
    simpa using this
  rw [ho, hk, hty', List.drop_eq_getElem_cons (by omega)] at h1
  cases hy : ys[i]? with
  | none => have : i < ys.length := by omega
            rw [List.getElem?_eq_getElem this] at hy; cases hy
  | some y =>
    rw [hy] at h1
    obtain ⟨k, hk1, _⟩ := DataW.trod_int hti h1
    rw [List.take_succ_cons, List.take_zero] at hk1
    injection hk1 with hk1
    exact ⟨k, hk1⟩
theorem trod_int5 {t ti : TypeId} {fs : Array Field} {fuel : Nat} {cs : List Value} {x : DataW H × List MemPlace} (ht : P.underlying t = some (.struct fs)) (hti : P.underlying ti = some (.int .i64)) (hfs : fs.size = 5) (hty : (fs.all fun f => f.type == ti) = true) (hone : oneCellFields P fs = true) (hC : P.cellsOf t = 5)
    (h : DataW.trod enc P w base spare held fuel t cs = some x) : ∃ a : ReqT, cs = encReq a ∧ True := by
  obtain ⟨hl, key⟩ := trod_ints ht hti hfs hty hone hC h
  clear h
  match cs, hl, key with
  | [c0, c1, c2, c3, c4], _, key =>
    obtain ⟨a, ha⟩ := key 0 (by simp)
    obtain ⟨b, hb⟩ := key 1 (by simp)
    obtain ⟨c, hc⟩ := key 2 (by simp)
    obtain ⟨d, hd⟩ := key 3 (by simp)
    obtain ⟨e, he⟩ := key 4 (by simp)
    refine ⟨(a, b, c, d, e), ?_, trivial⟩
    have ha' : c0 = .int .i64 a := ha
    have hb' : c1 = .int .i64 b := hb
    have hc' : c2 = .int .i64 c := hc
    have hd' : c3 = .int .i64 d := hd
    have he' : c4 = .int .i64 e := he
    rw [ha', hb', hc', hd', he']; rfl
end
section
open Go.WideShapes Go.ChangeShapes Go.Deep
variable {H : Type} {enc : TypeId × Value → H} {w : World} {base : Nat} {spare : Nat → Bool} {held : Bool}
set_option maxRecDepth 100000 in
theorem trod_game {fuel : Nat} {cs : Array Value} {x : DataW H × List MemPlace} (h : DataW.trod enc Tryd.prog w base spare held fuel 25 cs.toList = some x) :
    ∃ (A : Option Addr) (n c : Nat) (B : Option Addr) (p d : Nat) (E : Option Addr) (q f : Nat) (g : GameT), Value.agg cs = .agg #[.slice A n c, .slice B p d, .slice E q f] ∧ (n = g.1.length ∧ p = g.2.1.length ∧ q = g.2.2.length) ∧ (n ≤ maxLen ∧ p ≤ maxLen ∧ q ≤ maxLen) ∧ Sl encEnt 5 w 0 w.heap.size A g.1 ∧ Sl encI 1 w 0 w.heap.size B g.2.1 ∧ Sl encI 1 w 0 w.heap.size E g.2.2 := by
  obtain ⟨ys, n, _, _, hlen, hys, hf⟩ := DataW.trod_struct Tryd.underlying25 h
  have h0 := hf 0 _ rfl
  have h1 := hf 1 _ rfl
  have h2 := hf 2 _ rfl
  have c1 : Tryd.prog.cellsOf 22 = 1 := by kernel_rfl
  have c2 : Tryd.prog.cellsOf 25 = 3 := by kernel_rfl
  have c3 : Tryd.prog.cellsOf 23 = 1 := by kernel_rfl
  change DataW.trod enc Tryd.prog w base spare held n 22 ((cs.toList.drop 0).take (Tryd.prog.cellsOf 22)) = _ at h0
  change DataW.trod enc Tryd.prog w base spare held n 23 ((cs.toList.drop 1).take (Tryd.prog.cellsOf 23)) = _ at h1
  change DataW.trod enc Tryd.prog w base spare held n 23 ((cs.toList.drop 2).take (Tryd.prog.cellsOf 23)) = _ at h2
  rw [c1] at h0
  rw [c3] at h1 h2
  rw [c2] at hlen
  obtain ⟨v0, v1, v2, hcs⟩ : ∃ a b c, cs.toList = [a, b, c] := by
    match hq : cs.toList, hlen with
    | [a, b, c], _ => exact ⟨a, b, c, rfl⟩
  have hys3 : ys.length = 3 := hys
  obtain ⟨y0, y1, y2, rfl⟩ : ∃ a b c, ys = [a, b, c] := by
    match ys, hys3 with
    | [a, b, c], _ => exact ⟨a, b, c, rfl⟩
  rw [hcs] at h0 h1 h2
  obtain ⟨A, n0, c0, ds, rfl, e1, e2, e3, e4, _⟩ := trod_sl (encA := encEnt) (sz := 5) (Good := fun _ => True) Tryd.underlying22 (by kernel_rfl) (by omega) encEnt_len h0 (fun n cs y hy => by
    obtain ⟨a, h, _⟩ := trod_int5 Tryd.underlying90 Tryd.underlying3 rfl (by kernel_rfl) (by kernel_rfl) (by kernel_rfl) hy
    exact ⟨a, h, trivial⟩)
  obtain ⟨B, n1, c1, ws, rfl, f1, f2, f3, f4, _⟩ := trod_sl (encA := encI) (sz := 1) (Good := fun _ => True) Tryd.underlying23 (by kernel_rfl) (by omega) encI_len h1 (fun n cs y hy => by
    obtain ⟨k, h1, _⟩ := DataW.trod_int Tryd.underlying3 hy
    exact ⟨k, h1, trivial⟩)
  obtain ⟨E, n2, c2, us, rfl, g1, g2, g3, g4, _⟩ := trod_sl (encA := encI) (sz := 1) (Good := fun _ => True) Tryd.underlying23 (by kernel_rfl) (by omega) encI_len h2 (fun n cs y hy => by
    obtain ⟨k, h1, _⟩ := DataW.trod_int Tryd.underlying3 hy
    exact ⟨k, h1, trivial⟩)
  refine ⟨A, n0, c0, B, n1, c1, E, n2, c2, (ds, ws, us), ?_, ⟨e1, f1, g1⟩, ⟨Nat.le_trans e2 e3, Nat.le_trans f2 f3, Nat.le_trans g2 g3⟩, e4, f4, g4⟩
  rw [← Array.toArray_toList (xs := cs), hcs]
end
end Go.Proofs.YtajmfonepnkofaaDoor
