/-
  From a row's condition ('laid') to the table of powers of ten and the program's words.
-/
import Derived.Test.YtocifmnkohgfjaaDoorMB
import Derived.Test.YtocifmnkohgfjaaDoorCards
import Derived.Test.YtocifmnkohgfjaaDoorTie
import Derived.Deep.Slices
import Derived.Stop.LaidErr
import Derived.MakeChecks
import Derived.LaidMore
import Derived.OpenShut
import Derived.ProofKit
import Derived.Stop.Joined
import Derived.SevenTiedAt
namespace Go.Proofs.YtocifmnkohgfjaaDoor
open Go Go.RowKit Rg Go.WideShapes Go.ChangeShapes Go.Deep
set_option linter.unusedVariables false
set_option linter.unusedSimpArgs false

theorem say_of {name : String} {g t e : Nat} {ls : List (List UInt8)} {rest : List (String × DataW Unit)} {W : World} (hg : Tryd.prog.globalNamed name = some g) (hty : (Tryd.prog.globals[g]?).map (·.type) = some t) (ht : Tryd.prog.underlying t = some (.slice e)) (he : Tryd.prog.underlying e = some .string) (hC : Tryd.prog.cellsOf e = 1) (hpos : 0 < ls.length)
    (h : laidMet Tryd.prog ((name, .slice (ls.map fun l => .lit (.string l)) []) :: rest) W) : SayAt g (ls.map asS) W := by
  obtain ⟨ps, ⟨g', t', cs, fuel, p, q, hg', ht', hvar, hd, _, _⟩, _⟩ := h
  obtain rfl := Option.some.inj (hg.symm.trans hg')
  obtain rfl := Option.some.inj (hty.symm.trans ht')
  rcases open_slice ht hd with ⟨hcs, hx⟩ | ⟨a, len, cap, m, n, D, Pl, hcs, hb, hl1, hm, hmm, hx, hi⟩
  · cases hx
  · have hD : ls.map (fun l => (DataW.lit (.string l) : DataW Unit)) = (List.range len).map D := by
      have := congrArg Prod.fst hx
      simp only [DataW.slice.injEq] at this
      exact this.1
    have hlen : ls.length = len := by have := congrArg List.length hD; simpa using this
    have hlm : len ≤ m := by rw [hmm]; split <;> omega
    have hat : ∀ (i : Nat) (hil : i < ls.length), W.cell? (a.add i) = some (.string (asS ls[i])) := by
      intro i hil
      obtain ⟨cs', hc, ht'⟩ := hi i (by omega)
      rw [hC, Nat.mul_one] at hc
      obtain ⟨_, hcl, hat⟩ := World.cells?_some hc
      obtain ⟨s, rfl, hs, _⟩ := DataW.trod_string he ht'
      have h0 := hat 0 (by omega)
      have hadd : (a.add i).add 0 = a.add i := by unfold Addr.add; simp
      rw [hadd] at h0
      have h2 : (ls.map (fun l => (DataW.lit (.string l) : DataW Unit)))[i]? = some (D i) := by rw [hD]; simp [List.getElem?_range (show i < len by omega)]
      have h3 : D i = .lit (.string s.data.toList) := congrArg Prod.fst hs
      rw [h3, List.getElem?_map, List.getElem?_eq_getElem hil] at h2
      simp only [Option.map_some, Option.some.injEq, DataW.lit.injEq, Lit.string.injEq] at h2
      rw [h2, asS_of]
      exact h0
    obtain ⟨b, off, spot⟩ := a
    have h00 := hat 0 hpos
    have hspot : spot = none := by
      have := World.cell?_spot h00
      unfold Addr.add at this
      split at this <;> simp_all
    subst hspot
    have hadd : ∀ i : Nat, (⟨b, off, none⟩ : Addr).add i = ⟨b, off + i, none⟩ := by
      intro i
      unfold Addr.add
      by_cases hi0 : i = 0 <;> simp [hi0]
    rw [hadd] at h00
    have hcell : W.cell? ⟨g, 0, none⟩ = some (.slice (some ⟨b, off, none⟩) len cap) := by
      have h1 := World.var?_cell hg hvar 0
      have h2 : cs[0]? = some (.slice (some ⟨b, off, none⟩) len cap) := by rw [← Array.getElem?_toList, hcs]; rfl
      rw [h1, h2]
    refine ⟨b, off, cap, by rw [List.length_map, hlen]; exact hcell, by rw [List.length_map, hlen]; exact hl1, hm, lt_of_cell h00, fun hne => ?_⟩
    refine ⟨b, off, rfl, Nat.zero_le _, lt_of_cell h00, fun i x hx j u hu => ?_⟩
    have hil : i < ls.length := by
      have := (List.getElem?_eq_some_iff.1 hx).1
      simpa using this
    rw [List.getElem?_map, List.getElem?_eq_getElem hil] at hx
    simp only [Option.map_some, Option.some.injEq] at hx
    subst hx
    have hj : j = 0 := by
      have := (List.getElem?_eq_some_iff.1 hu).1
      simp [encS] at this
      exact this
    subst hj
    simp only [encS, List.getElem?_cons_zero, Option.some.injEq] at hu
    subst hu
    have := hat i hil
    rw [hadd] at this
    simpa using this
theorem gPow : Tryd.prog.globalNamed "internal/strconv.uint64pow10" = some 2 := by kernel_rfl
theorem gPowT : (Tryd.prog.globals[2]?).map (·.type) = some 100 := by kernel_rfl
theorem gKinds : Tryd.prog.globalNamed "loop.example/wapentake/impl.kinds" = some 0 := by kernel_rfl
theorem gKindsT : (Tryd.prog.globals[0]?).map (·.type) = some 45 := by kernel_rfl
theorem gWords : Tryd.prog.globalNamed "loop.example/wapentake/impl.words" = some 1 := by kernel_rfl
theorem gWordsT : (Tryd.prog.globals[1]?).map (·.type) = some 45 := by kernel_rfl
theorem tab_of {W : World} (h : laidMetH Tryd.prog Rows.fnExactMsgPutRow.laid W) : Tab W ∧ WordsAt W ∧ KindsAt W := by
  rw [MakeChecks.laidMetH_plain _ _ _ (by kernel_rfl)] at h
  refine ⟨Go.Lib.tabIs_of_head gPow gPowT Tryd.underlying100 Tryd.underlying92 (by kernel_rfl) (by kernel_rfl) h.tail.tail, ?_, ?_⟩
  · exact say_of (ls := [[], [106, 111, 105, 110], [109, 111, 118, 101], [116, 97, 107, 101], [104, 105, 116], [103, 105, 118, 101]]) gWords gWordsT Tryd.underlying45 Tryd.underlying9 (by kernel_rfl) (by simp) h.tail.tail.tail.tail
  · exact say_of (ls := [[], [97, 115, 107], [111, 102, 102, 101, 114], [121, 101, 115], [115, 117, 114, 101], [116, 117, 114, 110], [108, 101, 97, 100]]) gKinds gKindsT Tryd.underlying45 Tryd.underlying9 (by kernel_rfl) (by simp) h.tail.tail.tail
end Go.Proofs.YtocifmnkohgfjaaDoor
