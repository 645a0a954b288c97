/-
  Games in the reference: 'l2At', 'l2Near', 'l2Copy', 'l2New'.
  Conditions: none.
-/
import Derived.Test.YtajmfonepnkofaaDoorHA
import Derived.Test.YtajmfonepnkofaaDoorRegG
import Derived.Test.YtajmfonepnkofaaDoorRegA
namespace Go.Proofs.YtajmfonepnkofaaDoor
open Go.RowKit Rg
set_option linter.unusedVariables false
set_option linter.unusedSimpArgs false

theorem l2At_c (A : Option Addr) (n c : Nat) (B : Option Addr) (p d : Nat) (E : Option Addr) (q f : Nat) (lo hi : Nat) (es : List EntT) (cl : Int) (w : World) (hs : RdN 5 entR w lo hi A n c es) (hhi : hi ≤ w.heap.size) :
    Calls Tryd.prog 49 #[.agg #[.slice A n c, .slice B p d, .slice E q f], .int .i64 cl] w fun e w' => e = .returned (.int .i64 (atI es cl)) ∧ Below w.heap.size w w' := by
  have hb0 := (Below.refl w.heap.size w).alloc (Nat.le_refl _) (.cells #[.slice A n c, .slice B p d, .slice E q f] 35)
  have hx0 := Bx3.made w (.slice A n c) (.slice B p d) (.slice E q f) 35
  have hs0 := hs.below (flat_kept _) hb0 hhi
  have hn' := hide hs.len
  have hcap := hs.cap
  have hmax := hs.max
  unfold maxLen at hmax
  obtain ⟨x0, x1, x2, f0, f1, f2⟩ := hx0.cells
  have hl0 := hx0.lt
  clear hs hx0
  go_enter Tryd.func49, Tryd.ntmps49
  go_wp2
  generalize w.alloc (.cells #[.slice A n c, .slice B p d, .slice E q f] 35) = w0 at *
  go_loop [5] (fun iv => ∃ k : Nat, k ≤ n ∧ iv = .int .i64 (k : Int) ∧ Hid (∀ (i : Nat) (hi : i < es.length), i < k → es[i].1 ≠ cl)) (fun iv => n - (intOf iv).toNat)
  case atStart => exact ⟨0, Nat.zero_le _, rfl, hide (fun i _ h => absurd h (by omega))⟩
  case round =>
    obtain ⟨k, hk, rfl, hno⟩ := hrel
    by_cases hlt : k < n
    · have hlx : k < es.length := by have := hn'.out; omega
      obtain ⟨b, off, rfl, hlo, hbh⟩ := hs0.addr hlx
      obtain ⟨a0, a1, a2, a3, a4⟩ := hs0.ent hlx
      cases e1 : (es[k].1 == cl)
      · have hne := hide (show es[k].1 ≠ cl by simpa using e1)
        go_wp2
        go_roundw
        case rel => exact ⟨k + 1, by omega, by go_num, hide (fun i hi h => by
          by_cases h9 : i < k
          · exact hno.out i hi h9
          · obtain rfl : i = k := by omega
            exact hne.out)⟩
        case measure => simp [intOf]; omega
      · have hy := hide (atI_some hlx (by simpa using e1) hno.out)
        go_wp2
        go_ret
        exact ⟨by rw [hy.out]; rfl, hb0⟩
    · obtain rfl : k = n := by omega
      have hy := hide (atI_none (es := es) (c := cl) (fun i hi => hno.out i hi (by have := hn'.out; omega)))
      go_wp2
      go_ret
      exact ⟨by rw [hy.out]; rfl, hb0⟩
theorem nearE_eq (a b : EntT) : decide (nearE a b) = (inB (a.2.1 - b.2.1) (-1) 1 && inB (a.2.2.1 - b.2.2.1) (-1) 1) := by
  have h : nearE a b ↔ (inB (a.2.1 - b.2.1) (-1) 1 && inB (a.2.2.1 - b.2.2.1) (-1) 1) = true := by simp [nearE, rng, inB]
  rw [Bool.eq_iff_iff, decide_eq_true_iff]
  exact h
def smallE (e : EntT) : Prop := rng e.2.1 0 3 ∧ rng e.2.2.1 0 3
theorem l2Near_c (a b : EntT) (w : World) (ha : smallE a) (hb : smallE b) :
    Calls Tryd.prog 80 #[.agg #[.int .i64 a.1, .int .i64 a.2.1, .int .i64 a.2.2.1, .int .i64 a.2.2.2.1, .int .i64 a.2.2.2.2], .agg #[.int .i64 b.1, .int .i64 b.2.1, .int .i64 b.2.2.1, .int .i64 b.2.2.2.1, .int .i64 b.2.2.2.2]] w fun e w' => e = .returned (.bool (decide (nearE a b))) ∧ Below w.heap.size w w' := by
  rw [nearE_eq]
  obtain ⟨⟨h1, h2⟩, h3, h4⟩ := ha
  obtain ⟨⟨h5, h6⟩, h7, h8⟩ := hb
  have hB := ((Below.refl w.heap.size w).alloc (Nat.le_refl _) (.cells #[.int .i64 a.1, .int .i64 a.2.1, .int .i64 a.2.2.1, .int .i64 a.2.2.2.1, .int .i64 a.2.2.2.2] 82)).alloc (by simp) (.cells #[.int .i64 b.1, .int .i64 b.2.1, .int .i64 b.2.2.1, .int .i64 b.2.2.2.1, .int .i64 b.2.2.2.2] 82)
  cases e1 : inB (a.2.1 - b.2.1) (-1) 1
  · go_enter Tryd.func80, Tryd.ntmps80
    go_wp2_with (go_at_call 20; refine (l1In_c _ _ _ _).mono ?_; rintro e _ ⟨rfl, rfl⟩)
    go_ret
    exact ⟨rfl, hB⟩
  · go_enter Tryd.func80, Tryd.ntmps80
    go_wp2_with (go_at_call 20; refine (l1In_c _ _ _ _).mono ?_; rintro e _ ⟨rfl, rfl⟩)
    go_ret
    exact ⟨rfl, hB⟩
end Go.Proofs.YtajmfonepnkofaaDoor
