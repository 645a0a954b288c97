/-
  What 'FVd' rests on (texts of this seat put together: NV NW NSa NSb).
  Conditions: none.
-/
import Derived.Test.YtopmbnnjhoinkaaVV9
namespace Go.Proofs.Ytopmbnnjhoinkaa
open Go.RowKit Rg
set_option linter.unusedVariables false
set_option linter.unusedSimpArgs false
set_option maxHeartbeats 1000000
theorem BxQ.keep7 {w : World} {b c : Nat} {r : ReqV} (h : BxQ w b r) (hne : b ≠ c) (a0 a1 a2 a3 a4 a5 a6 : Value) : BxQ (((((((w.setCell ⟨c, 0, none⟩ a0).setCell ⟨c, 1, none⟩ a1).setCell ⟨c, 2, none⟩ a2).setCell ⟨c, 3, none⟩ a3).setCell ⟨c, 4, none⟩ a4).setCell ⟨c, 5, none⟩ a5).setCell ⟨c, 6, none⟩ a6) b r :=
  ((((((((Below.heap_setCell _ ⟨c, 6, none⟩ _ b hne).trans (Below.heap_setCell _ ⟨c, 5, none⟩ _ b hne)).trans (Below.heap_setCell _ ⟨c, 4, none⟩ _ b hne)).trans (Below.heap_setCell _ ⟨c, 3, none⟩ _ b hne)).trans (Below.heap_setCell _ ⟨c, 2, none⟩ _ b hne)).trans (Below.heap_setCell _ ⟨c, 1, none⟩ _ b hne)).trans (Below.heap_setCell _ ⟨c, 0, none⟩ _ b hne)).trans h)
def Best (w : World) (b : Nat) (s : PickS) : Prop := ∃ z : Int, BxC w b (z, s.2.1, s.2.2)
set_option maxRecDepth 100000 in
set_option maxHeartbeats 8000000 in
theorem picked_c (A : Option Addr) (n c lo hi : Nat) (ts : List VoteT) (seq : Int) (w : World) (hs : RdN 2 voteR w lo hi A n c ts) (hhi : hi ≤ w.heap.size) :
    Calls Try.prog 46 #[.slice A n c, .int .i64 seq] w fun e w' => e = .returned (.tuple #[.agg #[.int .i64 (pickOf (clsOf ts) seq).1, .int .i64 (pickOf (clsOf ts) seq).2.1, .int .i64 (pickOf (clsOf ts) seq).2.2.1, .int .i64 (pickOf (clsOf ts) seq).2.2.2.1, .int .i64 (pickOf (clsOf ts) seq).2.2.2.2], .bool (reachB seq (clsOf ts) && decide (1 ≤ seq))]) ∧ Below w.heap.size w w' := by
  have hn' := hide hs.len
  have hc1 := hs.cap
  have hc2 := hs.max
  unfold maxLen at hc2
  have hs0 : (w.alloc (.cells #[.int .i64 0, .int .i64 0, .int .i64 0, .int .i64 0, .int .i64 0] 25)).heap.size = w.heap.size + 1 := by simp
  have q1 : BxQ ((w.alloc (.cells #[.int .i64 0, .int .i64 0, .int .i64 0, .int .i64 0, .int .i64 0] 25)).alloc (.cells #[.int .i64 0, .int .i64 0, .int .i64 0, .int .i64 0, .int .i64 0, .int .i64 0, .int .i64 0] 27)) w.heap.size (0, 0, 0, 0, 0) := (BxQ.made w (0, 0, 0, 0, 0)).below ((Below.refl _ _).alloc (Nat.le_refl _) _)
  have q2 : Best ((w.alloc (.cells #[.int .i64 0, .int .i64 0, .int .i64 0, .int .i64 0, .int .i64 0] 25)).alloc (.cells #[.int .i64 0, .int .i64 0, .int .i64 0, .int .i64 0, .int .i64 0, .int .i64 0, .int .i64 0] 27)) (w.heap.size + 1) (false, 0, (0, 0, 0, 0, 0)) := ⟨0, by rw [← hs0]; exact BxC.made _ (0, 0, 0, 0, 0, 0, 0)⟩
  have hB : Below w.heap.size w ((w.alloc (.cells #[.int .i64 0, .int .i64 0, .int .i64 0, .int .i64 0, .int .i64 0] 25)).alloc (.cells #[.int .i64 0, .int .i64 0, .int .i64 0, .int .i64 0, .int .i64 0, .int .i64 0, .int .i64 0] 27)) := ((Below.refl _ _).alloc (Nat.le_refl _) _).alloc (by simp) _
  clear hs0
  go_enter Try.func46, Try.ntmps46
  go_wp2
  generalize ((w.alloc (.cells #[.int .i64 0, .int .i64 0, .int .i64 0, .int .i64 0, .int .i64 0] 25)).alloc (.cells #[.int .i64 0, .int .i64 0, .int .i64 0, .int .i64 0, .int .i64 0, .int .i64 0, .int .i64 0] 27)) = w0 at *
  go_loopw [7, 8, 15] (fun fv rv i wr => ∃ k : Nat, k ≤ n ∧ i = .int .i64 k ∧ fv = .bool (pickS seq (clsOf (ts.take k))).1 ∧ rv = .bool (reachB seq (clsOf (ts.take k))) ∧ BxQ wr w.heap.size (0, 0, 0, 0, 0) ∧ Best wr (w.heap.size + 1) (pickS seq (clsOf (ts.take k))) ∧ Below w.heap.size w wr) (fun _ _ i _ => n - (intOf i).toNat)
  case atStart => exact ⟨0, Nat.zero_le _, rfl, rfl, rfl, q1, q2, hB⟩
  case round =>
    obtain ⟨k, hk, rfl, rfl, rfl, q1, q2, hbr⟩ := hrel
    by_cases hlt : k < n
    · have hlx : k < ts.length := by have := hn'.out; omega
      obtain ⟨b, off, rfl, hlo, hbh⟩ := hs.addr hlx
      obtain ⟨A1, n1, c1, a0, a1, r0⟩ := (hs.below vote_kept hbr hhi).vote hlx
      have hm' := hide r0.len
      have hm1 := r0.cap
      have hm2 := r0.max
      unfold maxLen at hm2
      have hseen := hide (seen_all hlx hm'.out)
      have hz0 := hide (seen_zero ts k hlx)
      rw [← hz0.out]
      rw [← hz0.out] at q2
      have hlq := q1.lt
      have hA := (Below.refl wr.heap.size wr).alloc (Nat.le_refl _) (.cells #[.int .i64 ts[k].1, .slice A1 n1 c1] 42)
      have hbr1 := hbr.trans (hA.mono hbr.size)
      have q1 := q1.below hA
      have q2 : Best (wr.alloc (.cells #[.int .i64 ts[k].1, .slice A1 n1 c1] 42)) (w.heap.size + 1) (pickS seq (seen ts k 0 hlx)) := by obtain ⟨z, h⟩ := q2; exact ⟨z, h.below hA⟩
      have r0 := r0.below (flat_kept _) hA (Nat.le_trans hhi hbr.size)
      go_wp2
      generalize wr.alloc (.cells #[.int .i64 ts[k].1, .slice A1 n1 c1] 42) = wv at *
      go_loopw [7, 8, 22] (fun fv rv j ws => ∃ m : Nat, m ≤ n1 ∧ j = .int .i64 m ∧ fv = .bool (pickS seq (seen ts k m hlx)).1 ∧ rv = .bool (reachB seq (seen ts k m hlx)) ∧ BxQ ws w.heap.size (0, 0, 0, 0, 0) ∧ Best ws (w.heap.size + 1) (pickS seq (seen ts k m hlx)) ∧ Below w.heap.size wv ws) (fun _ _ j _ => n1 - (intOf j).toNat)
      case atStart => exact ⟨0, Nat.zero_le _, rfl, rfl, rfl, q1, q2, Below.refl _ _⟩
      case round =>
        obtain ⟨m, hm, rfl, rfl, rfl, q1, ⟨z, q2⟩, hbs⟩ := hrel
        have hrs := hbr1.trans hbs
        have r0s := r0.below (flat_kept _) hbs hhi
        obtain ⟨y0, y1, y2, y3, y4, y5, y6, yf0, yf1, yf2, yf3, yf4, yf5, yf6⟩ := q2.cells
        have hl2 := q2.lt
        have hl1 := q1.lt
        by_cases hlm : m < n1
        · have hlc : m < ts[k].2.length := by have := hm'.out; omega
          obtain ⟨b2, off2, rfl, hlo2, hbh2⟩ := r0.addr hlc
          obtain ⟨p0, p1, p2, p3, p4, p5, p6⟩ := r0s.claim hlc
          have hst := hide (seen_succ ts k m hlx hlc)
          have hrch : Hid (reachB seq (seen ts k (m + 1) hlx) = (reachB seq (seen ts k m hlx) || decide (seq ≤ ts[k].2[m].1))) := hide (by rw [hst.out, reachB_snoc])
          have hA := (Below.refl wr.heap.size wr).alloc (Nat.le_refl _) (.cells #[.int .i64 ts[k].2[m].1, .int .i64 ts[k].2[m].2.1, .int .i64 ts[k].2[m].2.2.1, .int .i64 ts[k].2[m].2.2.2.1, .int .i64 ts[k].2[m].2.2.2.2.1, .int .i64 ts[k].2[m].2.2.2.2.2.1, .int .i64 ts[k].2[m].2.2.2.2.2.2] 27)
          have hne2 : w.heap.size + 1 ≠ wr.heap.size := by omega
          cases e0 : reachB seq (seen ts k m hlx) <;> cases e9 : decide (seq ≤ ts[k].2[m].1)
          all_goals
            have hrc := hrch.out
            rw [e0, e9] at hrc
            have hrc' := hide hrc
            clear hrc
            cases e1 : (ts[k].2[m].1 == seq)
            · have hx : Hid (pickS seq (seen ts k (m + 1) hlx) = (pickS seq (seen ts k m hlx))) := hide (by rw [hst.out, pickS_snoc, step_no1 e1])
              go_wp2
              go_roundw
              case rel => exact ⟨m + 1, by omega, by go_num, by rw [hx.out], by rw [hrc'.out]; rfl, q1.below hA, by rw [hx.out]; exact ⟨z, q2.below hA⟩, hbs.trans (hA.mono (by omega))⟩
              case measure => simp [intOf]; omega
            · cases e2 : (pickS seq (seen ts k m hlx)).1
              · have hx : Hid (pickS seq (seen ts k (m + 1) hlx) = (true, ts[k].2[m].2.1, ts[k].2[m].2.2)) := hide (by rw [hst.out, pickS_snoc, step_yes e1 (.inl e2)])
                have hk : Below w.heap.size wr (((((((wr.setCell ⟨w.heap.size + 1, 0, none⟩ (.int .i64 ts[k].2[m].1)).setCell ⟨w.heap.size + 1, 1, none⟩ (.int .i64 ts[k].2[m].2.1)).setCell ⟨w.heap.size + 1, 2, none⟩ (.int .i64 ts[k].2[m].2.2.1)).setCell ⟨w.heap.size + 1, 3, none⟩ (.int .i64 ts[k].2[m].2.2.2.1)).setCell ⟨w.heap.size + 1, 4, none⟩ (.int .i64 ts[k].2[m].2.2.2.2.1)).setCell ⟨w.heap.size + 1, 5, none⟩ (.int .i64 ts[k].2[m].2.2.2.2.2.1)).setCell ⟨w.heap.size + 1, 6, none⟩ (.int .i64 ts[k].2[m].2.2.2.2.2.2)) := (((((((Below.refl _ _).setCell (by simp) _).setCell (by simp) _).setCell (by simp) _).setCell (by simp) _).setCell (by simp) _).setCell (by simp) _).setCell (by simp) _
                have q1k : BxQ (((((((wr.setCell ⟨w.heap.size + 1, 0, none⟩ (.int .i64 ts[k].2[m].1)).setCell ⟨w.heap.size + 1, 1, none⟩ (.int .i64 ts[k].2[m].2.1)).setCell ⟨w.heap.size + 1, 2, none⟩ (.int .i64 ts[k].2[m].2.2.1)).setCell ⟨w.heap.size + 1, 3, none⟩ (.int .i64 ts[k].2[m].2.2.2.1)).setCell ⟨w.heap.size + 1, 4, none⟩ (.int .i64 ts[k].2[m].2.2.2.2.1)).setCell ⟨w.heap.size + 1, 5, none⟩ (.int .i64 ts[k].2[m].2.2.2.2.2.1)).setCell ⟨w.heap.size + 1, 6, none⟩ (.int .i64 ts[k].2[m].2.2.2.2.2.2)) w.heap.size (0, 0, 0, 0, 0) := q1.keep7 (by omega) _ _ _ _ _ _ _
                go_wp2
                go_roundw
                case rel => exact ⟨m + 1, by omega, by go_num, by rw [hx.out], by rw [hrc'.out]; rfl, (q1k.below ((Below.refl _ _).alloc (Nat.le_refl _) _)), by rw [hx.out]; exact ⟨ts[k].2[m].1, ((q2.set ts[k].2[m]).below ((Below.refl _ _).alloc (Nat.le_refl _) _))⟩, (hbs.trans (hk.alloc (by simp; omega) _))⟩
                case measure => simp [intOf]; omega
              · cases e3 : decide ((pickS seq (seen ts k m hlx)).2.1 < ts[k].2[m].2.1)
                · have hx : Hid (pickS seq (seen ts k (m + 1) hlx) = (pickS seq (seen ts k m hlx))) := hide (by rw [hst.out, pickS_snoc, step_no2 e2 e3])
                  go_wp2
                  go_roundw
                  case rel => exact ⟨m + 1, by omega, by go_num, by rw [hx.out, e2], by rw [hrc'.out]; rfl, q1.below hA, by rw [hx.out]; exact ⟨z, q2.below hA⟩, hbs.trans (hA.mono (by omega))⟩
                  case measure => simp [intOf]; omega
                · have hx : Hid (pickS seq (seen ts k (m + 1) hlx) = (true, ts[k].2[m].2.1, ts[k].2[m].2.2)) := hide (by rw [hst.out, pickS_snoc, step_yes e1 (.inr e3)])
                  have hk : Below w.heap.size wr (((((((wr.setCell ⟨w.heap.size + 1, 0, none⟩ (.int .i64 ts[k].2[m].1)).setCell ⟨w.heap.size + 1, 1, none⟩ (.int .i64 ts[k].2[m].2.1)).setCell ⟨w.heap.size + 1, 2, none⟩ (.int .i64 ts[k].2[m].2.2.1)).setCell ⟨w.heap.size + 1, 3, none⟩ (.int .i64 ts[k].2[m].2.2.2.1)).setCell ⟨w.heap.size + 1, 4, none⟩ (.int .i64 ts[k].2[m].2.2.2.2.1)).setCell ⟨w.heap.size + 1, 5, none⟩ (.int .i64 ts[k].2[m].2.2.2.2.2.1)).setCell ⟨w.heap.size + 1, 6, none⟩ (.int .i64 ts[k].2[m].2.2.2.2.2.2)) := (((((((Below.refl _ _).setCell (by simp) _).setCell (by simp) _).setCell (by simp) _).setCell (by simp) _).setCell (by simp) _).setCell (by simp) _).setCell (by simp) _
                  have q1k : BxQ (((((((wr.setCell ⟨w.heap.size + 1, 0, none⟩ (.int .i64 ts[k].2[m].1)).setCell ⟨w.heap.size + 1, 1, none⟩ (.int .i64 ts[k].2[m].2.1)).setCell ⟨w.heap.size + 1, 2, none⟩ (.int .i64 ts[k].2[m].2.2.1)).setCell ⟨w.heap.size + 1, 3, none⟩ (.int .i64 ts[k].2[m].2.2.2.1)).setCell ⟨w.heap.size + 1, 4, none⟩ (.int .i64 ts[k].2[m].2.2.2.2.1)).setCell ⟨w.heap.size + 1, 5, none⟩ (.int .i64 ts[k].2[m].2.2.2.2.2.1)).setCell ⟨w.heap.size + 1, 6, none⟩ (.int .i64 ts[k].2[m].2.2.2.2.2.2)) w.heap.size (0, 0, 0, 0, 0) := q1.keep7 (by omega) _ _ _ _ _ _ _
                  go_wp2
                  go_roundw
                  case rel => exact ⟨m + 1, by omega, by go_num, by rw [hx.out], by rw [hrc'.out]; rfl, (q1k.below ((Below.refl _ _).alloc (Nat.le_refl _) _)), by rw [hx.out]; exact ⟨ts[k].2[m].1, ((q2.set ts[k].2[m]).below ((Below.refl _ _).alloc (Nat.le_refl _) _))⟩, (hbs.trans (hk.alloc (by simp; omega) _))⟩
                  case measure => simp [intOf]; omega
        · obtain rfl : m = n1 := by omega
          go_wp2
          go_roundw
          case rel => exact ⟨k + 1, by omega, by go_num, by rw [hseen.out], by rw [hseen.out], q1, by rw [← hseen.out]; exact ⟨z, q2⟩, hrs⟩
          case measure => simp [intOf]; omega
    · obtain rfl : k = n := by omega
      have hall := hide (clsOf_all hn'.out)
      rw [hall.out] at q2
      obtain ⟨z, q2⟩ := q2
      obtain ⟨y0, y1, y2, y3, y4, y5, y6, yf0, yf1, yf2, yf3, yf4, yf5, yf6⟩ := q2.cells
      obtain ⟨z0, z1, z2, z3, z4, zf0, zf1, zf2, zf3, zf4⟩ := q1.cells
      have hl2 := q2.lt
      rw [hall.out]
      cases e0 : reachB seq (clsOf ts)
      all_goals
        go_wp2
        refine bodyPost_ret (v := .tuple #[.agg #[.int .i64 (pickOf (clsOf ts) seq).1, .int .i64 (pickOf (clsOf ts) seq).2.1, .int .i64 (pickOf (clsOf ts) seq).2.2.1, .int .i64 (pickOf (clsOf ts) seq).2.2.2.1, .int .i64 (pickOf (clsOf ts) seq).2.2.2.2], .bool _]) (by simp [results, Try.results46, go_sem, pickOf, y0, y1, y2, y3, y4, y5, y6, yf0, yf1, yf2, yf3, yf4, yf5, yf6, z0, z1, z2, z3, z4]; rfl) rfl ⟨congrArg (fun b => Ending.returned (.tuple #[.agg #[.int .i64 (pickOf (clsOf ts) seq).1, .int .i64 (pickOf (clsOf ts) seq).2.1, .int .i64 (pickOf (clsOf ts) seq).2.2.1, .int .i64 (pickOf (clsOf ts) seq).2.2.2.1, .int .i64 (pickOf (clsOf ts) seq).2.2.2.2], .bool b])) (by simp), ?_⟩
        repeat (first | (with_reducible exact hbr) | (with_reducible refine Below.drew ?_) | ((with_reducible refine Below.setCell ?_ ?_ _); rotate_left; (focus (first | (simp; done) | (simp; omega)))))
end Go.Proofs.Ytopmbnnjhoinkaa
namespace Go.Proofs.Ytopmbnnjhoinkaa
open Go.RowKit Rg Go.Maps
set_option linter.unusedVariables false
set_option linter.unusedSimpArgs false
set_option maxHeartbeats 1000000
theorem keyInt : Keyed Try.prog 3 := int_keyed Try.underlying3
theorem said_no {kind but : Int} {c : ClaimT} {x : MsgT} (h : (x.1 == kind) = false ∨ inB x.2.1 0 3 = false ∨ (x.2.1 != but) = false ∨ (x.2.2.1 == c.2.1) = false ∨ (x.2.2.2.1 == c.1) = false ∨ decide (x.2.2.2.2.1 = c.2.2) = false) (j : Int) (h0 : 0 ≤ j) (h3 : j ≤ 3) :
    (decide (j ≠ but) && saidOf kind c j x) = false := by
  rw [Bool.eq_false_iff]
  intro h9
  unfold saidOf inB at *
  simp only [Bool.and_eq_true, decide_eq_true_eq] at h9
  obtain ⟨h1, h2, h4, h5, h6, h7⟩ := h9
  simp [h2, h4, h5, h6, h7, h1] at h
  omega
theorem said_yes {kind but : Int} {c : ClaimT} {x : MsgT} (h1 : (x.1 == kind) = true) (h3 : (x.2.1 != but) = true) (h4 : (x.2.2.1 == c.2.1) = true) (h5 : (x.2.2.2.1 == c.1) = true) (h6 : decide (x.2.2.2.2.1 = c.2.2) = true) (j : Int) :
    (decide (j ≠ but) && saidOf kind c j x) = decide (j = x.2.1) := by
  rw [Bool.eq_iff_iff]
  unfold saidOf
  simp only [Bool.and_eq_true, decide_eq_true_eq]
  simp at h1 h3 h4 h5 h6
  constructor
  · rintro ⟨_, _, h, _⟩; exact h.symm
  · rintro rfl
    exact ⟨h3, h1, rfl, h4, h5, h6⟩
set_option maxRecDepth 100000 in
set_option maxHeartbeats 8000000 in
theorem senders_c (A : Option Addr) (n c0 lo hi : Nat) (ts : List MsgT) (kind : Int) (c : ClaimT) (but : Int) (w : World) (hs : RdN 11 msgR w lo hi A n c0 ts) (hhi : hi ≤ w.heap.size) :
    Calls Try.prog 47 #[.slice A n c0, .int .i64 kind, .agg #[.int .i64 c.1, .int .i64 c.2.1, .int .i64 c.2.2.1, .int .i64 c.2.2.2.1, .int .i64 c.2.2.2.2.1, .int .i64 c.2.2.2.2.2.1, .int .i64 c.2.2.2.2.2.2], .int .i64 but] w fun e w' => e = .returned (.int .i64 ((countOf ts kind c but : Nat) : Int)) ∧ Below w.heap.size w w' := by
  have hmm := @run_makeMap Try.prog
  have hn' := hide hs.len
  have hc1 := hs.cap
  have hc2 := hs.max
  unfold maxLen at hc2
  have hB0 : Below w.heap.size w ((w.alloc (.cells #[.int .i64 c.1, .int .i64 c.2.1, .int .i64 c.2.2.1, .int .i64 c.2.2.2.1, .int .i64 c.2.2.2.2.1, .int .i64 c.2.2.2.2.2.1, .int .i64 c.2.2.2.2.2.2] 27)).alloc (.map #[] 0)) := ((Below.refl _ _).alloc (Nat.le_refl _) _).alloc (by simp) _
  have q0 : BxC ((w.alloc (.cells #[.int .i64 c.1, .int .i64 c.2.1, .int .i64 c.2.2.1, .int .i64 c.2.2.2.1, .int .i64 c.2.2.2.2.1, .int .i64 c.2.2.2.2.2.1, .int .i64 c.2.2.2.2.2.2] 27)).alloc (.map #[] 0)) w.heap.size c := (BxC.made w c).below ((Below.refl _ _).alloc (Nat.le_refl _) _)
  have m0 : ((w.alloc (.cells #[.int .i64 c.1, .int .i64 c.2.1, .int .i64 c.2.2.1, .int .i64 c.2.2.2.1, .int .i64 c.2.2.2.2.1, .int .i64 c.2.2.2.2.2.1, .int .i64 c.2.2.2.2.2.2] 27)).alloc (.map #[] 0)).ownsMap Try.prog 3 (plainElem (H := Unit) Try.prog 4) (w.heap.size + 1) 0 (.map []) := by
    have := World.ownsMap_made (w.alloc (.cells #[.int .i64 c.1, .int .i64 c.2.1, .int .i64 c.2.2.1, .int .i64 c.2.2.2.1, .int .i64 c.2.2.2.2.1, .int .i64 c.2.2.2.2.2.1, .int .i64 c.2.2.2.2.2.2] 27)) Try.prog 3 (plainElem (H := Unit) Try.prog 4)
    simpa using this
  have d0 : SetD (.map []) (saidBy (ts.take 0) kind c but) := setD_none.congr (fun j _ _ => by simp [saidBy])
  go_enter Try.func47, Try.ntmps47
  go_wp2
  generalize ((w.alloc (.cells #[.int .i64 c.1, .int .i64 c.2.1, .int .i64 c.2.2.1, .int .i64 c.2.2.2.1, .int .i64 c.2.2.2.2.1, .int .i64 c.2.2.2.2.2.1, .int .i64 c.2.2.2.2.2.2] 27)).alloc (.map #[] 0)) = w0 at *
  go_loopw [15] (fun i wr => ∃ (k j : Nat) (D : DataW Unit), k ≤ n ∧ j ≤ k ∧ i = .int .i64 k ∧ wr.ownsMap Try.prog 3 (plainElem (H := Unit) Try.prog 4) (w.heap.size + 1) j D ∧ SetD D (saidBy (ts.take k) kind c but) ∧ BxC wr w.heap.size c ∧ Below w.heap.size w wr) (fun i _ => n - (intOf i).toNat)
  case atStart => exact ⟨0, 0, _, Nat.zero_le _, Nat.le_refl _, rfl, m0, d0, q0, hB0⟩
  case round =>
    obtain ⟨k, j, D, hk, hjk, rfl, hown, hD, q1, hbr⟩ := hrel
    have hl1 := q1.lt
    have hl2 := hown.lt
    obtain ⟨y0, y1, y2, y3, y4, y5, y6, yf0, yf1, yf2, yf3, yf4, yf5, yf6⟩ := q1.cells
    by_cases hlt : k < n
    · have hlx : k < ts.length := by have := hn'.out; omega
      obtain ⟨b', off, rfl, hlo, hbh⟩ := hs.addr hlx
      obtain ⟨A1, n1, c1, B1, p1, d1, a0, a1, a2, a3, a4, a5, a6, a7, a8, a9, a10, r0, r1⟩ := (hs.below msg_kept hbr hhi).msg hlx
      have hq := fun W => run_eq_req ts[k].2.2.2.2.1 c.2.2 W
      have hA := (Below.refl wr.heap.size wr).alloc (Nat.le_refl _) (.cells #[.int .i64 ts[k].1, .int .i64 ts[k].2.1, .int .i64 ts[k].2.2.1, .int .i64 ts[k].2.2.2.1, .int .i64 ts[k].2.2.2.2.1.1, .int .i64 ts[k].2.2.2.2.1.2.1, .int .i64 ts[k].2.2.2.2.1.2.2.1, .int .i64 ts[k].2.2.2.2.1.2.2.2.1, .int .i64 ts[k].2.2.2.2.1.2.2.2.2, .slice A1 n1 c1, .slice B1 p1 d1] 34)
      have hst := hide (fun jj => saidBy_take ts kind c but k hlx jj)
      have hD' := hide hD
      clear hD
      cases e1 : (ts[k].1 == kind)
      · have hD2 : Hid (SetD D (saidBy (ts.take (k + 1)) kind c but)) := hide (hD'.out.congr (fun jj h0 h3 => by rw [hst.out, said_no (.inl e1) jj h0 h3, Bool.or_false]))
        go_wp2_with (first
          | (go_at_call 55; refine (isKeeper_c _ _).mono ?_; rintro e w2 ⟨rfl, rfl⟩; rw [e2])
          | fail)
        go_roundw
        case rel => exact ⟨k + 1, j, D, by omega, by omega, by go_num, hown.alloc _, hD2.out, q1.below hA, hbr.trans (hA.mono hbr.size)⟩
        case measure => simp [intOf]; omega
      ·
        cases e2 : inB ts[k].2.1 0 3
        · have hD2 : Hid (SetD D (saidBy (ts.take (k + 1)) kind c but)) := hide (hD'.out.congr (fun jj h0 h3 => by rw [hst.out, said_no (.inr (.inl e2)) jj h0 h3, Bool.or_false]))
          go_wp2_with (first
            | (go_at_call 55; refine (isKeeper_c _ _).mono ?_; rintro e w2 ⟨rfl, rfl⟩; rw [e2])
            | fail)
          go_roundw
          case rel => exact ⟨k + 1, j, D, by omega, by omega, by go_num, hown.alloc _, hD2.out, q1.below hA, hbr.trans (hA.mono hbr.size)⟩
          case measure => simp [intOf]; omega
        ·
          cases e3 : (ts[k].2.1 != but)
          · have hD2 : Hid (SetD D (saidBy (ts.take (k + 1)) kind c but)) := hide (hD'.out.congr (fun jj h0 h3 => by rw [hst.out, said_no (.inr (.inr (.inl e3))) jj h0 h3, Bool.or_false]))
            go_wp2_with (first
              | (go_at_call 55; refine (isKeeper_c _ _).mono ?_; rintro e w2 ⟨rfl, rfl⟩; rw [e2])
              | fail)
            go_roundw
            case rel => exact ⟨k + 1, j, D, by omega, by omega, by go_num, hown.alloc _, hD2.out, q1.below hA, hbr.trans (hA.mono hbr.size)⟩
            case measure => simp [intOf]; omega
          ·
            cases e4 : (ts[k].2.2.1 == c.2.1)
            · have hD2 : Hid (SetD D (saidBy (ts.take (k + 1)) kind c but)) := hide (hD'.out.congr (fun jj h0 h3 => by rw [hst.out, said_no (.inr (.inr (.inr (.inl e4)))) jj h0 h3, Bool.or_false]))
              go_wp2_with (first
                | (go_at_call 55; refine (isKeeper_c _ _).mono ?_; rintro e w2 ⟨rfl, rfl⟩; rw [e2])
                | fail)
              go_roundw
              case rel => exact ⟨k + 1, j, D, by omega, by omega, by go_num, hown.alloc _, hD2.out, q1.below hA, hbr.trans (hA.mono hbr.size)⟩
              case measure => simp [intOf]; omega
            ·
              cases e5 : (ts[k].2.2.2.1 == c.1)
              · have hD2 : Hid (SetD D (saidBy (ts.take (k + 1)) kind c but)) := hide (hD'.out.congr (fun jj h0 h3 => by rw [hst.out, said_no (.inr (.inr (.inr (.inr (.inl e5))))) jj h0 h3, Bool.or_false]))
                go_wp2_with (first
                  | (go_at_call 55; refine (isKeeper_c _ _).mono ?_; rintro e w2 ⟨rfl, rfl⟩; rw [e2])
                  | fail)
                go_roundw
                case rel => exact ⟨k + 1, j, D, by omega, by omega, by go_num, hown.alloc _, hD2.out, q1.below hA, hbr.trans (hA.mono hbr.size)⟩
                case measure => simp [intOf]; omega
              ·
                cases e6 : decide (ts[k].2.2.2.2.1 = c.2.2)
                · have hD2 : Hid (SetD D (saidBy (ts.take (k + 1)) kind c but)) := hide (hD'.out.congr (fun jj h0 h3 => by rw [hst.out, said_no (.inr (.inr (.inr (.inr (.inr e6))))) jj h0 h3, Bool.or_false]))
                  simp only [e6] at hq
                  go_wp2_with (first
                    | (go_at_call 55; refine (isKeeper_c _ _).mono ?_; rintro e w2 ⟨rfl, rfl⟩; rw [e2])
                    | fail)
                  go_roundw
                  case rel => exact ⟨k + 1, j, D, by omega, by omega, by go_num, hown.alloc _, hD2.out, q1.below hA, hbr.trans (hA.mono hbr.size)⟩
                  case measure => simp [intOf]; omega
                ·
                  have hin : 0 ≤ ts[k].2.1 ∧ ts[k].2.1 ≤ 3 := by unfold inB at e2; simpa using e2
                  have hD2 : Hid (SetD (D.put (key4 ts[k].2.1) (.lit (.bool true))) (saidBy (ts.take (k + 1)) kind c but)) := hide (hD'.out.put hin.1 hin.2 _ (fun jj h0 h3 => by rw [hst.out, said_yes e1 e3 e4 e5 e6 jj]))
                  have hkey : keyOf Try.prog 3 (.int .i64 ts[k].2.1) = some (key4 ts[k].2.1) := keyOf_int_mk Try.underlying3 (WalkArith.wf_i64 (by omega))
                  simp only [e6] at hq
                  go_wp2_with (first
                    | (go_at_call 55; refine (isKeeper_c _ _).mono ?_; rintro e w2 ⟨rfl, rfl⟩; rw [e2])
                    | (at_mapUpdate; refine wpList_mapUpdate_own _ rfl _ _ _ 96 rfl 3 4 keyInt Try.underlying96 (plainElem (H := Unit) Try.prog 4) (w.heap.size + 1) j D rfl (hown.alloc _) (by unfold maxLen; omega) _ _ _ rfl rfl hkey _ [] (plainElem_bool Try.underlying4 true) ?_; intro w1 hown1 hgrow1)
                    | fail)
                  go_roundw
                  case rel => exact ⟨k + 1, j + 1, _, by omega, by omega, by go_num, hown1, hD2.out, (hgrow1.block _ (by simp; omega) (by simp)).trans (q1.below hA), (hbr.trans (hA.mono hbr.size)).grown hgrow1 (by simp; omega) (fun jj hj => by cases hj; omega)⟩
                  case measure => simp [intOf]; omega
    · obtain rfl : k = n := by omega
      have htk : ts.take k = ts := by rw [hn'.out]; exact List.take_length
      rw [htk] at hD
      have hsz := hide hD.size
      clear hD
      go_wp2_with (first
        | (at_len; refine wpList_len_own _ rfl _ 96 rfl 3 4 Try.underlying96 _ (w.heap.size + 1) j D rfl hown ?_)
        | fail)
      go_ret
      exact ⟨congrArg (fun b : Nat => Ending.returned (.int .i64 (b : Int))) (by rw [hsz.out, cnt4_count]), hbr⟩
set_option maxRecDepth 100000 in
theorem backed_c (A : Option Addr) (n c0 lo hi : Nat) (ts : List MsgT) (c : ClaimT) (w : World) (hs : RdN 11 msgR w lo hi A n c0 ts) (hhi : hi ≤ w.heap.size) :
    Calls Try.prog 20 #[.slice A n c0, .agg #[.int .i64 c.1, .int .i64 c.2.1, .int .i64 c.2.2.1, .int .i64 c.2.2.2.1, .int .i64 c.2.2.2.2.1, .int .i64 c.2.2.2.2.2.1, .int .i64 c.2.2.2.2.2.2]] w fun e w' => e = .returned (.bool (decide (2 ≤ countOf ts 3 c (leadI c.2.1)))) ∧ Below w.heap.size w w' := by
  generalize hm : countOf ts 3 c (leadI c.2.1) = m
  have hm' := hide hm
  clear hm
  have hA := (Below.refl w.heap.size w).alloc (Nat.le_refl _) (.cells #[.int .i64 c.1, .int .i64 c.2.1, .int .i64 c.2.2.1, .int .i64 c.2.2.2.1, .int .i64 c.2.2.2.2.1, .int .i64 c.2.2.2.2.2.1, .int .i64 c.2.2.2.2.2.2] 27)
  have hz := hA.size
  have q0 := BxC.made w c
  have hl := q0.lt
  have hs1 := hs.below msg_kept hA hhi
  obtain ⟨y0, y1, y2, y3, y4, y5, y6, yf0, yf1, yf2, yf3, yf4, yf5, yf6⟩ := q0.cells
  go_enter Try.func20, Try.ntmps20
  go_wp2
  generalize w.alloc (.cells #[.int .i64 c.1, .int .i64 c.2.1, .int .i64 c.2.2.1, .int .i64 c.2.2.2.1, .int .i64 c.2.2.2.2.1, .int .i64 c.2.2.2.2.2.1, .int .i64 c.2.2.2.2.2.2] 27) = w0 at *
  have hsn := hide (fun W (h : Below w0.heap.size w0 W) => senders_c A n c0 lo hi ts 3 c (leadI c.2.1) W (hs1.below msg_kept h (Nat.le_trans hhi hz)) (Nat.le_trans hhi (Nat.le_trans hz h.size)))
  refine wp_region_T (Since _) [] [] [6] [0, 1, 2, 3, 4, 5, 6, 7] (by kernel_rfl) (by kernel_rfl) (by kernel_rfl) (Since.drew _) ?_; simp only [pickL, List.getElem?_cons_succ, List.getElem?_cons_zero]
  go_wp2_with (first
    | ((refine no_implicit_lambda% (g4_ ?_)); intro hS) | ((refine no_implicit_lambda% (g25_ ?_)); intro K hK) | (refine no_implicit_lambda% (g1_ ?_)) | ((refine no_implicit_lambda% (g6_ ?_)); intro K hK) | (refine no_implicit_lambda% (g3_ ?_))
    | (go_at_call 45; refine (Leader_c _ _).mono ?_; rintro e w2 ⟨rfl, rfl⟩)
    | (go_at_call 47; refine (hsn.out _ (below_drewN _ 1)).mono ?_; rintro e w2 ⟨rfl, hb2⟩; rw [hm'.out]; replace hb2 : Below w0.drew.heap.size w0.drew w2 := hb2)
    | fail)
  go_ret
  exact ⟨congrArg (fun b => Ending.returned (.bool b)) (by rw [Bool.eq_iff_iff]; simp; omega), (hA.trans ((below_drewN' (Below.refl _ _) 1).mono hz)).trans (hb2.mono hz)⟩
def offersI (c : ClaimT) (m : MsgT) : Bool := decide (m.2.1 = leadI c.2.1 ∧ m.2.2.1 = c.2.1 ∧ ((m.1 = 2 ∧ m.2.2.2.1 = c.1 ∧ m.2.2.2.2.1 = c.2.2) ∨ (m.1 = 6 ∧ (reachB c.1 (clsOf m.2.2.2.2.2.2) && decide (1 ≤ c.1)) = true ∧ pickOf (clsOf m.2.2.2.2.2.2) c.1 = c.2.2)))
theorem offersI_eq {c : ClaimT} (h : okCl c = true) (m : MsgT) : offersI c m = offers c m := by
  unfold okCl at h
  simp only [Bool.and_eq_true] at h
  obtain ⟨h1, h2, _⟩ := h
  have h3 : 1 ≤ c.1 := by unfold inB at h1; simp at h1; omega
  have h4 : leadI c.2.1 = leadOf c.2.1 := by unfold leadI leadOf; rw [h2]; rfl
  unfold offersI offers
  rw [h4, reach_iff h3]
  simp [h3]
set_option maxRecDepth 100000 in
set_option maxHeartbeats 4000000 in
theorem proposed1_c (x : MsgT) (c : ClaimT) (A1 B1 : Option Addr) (n1 c1 p1 d1 lo hi b : Nat) (w : World) (h1 : RdN 7 clR w lo hi A1 n1 c1 x.2.2.2.2.2.1) (h2 : RdN 2 voteR w lo hi B1 p1 d1 x.2.2.2.2.2.2) (hb : BxC w b c) (hhi : hi ≤ w.heap.size) :
    Calls Try.prog 44 #[.agg #[.int .i64 x.1, .int .i64 x.2.1, .int .i64 x.2.2.1, .int .i64 x.2.2.2.1, .int .i64 x.2.2.2.2.1.1, .int .i64 x.2.2.2.2.1.2.1, .int .i64 x.2.2.2.2.1.2.2.1, .int .i64 x.2.2.2.2.1.2.2.2.1, .int .i64 x.2.2.2.2.1.2.2.2.2, .slice A1 n1 c1, .slice B1 p1 d1], .pointer (some ⟨b, 0, none⟩)] w fun e w' => e = .returned (.bool (offersI c x)) ∧ Below w.heap.size w w' := by
  have hA := (Below.refl w.heap.size w).alloc (Nat.le_refl _) (.cells #[.int .i64 x.1, .int .i64 x.2.1, .int .i64 x.2.2.1, .int .i64 x.2.2.2.1, .int .i64 x.2.2.2.2.1.1, .int .i64 x.2.2.2.2.1.2.1, .int .i64 x.2.2.2.2.1.2.2.1, .int .i64 x.2.2.2.2.1.2.2.2.1, .int .i64 x.2.2.2.2.1.2.2.2.2, .slice A1 n1 c1, .slice B1 p1 d1] 34)
  have hz := hA.size
  have hlt := hb.lt
  have hB := hA.drew
  obtain ⟨y0, y1, y2, y3, y4, y5, y6, yf0, yf1, yf2, yf3, yf4, yf5, yf6⟩ := (hb.below hA).cells
  have hr := fun W => run_eq_req x.2.2.2.2.1 c.2.2 W
  have hv := h2.below vote_kept hA hhi
  have hne : b ≠ w.heap.size := by omega
  have x0 : (w.alloc (.cells #[.int .i64 x.1, .int .i64 x.2.1, .int .i64 x.2.2.1, .int .i64 x.2.2.2.1, .int .i64 x.2.2.2.2.1.1, .int .i64 x.2.2.2.2.1.2.1, .int .i64 x.2.2.2.2.1.2.2.1, .int .i64 x.2.2.2.2.1.2.2.2.1, .int .i64 x.2.2.2.2.1.2.2.2.2, .slice A1 n1 c1, .slice B1 p1 d1] 34)).cell? ⟨w.heap.size, 0, none⟩ = some (.int .i64 x.1) := by simp
  have x1 : (w.alloc (.cells #[.int .i64 x.1, .int .i64 x.2.1, .int .i64 x.2.2.1, .int .i64 x.2.2.2.1, .int .i64 x.2.2.2.2.1.1, .int .i64 x.2.2.2.2.1.2.1, .int .i64 x.2.2.2.2.1.2.2.1, .int .i64 x.2.2.2.2.1.2.2.2.1, .int .i64 x.2.2.2.2.1.2.2.2.2, .slice A1 n1 c1, .slice B1 p1 d1] 34)).cell? ⟨w.heap.size, 1, none⟩ = some (.int .i64 x.2.1) := by simp
  have x2 : (w.alloc (.cells #[.int .i64 x.1, .int .i64 x.2.1, .int .i64 x.2.2.1, .int .i64 x.2.2.2.1, .int .i64 x.2.2.2.2.1.1, .int .i64 x.2.2.2.2.1.2.1, .int .i64 x.2.2.2.2.1.2.2.1, .int .i64 x.2.2.2.2.1.2.2.2.1, .int .i64 x.2.2.2.2.1.2.2.2.2, .slice A1 n1 c1, .slice B1 p1 d1] 34)).cell? ⟨w.heap.size, 2, none⟩ = some (.int .i64 x.2.2.1) := by simp
  have x3 : (w.alloc (.cells #[.int .i64 x.1, .int .i64 x.2.1, .int .i64 x.2.2.1, .int .i64 x.2.2.2.1, .int .i64 x.2.2.2.2.1.1, .int .i64 x.2.2.2.2.1.2.1, .int .i64 x.2.2.2.2.1.2.2.1, .int .i64 x.2.2.2.2.1.2.2.2.1, .int .i64 x.2.2.2.2.1.2.2.2.2, .slice A1 n1 c1, .slice B1 p1 d1] 34)).cell? ⟨w.heap.size, 3, none⟩ = some (.int .i64 x.2.2.2.1) := by simp
  have x4 : (w.alloc (.cells #[.int .i64 x.1, .int .i64 x.2.1, .int .i64 x.2.2.1, .int .i64 x.2.2.2.1, .int .i64 x.2.2.2.2.1.1, .int .i64 x.2.2.2.2.1.2.1, .int .i64 x.2.2.2.2.1.2.2.1, .int .i64 x.2.2.2.2.1.2.2.2.1, .int .i64 x.2.2.2.2.1.2.2.2.2, .slice A1 n1 c1, .slice B1 p1 d1] 34)).cell? ⟨w.heap.size, 4, none⟩ = some (.int .i64 x.2.2.2.2.1.1) := by simp
  have x5 : (w.alloc (.cells #[.int .i64 x.1, .int .i64 x.2.1, .int .i64 x.2.2.1, .int .i64 x.2.2.2.1, .int .i64 x.2.2.2.2.1.1, .int .i64 x.2.2.2.2.1.2.1, .int .i64 x.2.2.2.2.1.2.2.1, .int .i64 x.2.2.2.2.1.2.2.2.1, .int .i64 x.2.2.2.2.1.2.2.2.2, .slice A1 n1 c1, .slice B1 p1 d1] 34)).cell? ⟨w.heap.size, 5, none⟩ = some (.int .i64 x.2.2.2.2.1.2.1) := by simp
  have x6 : (w.alloc (.cells #[.int .i64 x.1, .int .i64 x.2.1, .int .i64 x.2.2.1, .int .i64 x.2.2.2.1, .int .i64 x.2.2.2.2.1.1, .int .i64 x.2.2.2.2.1.2.1, .int .i64 x.2.2.2.2.1.2.2.1, .int .i64 x.2.2.2.2.1.2.2.2.1, .int .i64 x.2.2.2.2.1.2.2.2.2, .slice A1 n1 c1, .slice B1 p1 d1] 34)).cell? ⟨w.heap.size, 6, none⟩ = some (.int .i64 x.2.2.2.2.1.2.2.1) := by simp
  have x7 : (w.alloc (.cells #[.int .i64 x.1, .int .i64 x.2.1, .int .i64 x.2.2.1, .int .i64 x.2.2.2.1, .int .i64 x.2.2.2.2.1.1, .int .i64 x.2.2.2.2.1.2.1, .int .i64 x.2.2.2.2.1.2.2.1, .int .i64 x.2.2.2.2.1.2.2.2.1, .int .i64 x.2.2.2.2.1.2.2.2.2, .slice A1 n1 c1, .slice B1 p1 d1] 34)).cell? ⟨w.heap.size, 7, none⟩ = some (.int .i64 x.2.2.2.2.1.2.2.2.1) := by simp
  have x8 : (w.alloc (.cells #[.int .i64 x.1, .int .i64 x.2.1, .int .i64 x.2.2.1, .int .i64 x.2.2.2.1, .int .i64 x.2.2.2.2.1.1, .int .i64 x.2.2.2.2.1.2.1, .int .i64 x.2.2.2.2.1.2.2.1, .int .i64 x.2.2.2.2.1.2.2.2.1, .int .i64 x.2.2.2.2.1.2.2.2.2, .slice A1 n1 c1, .slice B1 p1 d1] 34)).cell? ⟨w.heap.size, 8, none⟩ = some (.int .i64 x.2.2.2.2.1.2.2.2.2) := by simp
  have x9 : (w.alloc (.cells #[.int .i64 x.1, .int .i64 x.2.1, .int .i64 x.2.2.1, .int .i64 x.2.2.2.1, .int .i64 x.2.2.2.2.1.1, .int .i64 x.2.2.2.2.1.2.1, .int .i64 x.2.2.2.2.1.2.2.1, .int .i64 x.2.2.2.2.1.2.2.2.1, .int .i64 x.2.2.2.2.1.2.2.2.2, .slice A1 n1 c1, .slice B1 p1 d1] 34)).cell? ⟨w.heap.size, 9, none⟩ = some (.slice A1 n1 c1) := by simp
  have x10 : (w.alloc (.cells #[.int .i64 x.1, .int .i64 x.2.1, .int .i64 x.2.2.1, .int .i64 x.2.2.2.1, .int .i64 x.2.2.2.2.1.1, .int .i64 x.2.2.2.2.1.2.1, .int .i64 x.2.2.2.2.1.2.2.1, .int .i64 x.2.2.2.2.1.2.2.2.1, .int .i64 x.2.2.2.2.1.2.2.2.2, .slice A1 n1 c1, .slice B1 p1 d1] 34)).cell? ⟨w.heap.size, 10, none⟩ = some (.slice B1 p1 d1) := by simp
  have hl2 : w.heap.size < (w.alloc (.cells #[.int .i64 x.1, .int .i64 x.2.1, .int .i64 x.2.2.1, .int .i64 x.2.2.2.1, .int .i64 x.2.2.2.2.1.1, .int .i64 x.2.2.2.2.1.2.1, .int .i64 x.2.2.2.2.1.2.2.1, .int .i64 x.2.2.2.2.1.2.2.2.1, .int .i64 x.2.2.2.2.1.2.2.2.2, .slice A1 n1 c1, .slice B1 p1 d1] 34)).heap.size := by simp
  generalize hw0 : w.alloc (.cells #[.int .i64 x.1, .int .i64 x.2.1, .int .i64 x.2.2.1, .int .i64 x.2.2.2.1, .int .i64 x.2.2.2.2.1.1, .int .i64 x.2.2.2.2.1.2.1, .int .i64 x.2.2.2.2.1.2.2.1, .int .i64 x.2.2.2.2.1.2.2.2.1, .int .i64 x.2.2.2.2.1.2.2.2.2, .slice A1 n1 c1, .slice B1 p1 d1] 34) = w0 at *
  have hw0' := hide hw0
  clear hw0
  cases e1 : (x.2.1 != leadI c.2.1)
  · have e1' : x.2.1 = leadI c.2.1 := by simpa using e1
    have e1h := hide e1'
    clear e1'
    cases e2 : (x.2.2.1 != c.2.1)
    · have e2h : Hid (x.2.2.1 = c.2.1) := hide (by simpa using e2)
      cases e3 : (x.1 == 2)
      · have e3h : Hid (¬ x.1 = 2) := hide (by simpa using e3)
        cases e4 : (x.1 == 6)
        · have e4h : Hid (¬ x.1 = 6) := hide (by simpa using e4)
          go_enter Try.func44, Try.ntmps44
          go_wp2
          rw [hw0'.out]
          refine wp_region_T (Since _) [34] [] [7] [0, 1, 2, 3, 4, 5, 6, 7, 8, 9, 10, 11, 12] (by kernel_rfl) (by kernel_rfl) (by kernel_rfl) (Since.drew _) ?_; simp only [pickL, List.getElem?_cons_succ, List.getElem?_cons_zero]
          go_wp2_with (first
            | ((refine no_implicit_lambda% (g4_ ?_)); intro hS) | ((refine no_implicit_lambda% (g25_ ?_)); intro K hK) | (refine no_implicit_lambda% (g1_ ?_)) | ((refine no_implicit_lambda% (g6_ ?_)); intro K hK) | (refine no_implicit_lambda% (g3_ ?_))
            | (go_at_call 45; refine (Leader_c _ _).mono ?_; rintro e w2 ⟨rfl, rfl⟩)
            | fail)
          go_ret
          exact ⟨by simp [offersI, e3h.out, e4h.out], hB⟩
        · have e4h : Hid (x.1 = 6) := hide (by simpa using e4)
          have hp := hide (fun W (h : Below w0.heap.size w0 W) => picked_c B1 p1 d1 lo hi x.2.2.2.2.2.2 c.1 W (hv.below vote_kept h (Nat.le_trans hhi hz)) (Nat.le_trans hhi (Nat.le_trans hz h.size)))
          have hr := fun W => run_eq_req (pickOf (clsOf x.2.2.2.2.2.2) c.1) c.2.2 W
          have hof : Hid (offersI c x = (reachB c.1 (clsOf x.2.2.2.2.2.2) && decide (1 ≤ c.1) && decide (pickOf (clsOf x.2.2.2.2.2.2) c.1 = c.2.2))) := hide (by unfold offersI; rw [Bool.eq_iff_iff]; simp [e1h.out, e2h.out, e4h.out])
          have hC := below_drewN w0 1
          have y0 := keepc hC y0
          have y1 := keepc hC y1
          have y2 := keepc hC y2
          have y3 := keepc hC y3
          have y4 := keepc hC y4
          have y5 := keepc hC y5
          have y6 := keepc hC y6
          go_enter Try.func44, Try.ntmps44
          go_wp2
          rw [hw0'.out]
          refine wp_region_T (Since _) [34] [] [7] [0, 1, 2, 3, 4, 5, 6, 7, 8, 9, 10, 11, 12] (by kernel_rfl) (by kernel_rfl) (by kernel_rfl) (Since.drew _) ?_; simp only [pickL, List.getElem?_cons_succ, List.getElem?_cons_zero]
          go_wp2_with (first
            | ((refine no_implicit_lambda% (g4_ ?_)); intro hS) | ((refine no_implicit_lambda% (g25_ ?_)); intro K hK) | (refine no_implicit_lambda% (g1_ ?_)) | ((refine no_implicit_lambda% (g6_ ?_)); intro K hK) | (refine no_implicit_lambda% (g3_ ?_))
            | (go_at_call 45; refine (Leader_c _ _).mono ?_; rintro e w2 ⟨rfl, rfl⟩)
            | fail)
          refine (hp.out _ hC).mono ?_
          rintro e w3 ⟨rfl, hb3⟩
          have hB3 := hB.trans (hb3.mono hB.size)
          have hl3 : b < w3.heap.size := Nat.lt_of_lt_of_le hlt hB3.size
          have y2 := keepc hb3 y2
          have y3 := keepc hb3 y3
          have y4 := keepc hb3 y4
          have y5 := keepc hb3 y5
          have y6 := keepc hb3 y6
          cases e5 : (reachB c.1 (clsOf x.2.2.2.2.2.2) && decide (1 ≤ c.1))
          · have e5h := hide e5
            go_wp2
            go_ret
            exact ⟨by rw [hof.out, e5h.out]; rfl, hB3.alloc (by have := hB3.size; omega) _⟩
          · have e5h := hide e5
            generalize pickOf (clsOf x.2.2.2.2.2.2) c.1 = pk at *
            go_wp2
            go_ret
            exact ⟨by rw [hof.out, e5h.out]; rfl, hB3.alloc (by have := hB3.size; omega) _⟩
      · have e3h : Hid (x.1 = 2) := hide (by simpa using e3)
        have hof : Hid (offersI c x = (decide (x.2.2.2.1 = c.1) && decide (x.2.2.2.2.1 = c.2.2))) := hide (by unfold offersI; rw [Bool.eq_iff_iff]; simp [e1h.out, e2h.out, e3h.out])
        cases e5 : (x.2.2.2.1 == c.1)
        · have e5h : Hid (decide (x.2.2.2.1 = c.1) = false) := hide (by simpa using e5)
          go_enter Try.func44, Try.ntmps44
          go_wp2
          rw [hw0'.out]
          refine wp_region_T (Since _) [34] [] [7] [0, 1, 2, 3, 4, 5, 6, 7, 8, 9, 10, 11, 12] (by kernel_rfl) (by kernel_rfl) (by kernel_rfl) (Since.drew _) ?_; simp only [pickL, List.getElem?_cons_succ, List.getElem?_cons_zero]
          go_wp2_with (first
            | ((refine no_implicit_lambda% (g4_ ?_)); intro hS) | ((refine no_implicit_lambda% (g25_ ?_)); intro K hK) | (refine no_implicit_lambda% (g1_ ?_)) | ((refine no_implicit_lambda% (g6_ ?_)); intro K hK) | (refine no_implicit_lambda% (g3_ ?_))
            | (go_at_call 45; refine (Leader_c _ _).mono ?_; rintro e w2 ⟨rfl, rfl⟩)
            | fail)
          go_ret
          exact ⟨by rw [hof.out, e5h.out]; rfl, hB⟩
        · have e5h : Hid (decide (x.2.2.2.1 = c.1) = true) := hide (by simpa using e5)
          go_enter Try.func44, Try.ntmps44
          go_wp2
          rw [hw0'.out]
          refine wp_region_T (Since _) [34] [] [7] [0, 1, 2, 3, 4, 5, 6, 7, 8, 9, 10, 11, 12] (by kernel_rfl) (by kernel_rfl) (by kernel_rfl) (Since.drew _) ?_; simp only [pickL, List.getElem?_cons_succ, List.getElem?_cons_zero]
          go_wp2_with (first
            | ((refine no_implicit_lambda% (g4_ ?_)); intro hS) | ((refine no_implicit_lambda% (g25_ ?_)); intro K hK) | (refine no_implicit_lambda% (g1_ ?_)) | ((refine no_implicit_lambda% (g6_ ?_)); intro K hK) | (refine no_implicit_lambda% (g3_ ?_))
            | (go_at_call 45; refine (Leader_c _ _).mono ?_; rintro e w2 ⟨rfl, rfl⟩)
            | fail)
          go_ret
          exact ⟨by rw [hof.out, e5h.out]; rfl, hB⟩
    · have e2h : Hid (¬ x.2.2.1 = c.2.1) := hide (by simpa using e2)
      go_enter Try.func44, Try.ntmps44
      go_wp2
      rw [hw0'.out]
      refine wp_region_T (Since _) [34] [] [7] [0, 1, 2, 3, 4, 5, 6, 7, 8, 9, 10, 11, 12] (by kernel_rfl) (by kernel_rfl) (by kernel_rfl) (Since.drew _) ?_; simp only [pickL, List.getElem?_cons_succ, List.getElem?_cons_zero]
      go_wp2_with (first
        | ((refine no_implicit_lambda% (g4_ ?_)); intro hS) | ((refine no_implicit_lambda% (g25_ ?_)); intro K hK) | (refine no_implicit_lambda% (g1_ ?_)) | ((refine no_implicit_lambda% (g6_ ?_)); intro K hK) | (refine no_implicit_lambda% (g3_ ?_))
        | (go_at_call 45; refine (Leader_c _ _).mono ?_; rintro e w2 ⟨rfl, rfl⟩)
        | fail)
      go_ret
      exact ⟨by simp [offersI, e2h.out], hB⟩
  · have e1h : Hid (¬ x.2.1 = leadI c.2.1) := hide (by simpa using e1)
    go_enter Try.func44, Try.ntmps44
    go_wp2
    rw [hw0'.out]
    refine wp_region_T (Since _) [34] [] [7] [0, 1, 2, 3, 4, 5, 6, 7, 8, 9, 10, 11, 12] (by kernel_rfl) (by kernel_rfl) (by kernel_rfl) (Since.drew _) ?_; simp only [pickL, List.getElem?_cons_succ, List.getElem?_cons_zero]
    go_wp2_with (first
      | ((refine no_implicit_lambda% (g4_ ?_)); intro hS) | ((refine no_implicit_lambda% (g25_ ?_)); intro K hK) | (refine no_implicit_lambda% (g1_ ?_)) | ((refine no_implicit_lambda% (g6_ ?_)); intro K hK) | (refine no_implicit_lambda% (g3_ ?_))
      | (go_at_call 45; refine (Leader_c _ _).mono ?_; rintro e w2 ⟨rfl, rfl⟩)
      | fail)
    go_ret
    exact ⟨by simp [offersI, e1h.out], hB⟩
theorem index_proposed (A : Option Addr) (n c lo hi : Nat) (ts : List MsgT) (b : Nat) (p : MsgT → Bool) (w : World) (hs : RdN 11 msgR w lo hi A n c ts) (hhi : hi ≤ w.heap.size) (hp : ∀ (k : Nat) (hk : k < ts.length) (W : World) (A1 B1 : Option Addr) (n1 c1 p1 d1 : Nat), Below w.heap.size w W → RdN 7 clR W lo hi A1 n1 c1 ts[k].2.2.2.2.2.1 → RdN 2 voteR W lo hi B1 p1 d1 ts[k].2.2.2.2.2.2 → Calls Try.prog 44 #[.agg #[.int .i64 ts[k].1, .int .i64 ts[k].2.1, .int .i64 ts[k].2.2.1, .int .i64 ts[k].2.2.2.1, .int .i64 ts[k].2.2.2.2.1.1, .int .i64 ts[k].2.2.2.2.1.2.1, .int .i64 ts[k].2.2.2.2.1.2.2.1, .int .i64 ts[k].2.2.2.2.1.2.2.2.1, .int .i64 ts[k].2.2.2.2.1.2.2.2.2, .slice A1 n1 c1, .slice B1 p1 d1], .pointer (some ⟨b, 0, none⟩)] W fun e W' => e = .returned (.bool (p ts[k])) ∧ Below W.heap.size W W') :
    Calls Try.prog 57 #[.slice A n c, .func (.func 44) #[] #[.pointer (some ⟨b, 0, none⟩)]] w fun e w' => ∃ i : Int, e = .returned (.int .i64 i) ∧ (i = -1 ∧ ts.any p = false ∨ 0 ≤ i ∧ ts.any p = true) ∧ Below w.heap.size w w' := by
  have hn' := hide hs.len
  have hc1 := hs.cap
  have hc2 := hs.max
  unfold maxLen at hc2
  have hp' := hide hp
  clear hp
  go_enter Try.func57, Try.ntmps57
  go_wp2
  go_loopw [8, 5] (fun i _ wr => ∃ k : Nat, k ≤ n ∧ i = .int .i64 k ∧ Hid (∀ j (h : j < ts.length), j < k → ¬ p ts[j] = true) ∧ Below w.heap.size w wr) (fun i _ _ => n - (intOf i).toNat)
  case atStart => exact ⟨0, Nat.zero_le _, rfl, fun j h h' => absurd h' (by omega), Below.refl _ _⟩
  case round =>
    obtain ⟨k, hk, rfl, hno, hbr⟩ := hrel
    by_cases hlt : k < n
    · have hlx : k < ts.length := by have := hn'.out; omega
      obtain ⟨b', off, rfl, hlo, hbh⟩ := hs.addr hlx
      obtain ⟨A1, n1, c1, B1, p1, d1, a0, a1, a2, a3, a4, a5, a6, a7, a8, a9, a10, r0, r1⟩ := (hs.below msg_kept hbr hhi).msg hlx
      go_wp2_with fail
      refine (hp'.out k hlx wr _ _ _ _ _ _ hbr r0 r1).mono ?_
      rintro e w1 ⟨rfl, hb1⟩
      cases he : p ts[k]
      · have he' := hide he
        go_wp2
        go_roundw
        case rel => exact ⟨k + 1, by omega, by go_num, fun j hj hjk h => by
          by_cases h2 : j < k
          · exact hno.out j hj h2 h
          · obtain rfl : j = k := by omega
            have := he'.out
            simp [h] at this, hbr.trans (hb1.mono hbr.size)⟩
        case measure => simp [intOf]; omega
      · have he' : Hid (ts.any p = true) := hide (List.any_eq_true.2 ⟨ts[k], List.getElem_mem hlx, he⟩)
        go_wp2
        go_ret
        exact ⟨k, rfl, .inr ⟨by omega, he'.out⟩, hbr.trans (hb1.mono hbr.size)⟩
    · obtain rfl : k = n := by omega
      go_wp2
      go_ret
      refine ⟨-1, rfl, .inl ⟨rfl, ?_⟩, hbr⟩
      simp only [List.any_eq_false]
      intro x hx
      obtain ⟨j, hj, rfl⟩ := List.mem_iff_getElem.1 hx
      exact hno.out j hj (by have := hn'.out; omega)
theorem contains_proposed (A : Option Addr) (n c lo hi : Nat) (ts : List MsgT) (b : Nat) (p : MsgT → Bool) (w : World) (hs : RdN 11 msgR w lo hi A n c ts) (hhi : hi ≤ w.heap.size) (hp : ∀ (k : Nat) (hk : k < ts.length) (W : World) (A1 B1 : Option Addr) (n1 c1 p1 d1 : Nat), Below w.heap.size w W → RdN 7 clR W lo hi A1 n1 c1 ts[k].2.2.2.2.2.1 → RdN 2 voteR W lo hi B1 p1 d1 ts[k].2.2.2.2.2.2 → Calls Try.prog 44 #[.agg #[.int .i64 ts[k].1, .int .i64 ts[k].2.1, .int .i64 ts[k].2.2.1, .int .i64 ts[k].2.2.2.1, .int .i64 ts[k].2.2.2.2.1.1, .int .i64 ts[k].2.2.2.2.1.2.1, .int .i64 ts[k].2.2.2.2.1.2.2.1, .int .i64 ts[k].2.2.2.2.1.2.2.2.1, .int .i64 ts[k].2.2.2.2.1.2.2.2.2, .slice A1 n1 c1, .slice B1 p1 d1], .pointer (some ⟨b, 0, none⟩)] W fun e W' => e = .returned (.bool (p ts[k])) ∧ Below W.heap.size W W') :
    Calls Try.prog 30 #[.slice A n c, .func (.func 44) #[] #[.pointer (some ⟨b, 0, none⟩)]] w fun e w' => e = .returned (.bool (ts.any p)) ∧ Below w.heap.size w w' := by
  have hp' := hide hp
  clear hp
  go_enter Try.func30, Try.ntmps30
  go_wp2_with fail
  refine (index_proposed A n c lo hi ts b p w hs hhi hp'.out).mono ?_
  rintro e w1 ⟨i, rfl, hi, hb1⟩
  rcases hi with ⟨rfl, h⟩ | ⟨h1, h⟩
  · have h' := hide h
    go_wp2
    go_ret
    exact ⟨by rw [h'.out]; rfl, hb1⟩
  · have h' := hide h
    have d1 : decide (0 ≤ i) = true := by simpa using h1
    go_wp2
    go_ret
    exact ⟨by rw [h'.out]; simp [h1], hb1⟩
theorem proposed_c (A : Option Addr) (n c0 lo hi : Nat) (ts : List MsgT) (c : ClaimT) (w : World) (hs : RdN 11 msgR w lo hi A n c0 ts) (hhi : hi ≤ w.heap.size) :
    Calls Try.prog 19 #[.slice A n c0, .agg #[.int .i64 c.1, .int .i64 c.2.1, .int .i64 c.2.2.1, .int .i64 c.2.2.2.1, .int .i64 c.2.2.2.2.1, .int .i64 c.2.2.2.2.2.1, .int .i64 c.2.2.2.2.2.2]] w fun e w' => e = .returned (.bool (ts.any (offersI c))) ∧ Below w.heap.size w w' := by
  have hA := (Below.refl w.heap.size w).alloc (Nat.le_refl _) (.cells #[.int .i64 c.1, .int .i64 c.2.1, .int .i64 c.2.2.1, .int .i64 c.2.2.2.1, .int .i64 c.2.2.2.2.1, .int .i64 c.2.2.2.2.2.1, .int .i64 c.2.2.2.2.2.2] 27)
  have hz := hA.size
  have q0 := BxC.made w c
  have hl := q0.lt
  have hs1 := hs.below msg_kept hA hhi
  obtain ⟨y0, y1, y2, y3, y4, y5, y6, yf0, yf1, yf2, yf3, yf4, yf5, yf6⟩ := q0.cells
  go_enter Try.func19, Try.ntmps19
  go_wp2_with fail
  refine (contains_proposed A n c0 lo hi ts w.heap.size (offersI c) _ hs1 (Nat.le_trans hhi hz) (fun k hk W A1 B1 n1 c1 p1 d1 hW r1 r2 => proposed1_c ts[k] c A1 B1 n1 c1 p1 d1 lo hi w.heap.size W r1 r2 (q0.below hW) (Nat.le_trans (Nat.le_trans hhi hz) hW.size))).mono ?_
  rintro e w1 ⟨rfl, hb1⟩
  go_wp2
  go_ret
  exact ⟨rfl, hA.trans (hb1.mono hz)⟩
def readyI (ts : List MsgT) (c : ClaimT) : Bool := okCl c && readyL ts c
theorem readyI_eq (ts : List MsgT) (c : ClaimT) : readyI ts c = (okCl c && (ts.any (offersI c) && decide (2 ≤ countOf ts 3 c (leadI c.2.1)))) := by
  unfold readyI readyL offered
  cases h : okCl c
  · rfl
  · have h1 : ts.any (offersI c) = ts.any (offers c) := by congr 1; funext m; exact offersI_eq h m
    have h2 : leadI c.2.1 = leadOf c.2.1 := by
      unfold okCl at h
      simp only [Bool.and_eq_true] at h
      unfold leadI leadOf; rw [h.2.1]; rfl
    rw [h1, h2]
theorem ClaimReady_c (A : Option Addr) (n c0 lo hi : Nat) (ts : List MsgT) (c : ClaimT) (w : World) (hs : RdN 11 msgR w lo hi A n c0 ts) (hhi : hi ≤ w.heap.size) :
    Calls Try.prog 6 #[.slice A n c0, .agg #[.int .i64 c.1, .int .i64 c.2.1, .int .i64 c.2.2.1, .int .i64 c.2.2.2.1, .int .i64 c.2.2.2.2.1, .int .i64 c.2.2.2.2.2.1, .int .i64 c.2.2.2.2.2.2]] w fun e w' => e = .returned (.bool (readyI ts c)) ∧ Below w.heap.size w w' := by
  have hre := hide (readyI_eq ts c)
  have hA := (Below.refl w.heap.size w).alloc (Nat.le_refl _) (.cells #[.int .i64 c.1, .int .i64 c.2.1, .int .i64 c.2.2.1, .int .i64 c.2.2.2.1, .int .i64 c.2.2.2.2.1, .int .i64 c.2.2.2.2.2.1, .int .i64 c.2.2.2.2.2.2] 27)
  have hz := hA.size
  have q0 := BxC.made w c
  have hl := q0.lt
  have hs1 := hs.below msg_kept hA hhi
  obtain ⟨y0, y1, y2, y3, y4, y5, y6, yf0, yf1, yf2, yf3, yf4, yf5, yf6⟩ := q0.cells
  go_enter Try.func6, Try.ntmps6
  have hp := hide (fun W (h : Below (w.alloc (.cells #[.int .i64 c.1, .int .i64 c.2.1, .int .i64 c.2.2.1, .int .i64 c.2.2.2.1, .int .i64 c.2.2.2.2.1, .int .i64 c.2.2.2.2.2.1, .int .i64 c.2.2.2.2.2.2] 27)).heap.size (w.alloc (.cells #[.int .i64 c.1, .int .i64 c.2.1, .int .i64 c.2.2.1, .int .i64 c.2.2.2.1, .int .i64 c.2.2.2.2.1, .int .i64 c.2.2.2.2.2.1, .int .i64 c.2.2.2.2.2.2] 27)) W) => proposed_c A n c0 lo hi ts c W (hs1.below msg_kept h (Nat.le_trans hhi hz)) (Nat.le_trans hhi (Nat.le_trans hz h.size)))
  have hk := hide (fun W (h : Below (w.alloc (.cells #[.int .i64 c.1, .int .i64 c.2.1, .int .i64 c.2.2.1, .int .i64 c.2.2.2.1, .int .i64 c.2.2.2.2.1, .int .i64 c.2.2.2.2.2.1, .int .i64 c.2.2.2.2.2.2] 27)).heap.size (w.alloc (.cells #[.int .i64 c.1, .int .i64 c.2.1, .int .i64 c.2.2.1, .int .i64 c.2.2.2.1, .int .i64 c.2.2.2.2.1, .int .i64 c.2.2.2.2.2.1, .int .i64 c.2.2.2.2.2.2] 27)) W) => backed_c A n c0 lo hi ts c W (hs1.below msg_kept h (Nat.le_trans hhi hz)) (Nat.le_trans hhi (Nat.le_trans hz h.size)))
  go_wp2_with fail
  generalize w.alloc (.cells #[.int .i64 c.1, .int .i64 c.2.1, .int .i64 c.2.2.1, .int .i64 c.2.2.2.1, .int .i64 c.2.2.2.2.1, .int .i64 c.2.2.2.2.2.1, .int .i64 c.2.2.2.2.2.2] 27) = w0 at *
  refine (claimOk_c c w0).mono ?_
  rintro e w1 ⟨rfl, hb1⟩
  have hB1 := hA.trans (hb1.mono hz)
  have y0 := keepc hb1 y0
  have y1 := keepc hb1 y1
  have y2 := keepc hb1 y2
  have y3 := keepc hb1 y3
  have y4 := keepc hb1 y4
  have y5 := keepc hb1 y5
  have y6 := keepc hb1 y6
  cases e1 : okCl c
  · have e1h := hide e1
    go_wp2
    go_ret
    exact ⟨by rw [hre.out, e1h.out]; rfl, hB1⟩
  · have e1h := hide e1
    go_wp2_with fail
    refine (hp.out w1 hb1).mono ?_
    rintro e w2 ⟨rfl, hb2⟩
    have hB2 := hB1.trans (hb2.mono hB1.size)
    have y0 := keepc hb2 y0
    have y1 := keepc hb2 y1
    have y2 := keepc hb2 y2
    have y3 := keepc hb2 y3
    have y4 := keepc hb2 y4
    have y5 := keepc hb2 y5
    have y6 := keepc hb2 y6
    cases e2 : ts.any (offersI c)
    · have e2h := hide e2
      go_wp2
      go_ret
      exact ⟨by rw [hre.out, e1h.out, e2h.out]; rfl, hB2⟩
    · have e2h := hide e2
      go_wp2_with fail
      refine (hk.out w2 (hb1.trans (hb2.mono hb1.size))).mono ?_
      rintro e w3 ⟨rfl, hb3⟩
      go_wp2
      go_ret
      exact ⟨by rw [hre.out, e1h.out, e2h.out]; rfl, hB2.trans (hb3.mono hB2.size)⟩
end Go.Proofs.Ytopmbnnjhoinkaa
