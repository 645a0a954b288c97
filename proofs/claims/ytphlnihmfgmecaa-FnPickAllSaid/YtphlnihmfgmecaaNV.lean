/-
  'picked' of the program; what is picked at all places, in both packages. (Printed by gen_nv.py.)
  Conditions: none.
-/
import Derived.Test.YtphlnihmfgmecaaNU
import Derived.Test.YtphlnihmfgmecaaNQ
namespace Go.Proofs.Ytphlnihmfgmecaa
open Go.RowKit Rg
set_option linter.unusedVariables false
set_option linter.unusedSimpArgs false

theorem BxQ.keep7 {w : World} {b c : Nat} {r : ReqV} (h : BxQ w b r) (hne : b ≠ c) (a0 a1 a2 a3 a4 a5 a6 : Value) : BxQ (((((((w.setCell ⟨c, 0, none⟩ a0).setCell ⟨c, 1, none⟩ a1).setCell ⟨c, 2, none⟩ a2).setCell ⟨c, 3, none⟩ a3).setCell ⟨c, 4, none⟩ a4).setCell ⟨c, 5, none⟩ a5).setCell ⟨c, 6, none⟩ a6) b r :=
  ((((((((Below.heap_setCell _ ⟨c, 6, none⟩ _ b hne).trans (Below.heap_setCell _ ⟨c, 5, none⟩ _ b hne)).trans (Below.heap_setCell _ ⟨c, 4, none⟩ _ b hne)).trans (Below.heap_setCell _ ⟨c, 3, none⟩ _ b hne)).trans (Below.heap_setCell _ ⟨c, 2, none⟩ _ b hne)).trans (Below.heap_setCell _ ⟨c, 1, none⟩ _ b hne)).trans (Below.heap_setCell _ ⟨c, 0, none⟩ _ b hne)).trans h)
/-- The best claim so far. -/
def Best (w : World) (b : Nat) (s : PickS) : Prop := ∃ z : Int, BxC w b (z, s.2.1, s.2.2)
set_option maxRecDepth 100000 in
set_option maxHeartbeats 8000000 in
theorem picked_c (A : Option Addr) (n c lo hi : Nat) (ts : List VoteT) (seq : Int) (w : World) (hs : RdN 2 voteR w lo hi A n c ts) (hhi : hi ≤ w.heap.size) :
    Calls Try.prog 140 #[.slice A n c, .int .i64 seq] w fun e w' => e = .returned (.tuple #[.agg #[.int .i64 (pickOf (clsOf ts) seq).1, .int .i64 (pickOf (clsOf ts) seq).2.1, .int .i64 (pickOf (clsOf ts) seq).2.2.1, .int .i64 (pickOf (clsOf ts) seq).2.2.2.1, .int .i64 (pickOf (clsOf ts) seq).2.2.2.2], .bool (reachB seq (clsOf ts) && decide (1 ≤ seq))]) ∧ Below w.heap.size w w' := by
  have hn' := hide hs.len
  have hc1 := hs.cap
  have hc2 := hs.max
  unfold maxLen at hc2
  have hs0 : (w.alloc (.cells #[.int .i64 0, .int .i64 0, .int .i64 0, .int .i64 0, .int .i64 0] 32)).heap.size = w.heap.size + 1 := by simp
  have q1 : BxQ ((w.alloc (.cells #[.int .i64 0, .int .i64 0, .int .i64 0, .int .i64 0, .int .i64 0] 32)).alloc (.cells #[.int .i64 0, .int .i64 0, .int .i64 0, .int .i64 0, .int .i64 0, .int .i64 0, .int .i64 0] 34)) w.heap.size (0, 0, 0, 0, 0) := (BxQ.made w (0, 0, 0, 0, 0)).below ((Below.refl _ _).alloc (Nat.le_refl _) _)
  have q2 : Best ((w.alloc (.cells #[.int .i64 0, .int .i64 0, .int .i64 0, .int .i64 0, .int .i64 0] 32)).alloc (.cells #[.int .i64 0, .int .i64 0, .int .i64 0, .int .i64 0, .int .i64 0, .int .i64 0, .int .i64 0] 34)) (w.heap.size + 1) (false, 0, (0, 0, 0, 0, 0)) := ⟨0, by rw [← hs0]; exact BxC.made _ (0, 0, 0, 0, 0, 0, 0)⟩
  have hB : Below w.heap.size w ((w.alloc (.cells #[.int .i64 0, .int .i64 0, .int .i64 0, .int .i64 0, .int .i64 0] 32)).alloc (.cells #[.int .i64 0, .int .i64 0, .int .i64 0, .int .i64 0, .int .i64 0, .int .i64 0, .int .i64 0] 34)) := ((Below.refl _ _).alloc (Nat.le_refl _) _).alloc (by simp) _
  clear hs0
  go_enter Try.func140, Try.ntmps140
  go_wp2
  generalize ((w.alloc (.cells #[.int .i64 0, .int .i64 0, .int .i64 0, .int .i64 0, .int .i64 0] 32)).alloc (.cells #[.int .i64 0, .int .i64 0, .int .i64 0, .int .i64 0, .int .i64 0, .int .i64 0, .int .i64 0] 34)) = w0 at *
  go_loopw [7, 8, 15] (fun fv rv i wr => ∃ k : Nat, k ≤ n ∧ i = .int .i64 k ∧ fv = .bool (pickS seq (clsOf (ts.take k))).1 ∧ rv = .bool (reachB seq (clsOf (ts.take k))) ∧ BxQ wr w.heap.size (0, 0, 0, 0, 0) ∧ Best wr (w.heap.size + 1) (pickS seq (clsOf (ts.take k))) ∧ Below w.heap.size w wr) (fun _ _ i _ => n - (intOf i).toNat)
  case atStart => exact ⟨0, Nat.zero_le _, rfl, rfl, rfl, q1, q2, hB⟩
  case round =>
    obtain ⟨k, hk, rfl, rfl, rfl, q1, q2, hbr⟩ := hrel
    by_cases hlt : k < n
    · have hlx : k < ts.length := by have := hn'.out; omega
      obtain ⟨b, off, rfl, hlo, hbh⟩ := hs.addr hlx
      obtain ⟨A1, n1, c1, a0, a1, r0⟩ := (hs.below vote_kept hbr hhi).vote hlx
      have hm' := hide r0.len
      have hm1 := r0.cap
      have hm2 := r0.max
      unfold maxLen at hm2
      have hseen := hide (seen_all hlx hm'.out)
      have hz0 := hide (seen_zero ts k hlx)
      rw [← hz0.out]
      rw [← hz0.out] at q2
      have hlq := q1.lt
      have hA := (Below.refl wr.heap.size wr).alloc (Nat.le_refl _) (.cells #[.int .i64 ts[k].1, .slice A1 n1 c1] 30)
      have hbr1 := hbr.trans (hA.mono hbr.size)
      have q1 := q1.below hA
      have q2 : Best (wr.alloc (.cells #[.int .i64 ts[k].1, .slice A1 n1 c1] 30)) (w.heap.size + 1) (pickS seq (seen ts k 0 hlx)) := by obtain ⟨z, h⟩ := q2; exact ⟨z, h.below hA⟩
      have r0 := r0.below (flat_kept _) hA (Nat.le_trans hhi hbr.size)
      go_wp2
      generalize wr.alloc (.cells #[.int .i64 ts[k].1, .slice A1 n1 c1] 30) = wv at *
      go_loopw [7, 8, 22] (fun fv rv j ws => ∃ m : Nat, m ≤ n1 ∧ j = .int .i64 m ∧ fv = .bool (pickS seq (seen ts k m hlx)).1 ∧ rv = .bool (reachB seq (seen ts k m hlx)) ∧ BxQ ws w.heap.size (0, 0, 0, 0, 0) ∧ Best ws (w.heap.size + 1) (pickS seq (seen ts k m hlx)) ∧ Below w.heap.size wv ws) (fun _ _ j _ => n1 - (intOf j).toNat)
      case atStart => exact ⟨0, Nat.zero_le _, rfl, rfl, rfl, q1, q2, Below.refl _ _⟩
      case round =>
        obtain ⟨m, hm, rfl, rfl, rfl, q1, ⟨z, q2⟩, hbs⟩ := hrel
        have hrs := hbr1.trans hbs
        have r0s := r0.below (flat_kept _) hbs hhi
        obtain ⟨y0, y1, y2, y3, y4, y5, y6, yf0, yf1, yf2, yf3, yf4, yf5, yf6⟩ := q2.cells
        have hl2 := q2.lt
        have hl1 := q1.lt
        by_cases hlm : m < n1
        · have hlc : m < ts[k].2.length := by have := hm'.out; omega
          obtain ⟨b2, off2, rfl, hlo2, hbh2⟩ := r0.addr hlc
          obtain ⟨p0, p1, p2, p3, p4, p5, p6⟩ := r0s.claim hlc
          have hst := hide (seen_succ ts k m hlx hlc)
          have hrch : Hid (reachB seq (seen ts k (m + 1) hlx) = (reachB seq (seen ts k m hlx) || decide (seq ≤ ts[k].2[m].1))) := hide (by rw [hst.out, reachB_snoc])
          have hA := (Below.refl wr.heap.size wr).alloc (Nat.le_refl _) (.cells #[.int .i64 ts[k].2[m].1, .int .i64 ts[k].2[m].2.1, .int .i64 ts[k].2[m].2.2.1, .int .i64 ts[k].2[m].2.2.2.1, .int .i64 ts[k].2[m].2.2.2.2.1, .int .i64 ts[k].2[m].2.2.2.2.2.1, .int .i64 ts[k].2[m].2.2.2.2.2.2] 34)
          have hne2 : w.heap.size + 1 ≠ wr.heap.size := by omega
          cases e0 : reachB seq (seen ts k m hlx) <;> cases e9 : decide (seq ≤ ts[k].2[m].1)
          all_goals
            have hrc := hrch.out
            rw [e0, e9] at hrc
            have hrc' := hide hrc
            clear hrc
            cases e1 : (ts[k].2[m].1 == seq)
            · have hx : Hid (pickS seq (seen ts k (m + 1) hlx) = (pickS seq (seen ts k m hlx))) := hide (by rw [hst.out, pickS_snoc, step_no1 e1])
              go_wp2
              go_roundw
              case rel => exact ⟨m + 1, by omega, by go_num, by rw [hx.out], by rw [hrc'.out]; rfl, q1.below hA, by rw [hx.out]; exact ⟨z, q2.below hA⟩, hbs.trans (hA.mono (by omega))⟩
              case measure => simp [intOf]; omega
            · cases e2 : (pickS seq (seen ts k m hlx)).1
              · have hx : Hid (pickS seq (seen ts k (m + 1) hlx) = (true, ts[k].2[m].2.1, ts[k].2[m].2.2)) := hide (by rw [hst.out, pickS_snoc, step_yes e1 (.inl e2)])
                have hk : Below w.heap.size wr (((((((wr.setCell ⟨w.heap.size + 1, 0, none⟩ (.int .i64 ts[k].2[m].1)).setCell ⟨w.heap.size + 1, 1, none⟩ (.int .i64 ts[k].2[m].2.1)).setCell ⟨w.heap.size + 1, 2, none⟩ (.int .i64 ts[k].2[m].2.2.1)).setCell ⟨w.heap.size + 1, 3, none⟩ (.int .i64 ts[k].2[m].2.2.2.1)).setCell ⟨w.heap.size + 1, 4, none⟩ (.int .i64 ts[k].2[m].2.2.2.2.1)).setCell ⟨w.heap.size + 1, 5, none⟩ (.int .i64 ts[k].2[m].2.2.2.2.2.1)).setCell ⟨w.heap.size + 1, 6, none⟩ (.int .i64 ts[k].2[m].2.2.2.2.2.2)) := (((((((Below.refl _ _).setCell (by simp) _).setCell (by simp) _).setCell (by simp) _).setCell (by simp) _).setCell (by simp) _).setCell (by simp) _).setCell (by simp) _
                have q1k : BxQ (((((((wr.setCell ⟨w.heap.size + 1, 0, none⟩ (.int .i64 ts[k].2[m].1)).setCell ⟨w.heap.size + 1, 1, none⟩ (.int .i64 ts[k].2[m].2.1)).setCell ⟨w.heap.size + 1, 2, none⟩ (.int .i64 ts[k].2[m].2.2.1)).setCell ⟨w.heap.size + 1, 3, none⟩ (.int .i64 ts[k].2[m].2.2.2.1)).setCell ⟨w.heap.size + 1, 4, none⟩ (.int .i64 ts[k].2[m].2.2.2.2.1)).setCell ⟨w.heap.size + 1, 5, none⟩ (.int .i64 ts[k].2[m].2.2.2.2.2.1)).setCell ⟨w.heap.size + 1, 6, none⟩ (.int .i64 ts[k].2[m].2.2.2.2.2.2)) w.heap.size (0, 0, 0, 0, 0) := q1.keep7 (by omega) _ _ _ _ _ _ _
                go_wp2
                go_roundw
                case rel => exact ⟨m + 1, by omega, by go_num, by rw [hx.out], by rw [hrc'.out]; rfl, (q1k.below ((Below.refl _ _).alloc (Nat.le_refl _) _)), by rw [hx.out]; exact ⟨ts[k].2[m].1, ((q2.set ts[k].2[m]).below ((Below.refl _ _).alloc (Nat.le_refl _) _))⟩, (hbs.trans (hk.alloc (by simp; omega) _))⟩
                case measure => simp [intOf]; omega
              · cases e3 : decide ((pickS seq (seen ts k m hlx)).2.1 < ts[k].2[m].2.1)
                · have hx : Hid (pickS seq (seen ts k (m + 1) hlx) = (pickS seq (seen ts k m hlx))) := hide (by rw [hst.out, pickS_snoc, step_no2 e2 e3])
                  go_wp2
                  go_roundw
                  case rel => exact ⟨m + 1, by omega, by go_num, by rw [hx.out, e2], by rw [hrc'.out]; rfl, q1.below hA, by rw [hx.out]; exact ⟨z, q2.below hA⟩, hbs.trans (hA.mono (by omega))⟩
                  case measure => simp [intOf]; omega
                · have hx : Hid (pickS seq (seen ts k (m + 1) hlx) = (true, ts[k].2[m].2.1, ts[k].2[m].2.2)) := hide (by rw [hst.out, pickS_snoc, step_yes e1 (.inr e3)])
                  have hk : Below w.heap.size wr (((((((wr.setCell ⟨w.heap.size + 1, 0, none⟩ (.int .i64 ts[k].2[m].1)).setCell ⟨w.heap.size + 1, 1, none⟩ (.int .i64 ts[k].2[m].2.1)).setCell ⟨w.heap.size + 1, 2, none⟩ (.int .i64 ts[k].2[m].2.2.1)).setCell ⟨w.heap.size + 1, 3, none⟩ (.int .i64 ts[k].2[m].2.2.2.1)).setCell ⟨w.heap.size + 1, 4, none⟩ (.int .i64 ts[k].2[m].2.2.2.2.1)).setCell ⟨w.heap.size + 1, 5, none⟩ (.int .i64 ts[k].2[m].2.2.2.2.2.1)).setCell ⟨w.heap.size + 1, 6, none⟩ (.int .i64 ts[k].2[m].2.2.2.2.2.2)) := (((((((Below.refl _ _).setCell (by simp) _).setCell (by simp) _).setCell (by simp) _).setCell (by simp) _).setCell (by simp) _).setCell (by simp) _).setCell (by simp) _
                  have q1k : BxQ (((((((wr.setCell ⟨w.heap.size + 1, 0, none⟩ (.int .i64 ts[k].2[m].1)).setCell ⟨w.heap.size + 1, 1, none⟩ (.int .i64 ts[k].2[m].2.1)).setCell ⟨w.heap.size + 1, 2, none⟩ (.int .i64 ts[k].2[m].2.2.1)).setCell ⟨w.heap.size + 1, 3, none⟩ (.int .i64 ts[k].2[m].2.2.2.1)).setCell ⟨w.heap.size + 1, 4, none⟩ (.int .i64 ts[k].2[m].2.2.2.2.1)).setCell ⟨w.heap.size + 1, 5, none⟩ (.int .i64 ts[k].2[m].2.2.2.2.2.1)).setCell ⟨w.heap.size + 1, 6, none⟩ (.int .i64 ts[k].2[m].2.2.2.2.2.2)) w.heap.size (0, 0, 0, 0, 0) := q1.keep7 (by omega) _ _ _ _ _ _ _
                  go_wp2
                  go_roundw
                  case rel => exact ⟨m + 1, by omega, by go_num, by rw [hx.out], by rw [hrc'.out]; rfl, (q1k.below ((Below.refl _ _).alloc (Nat.le_refl _) _)), by rw [hx.out]; exact ⟨ts[k].2[m].1, ((q2.set ts[k].2[m]).below ((Below.refl _ _).alloc (Nat.le_refl _) _))⟩, (hbs.trans (hk.alloc (by simp; omega) _))⟩
                  case measure => simp [intOf]; omega
        · obtain rfl : m = n1 := by omega
          go_wp2
          go_roundw
          case rel => exact ⟨k + 1, by omega, by go_num, by rw [hseen.out], by rw [hseen.out], q1, by rw [← hseen.out]; exact ⟨z, q2⟩, hrs⟩
          case measure => simp [intOf]; omega
    · obtain rfl : k = n := by omega
      have hall := hide (clsOf_all hn'.out)
      rw [hall.out] at q2
      obtain ⟨z, q2⟩ := q2
      obtain ⟨y0, y1, y2, y3, y4, y5, y6, yf0, yf1, yf2, yf3, yf4, yf5, yf6⟩ := q2.cells
      obtain ⟨z0, z1, z2, z3, z4, zf0, zf1, zf2, zf3, zf4⟩ := q1.cells
      have hl2 := q2.lt
      rw [hall.out]
      cases e0 : reachB seq (clsOf ts)
      all_goals
        go_wp2
        refine bodyPost_ret (v := .tuple #[.agg #[.int .i64 (pickOf (clsOf ts) seq).1, .int .i64 (pickOf (clsOf ts) seq).2.1, .int .i64 (pickOf (clsOf ts) seq).2.2.1, .int .i64 (pickOf (clsOf ts) seq).2.2.2.1, .int .i64 (pickOf (clsOf ts) seq).2.2.2.2], .bool _]) (by simp [results, Try.results140, go_sem, pickOf, y0, y1, y2, y3, y4, y5, y6, yf0, yf1, yf2, yf3, yf4, yf5, yf6, z0, z1, z2, z3, z4]; rfl) rfl ⟨congrArg (fun b => Ending.returned (.tuple #[.agg #[.int .i64 (pickOf (clsOf ts) seq).1, .int .i64 (pickOf (clsOf ts) seq).2.1, .int .i64 (pickOf (clsOf ts) seq).2.2.1, .int .i64 (pickOf (clsOf ts) seq).2.2.2.1, .int .i64 (pickOf (clsOf ts) seq).2.2.2.2], .bool b])) (by simp), ?_⟩
        repeat (first | (with_reducible exact hbr) | (with_reducible refine Below.drew ?_) | ((with_reducible refine Below.setCell ?_ ?_ _); rotate_left; (focus (first | (simp; done) | (simp; omega)))))
end Go.Proofs.Ytphlnihmfgmecaa
