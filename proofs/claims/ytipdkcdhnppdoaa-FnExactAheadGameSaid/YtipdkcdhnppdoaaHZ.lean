/-
  'played': a list of requests played on a game that is ok.
  Conditions: none.
-/
import Derived.Test.YtipdkcdhnppdoaaHY
namespace Go.Proofs.Ytipdkcdhnppdoaa
open Go.RowKit Rg
set_option linter.unusedVariables false
set_option linter.unusedSimpArgs false

/-- The state of 'played': where the game stands. -/
def PlayS (w wr : World) (D : Nat → Prop) (g : GameT) : Prop := ∃ (A : Option Addr) (n c : Nat) (B : Option Addr) (p d : Nat) (E : Option Addr) (q f : Nat),
  Bx3 wr w.heap.size (.slice A n c) (.slice B p d) (.slice E q f) 27 ∧ GmD wr (fun b => D b ∨ w.heap.size + 2 ≤ b ∧ b < wr.heap.size) A n c B p d E q f g ∧ Bx3 wr (w.heap.size + 1) (.slice none 0 0) (.slice none 0 0) (.slice none 0 0) 27 ∧ Below w.heap.size w wr
set_option maxRecDepth 100000 in
set_option maxHeartbeats 2000000 in
theorem played_c (A : Option Addr) (n c : Nat) (B : Option Addr) (p d : Nat) (E : Option Addr) (q f : Nat) (D : Nat → Prop) (g : GameT) (A' : Option Addr) (n' c' lo hi : Nat) (rs : List ReqT) (w : World) (hg : GmD w D A n c B p d E q f g) (hD : ∀ b, D b → b < w.heap.size) (hok : ∀ k, okG (foldG g (rs.take k)))
    (hn : n' = rs.length) (hb : n' ≤ 1048576) (hs : Sl encReq 5 w lo hi A' rs) (hhi : hi ≤ w.heap.size) (hokr : ∀ r ∈ rs, okNA r) :
    Calls Try.prog 29 #[.agg #[.slice A n c, .slice B p d, .slice E q f], .slice A' n' c'] w fun e w' => GmPost w D (foldG g rs) e w' := by
  have hnH := hide hn
  have hokH := hide hok
  have hokrH := hide hokr
  clear hn hok hokr
  have hA0 := (Below.refl w.heap.size w).alloc (Nat.le_refl _) (.cells #[.slice A n c, .slice B p d, .slice E q f] 27)
  have hA1 := hA0.alloc (by simp) (.cells #[.slice none 0 0, .slice none 0 0, .slice none 0 0] 27)
  have hx0 := Bx3.made w (.slice A n c) (.slice B p d) (.slice E q f) 27
  have hx1 := hx0.alloc (.cells #[.slice none 0 0, .slice none 0 0, .slice none 0 0] 27)
  have hr1 := Bx3.made (w.alloc (.cells #[.slice A n c, .slice B p d, .slice E q f] 27)) (.slice none 0 0) (.slice none 0 0) (.slice none 0 0) 27
  rw [World.size_alloc] at hr1
  have hF : PlayS w ((w.alloc (.cells #[.slice A n c, .slice B p d, .slice E q f] 27)).alloc (.cells #[.slice none 0 0, .slice none 0 0, .slice none 0 0] 27)) D (foldG g (rs.take 0)) :=
    ⟨A, n, c, B, p, d, E, q, f, hx1, (hg.below hA1 hD).mono (fun b hb => .inl hb), hr1, hA1⟩
  have hF' := hide hF
  have hA1' := hide hA1
  clear hF hg hx0 hx1 hr1 hA0 hA1
  go_enter Try.func29, Try.ntmps29
  go_wp2
  go_loopw [9] (fun i wr => ∃ k : Nat, k ≤ n' ∧ i = .int .i64 (k : Int) ∧ Hid (PlayS w wr D (foldG g (rs.take k))) ∧ Below w.heap.size w wr) (fun i _ => n' - (intOf i).toNat)
  case atStart => exact ⟨0, Nat.zero_le _, rfl, hF', hA1'.out⟩
  case round =>
    obtain ⟨k, hk, rfl, hF, hbr⟩ := hrel
    obtain ⟨A0, n0, c0, B0, p0, d0, E0, q0, f0, hbx0, hg0, hr0, -⟩ := hF.out
    have hg0 := hide hg0
    obtain ⟨xx0, xx1, xx2, xf0, xf1, xf2⟩ := hbx0.cells
    obtain ⟨yy0, yy1, yy2, yg0, yg1, yg2⟩ := hr0.cells
    have hlx3 := hbx0.lt
    have hlr3 := hr0.lt
    clear hF
    by_cases hlt : k < n'
    · have hlx : k < rs.length := by have := hnH.out; omega
      obtain ⟨b, off, rfl, hlo1, hbh⟩ := hs.addr hlx
      obtain ⟨a0, a1, a2, a3, a4⟩ := (hs.below hbr hhi).getReq hlx
      have hokg := hide (hokH.out k)
      have hbw : b < wr.heap.size := by have := hbr.size; omega
      have hA5 := (Below.refl wr.heap.size wr).alloc (Nat.le_refl _) (.cells #[.int .i64 rs[k].1, .int .i64 rs[k].2.1, .int .i64 rs[k].2.2.1, .int .i64 rs[k].2.2.2.1, .int .i64 rs[k].2.2.2.2] 48)
      have hsz : w.heap.size ≤ wr.heap.size := hbr.size
      go_wp2_with fail
      refine (GameDo_c A0 n0 c0 B0 p0 d0 E0 q0 f0 (fun b => D b ∨ w.heap.size + 2 ≤ b ∧ b < wr.heap.size) (foldG g (rs.take k)) rs[k] (wr.alloc (.cells #[.int .i64 rs[k].1, .int .i64 rs[k].2.1, .int .i64 rs[k].2.2.1, .int .i64 rs[k].2.2.2.1, .int .i64 rs[k].2.2.2.2] 48)) (hg0.out.below hA5 (fun b hb => by
        rcases hb with hb | hb
        · have := hD b hb; omega
        · exact hb.2)) (fun b hb => by
        simp only [World.size_alloc]
        rcases hb with hb | hb
        · have := hD b hb; omega
        · have := hb.2; omega) hokg.out (hokrH.out _ (List.getElem_mem hlx))).mono ?_
      rintro e w6 ⟨A6, n6, gB, gE, rfl, ho6, hb6⟩
      have hg6 := hide ho6.gmD
      have hb06 : Below wr.heap.size wr w6 := hA5.trans (hb6.mono (by simp))
      have hx6 := hbx0.below hb06 hlx3
      have hr6 := hr0.below hb06 hlr3
      have hlx6 := hx6.lt
      have hlr6 := hr6.lt
      have hz6 := hb6.size
      rw [World.size_alloc] at hz6
      clear xx0 xx1 xx2 xf0 xf1 xf2 yy0 yy1 yy2 yg0 yg1 yg2 ho6
      obtain ⟨xx0, xx1, xx2, xf0, xf1, xf2⟩ := hx6.cells
      have h8 := hbr.trans (hb06.mono hsz)
      have hO : Onl w.heap.size w.heap.size w6 (((w6.setCell ⟨w.heap.size, 0, none⟩ (.slice A6 n6 n6)).setCell ⟨w.heap.size, 1, none⟩ (.slice (some ⟨gB, 0, none⟩) 16 16)).setCell ⟨w.heap.size, 2, none⟩ (.slice (some ⟨gE, 0, none⟩) 4 4)) := by (repeat (first | (with_reducible exact Onl.refl _ _ _) | (with_reducible exact Onl.drewL _ _ _) | (with_reducible refine Onl.set ?_ (by simp) _) | with_reducible refine Onl.drew ?_))
      have h5 : PlayS w (((w6.setCell ⟨w.heap.size, 0, none⟩ (.slice A6 n6 n6)).setCell ⟨w.heap.size, 1, none⟩ (.slice (some ⟨gB, 0, none⟩) 16 16)).setCell ⟨w.heap.size, 2, none⟩ (.slice (some ⟨gE, 0, none⟩) 4 4)) D (foldG g (rs.take (k + 1))) := by
        rw [foldG_take hlx]
        refine ⟨A6, n6, n6, some ⟨gB, 0, none⟩, 16, 16, some ⟨gE, 0, none⟩, 4, 4, hx6.sets _ _ _, (hg6.out.keep (fun b hb => hO.blk b ?_ ?_)).mono (fun b hb => ?_), (hO.blk _ (by omega) (by omega)).trans hr6, hO.bel _ _ (Nat.le_refl _) (Nat.le_refl _) h8⟩
        · have := hb.1; simp only [World.size_alloc] at this; omega
        · have := hb.1; simp only [World.size_alloc] at this; omega
        · have h1 := hb.1
          have h2 := hb.2
          simp only [World.size_alloc] at h1
          exact .inr ⟨by omega, by rw [hO.size]; exact h2⟩
      have h5' := hide h5
      have hbl5 : Hid (Below w.heap.size w (((w6.setCell ⟨w.heap.size, 0, none⟩ (.slice A6 n6 n6)).setCell ⟨w.heap.size, 1, none⟩ (.slice (some ⟨gB, 0, none⟩) 16 16)).setCell ⟨w.heap.size, 2, none⟩ (.slice (some ⟨gE, 0, none⟩) 4 4))) := hide (hO.bel _ _ (Nat.le_refl _) (Nat.le_refl _) h8)
      clear h5 hO
      go_wp2
      go_roundw
      case rel => exact ⟨k + 1, by omega, by go_num, h5', hbl5.out⟩
      case measure => simp [intOf]; omega
    · obtain rfl : k = n' := by omega
      have hg9 := hide (hg0.out)
      go_wp2
      refine bodyPost_ret (v := .agg #[.slice A0 n0 c0, .slice B0 p0 d0, .slice E0 q0 f0]) (by simp [results, Try.results29, go_sem, yy0, yy1, yy2, yg0, yg1, yg2]) rfl ?_
      have hz := hg0.out
      rw [List.take_of_length_le (by rw [hnH.out]; omega)] at hz
      have hf := gm_fin (D := D) (x := w.heap.size + 1) (y := w.heap.size + 1) (w := w) (w9 := wr) (w' := ((wr.setCell ⟨w.heap.size + 1, 0, none⟩ (.slice A0 n0 c0)).setCell ⟨w.heap.size + 1, 1, none⟩ (.slice B0 p0 d0)).setCell ⟨w.heap.size + 1, 2, none⟩ (.slice E0 q0 f0)) (by (repeat (first | (with_reducible exact Onl.refl _ _ _) | (with_reducible exact Onl.drewL _ _ _) | (with_reducible refine Onl.set ?_ (by simp) _) | with_reducible refine Onl.drew ?_))) hbr (by omega) (by omega) hz (fun b hb => by
        rcases hb with hb | hb
        · have := hD b hb
          exact ⟨by omega, by omega, .inl hb⟩
        · exact ⟨by omega, by omega, .inr ⟨by omega, hb.2⟩⟩)
      exact ⟨A0, n0, c0, B0, p0, d0, E0, q0, f0, rfl, hf.1, hf.2⟩
end Go.Proofs.Ytipdkcdhnppdoaa
