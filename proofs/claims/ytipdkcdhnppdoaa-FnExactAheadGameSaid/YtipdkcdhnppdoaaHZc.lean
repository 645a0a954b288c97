/-
  'played' with its game owned. (Printed by gen_hzc.py.)
  Conditions: none.
-/
import Derived.Test.YtipdkcdhnppdoaaHZb
namespace Go.Proofs.Ytipdkcdhnppdoaa
open Go.RowKit Rg
set_option linter.unusedVariables false
set_option linter.unusedSimpArgs false

/-- The state of 'played': where the game stands, owned. -/
def PlayO (w wr : World) (lo : Nat) (g : GameT) : Prop := ∃ (A : Option Addr) (n : Nat) (B : Option Addr) (p : Nat) (E : Option Addr) (q : Nat),
  Bx3 wr w.heap.size (.slice A n n) (.slice B p p) (.slice E q q) 27 ∧ (GmO w lo A n n B p p E q q g ∨ GmO wr (w.heap.size + 2) A n n B p p E q q g) ∧ Bx3 wr (w.heap.size + 1) (.slice none 0 0) (.slice none 0 0) (.slice none 0 0) 27 ∧ Below w.heap.size w wr
/-- A call leaves a game owned from lo on. -/
def OwP (w : World) (lo : Nat) (g : GameT) (e : Ending) (w' : World) : Prop := ∃ (A : Option Addr) (n : Nat) (B : Option Addr) (p : Nat) (E : Option Addr) (q : Nat),
  e = .returned (.agg #[.slice A n n, .slice B p p, .slice E q q]) ∧ GmO w' lo A n n B p p E q q g ∧ Below w.heap.size w w'
set_option maxRecDepth 100000 in
set_option maxHeartbeats 2000000 in
theorem playedO_c (A : Option Addr) (n : Nat) (B : Option Addr) (p : Nat) (E : Option Addr) (q : Nat) (lg : Nat) (g : GameT) (A' : Option Addr) (n' c' lo hi : Nat) (rs : List ReqT) (w : World) (hg : GmO w lg A n n B p p E q q g) (hlg : lg ≤ w.heap.size) (hok : ∀ k, okG (foldG g (rs.take k)))
    (hn : n' = rs.length) (hb : n' ≤ 1048576) (hs : Sl encReq 5 w lo hi A' rs) (hhi : hi ≤ w.heap.size) (hokr : ∀ r ∈ rs, okNA r) :
    Calls Try.prog 29 #[.agg #[.slice A n n, .slice B p p, .slice E q q], .slice A' n' c'] w fun e w' => OwP w lg (foldG g rs) e w' := by
  have hnH := hide hn
  have hokH := hide hok
  have hokrH := hide hokr
  clear hn hok hokr
  have hA0 := (Below.refl w.heap.size w).alloc (Nat.le_refl _) (.cells #[.slice A n n, .slice B p p, .slice E q q] 27)
  have hA1 := hA0.alloc (by simp) (.cells #[.slice none 0 0, .slice none 0 0, .slice none 0 0] 27)
  have hx0 := Bx3.made w (.slice A n n) (.slice B p p) (.slice E q q) 27
  have hx1 := hx0.alloc (.cells #[.slice none 0 0, .slice none 0 0, .slice none 0 0] 27)
  have hr1 := Bx3.made (w.alloc (.cells #[.slice A n n, .slice B p p, .slice E q q] 27)) (.slice none 0 0) (.slice none 0 0) (.slice none 0 0) 27
  rw [World.size_alloc] at hr1
  have hF : PlayO w ((w.alloc (.cells #[.slice A n n, .slice B p p, .slice E q q] 27)).alloc (.cells #[.slice none 0 0, .slice none 0 0, .slice none 0 0] 27)) lg (foldG g (rs.take 0)) :=
    ⟨A, n, B, p, E, q, hx1, .inl hg, hr1, hA1⟩
  have hF' := hide hF
  have hA1' := hide hA1
  clear hF hg hx0 hx1 hr1 hA0 hA1
  go_enter Try.func29, Try.ntmps29
  go_wp2
  go_loopw [9] (fun i wr => ∃ k : Nat, k ≤ n' ∧ i = .int .i64 (k : Int) ∧ Hid (PlayO w wr lg (foldG g (rs.take k))) ∧ Below w.heap.size w wr) (fun i _ => n' - (intOf i).toNat)
  case atStart => exact ⟨0, Nat.zero_le _, rfl, hF', hA1'.out⟩
  case round =>
    obtain ⟨k, hk, rfl, hF, hbr⟩ := hrel
    obtain ⟨A0, n0, B0, p0, E0, q0, hbx0, hgo, hr0, -⟩ := hF.out
    have hg0 : Hid (GmD wr (fun b => (lg ≤ b ∧ b < w.heap.size) ∨ w.heap.size + 2 ≤ b ∧ b < wr.heap.size) A0 n0 n0 B0 p0 p0 E0 q0 q0 (foldG g (rs.take k))) := hide (by
      rcases hgo with h | h
      · exact (h.gmD.below hbr (fun b hb => hb.2)).mono (fun b hb => .inl hb)
      · exact h.gmD.mono (fun b hb => .inr hb))
    have hgo := hide hgo
    obtain ⟨xx0, xx1, xx2, xf0, xf1, xf2⟩ := hbx0.cells
    obtain ⟨yy0, yy1, yy2, yg0, yg1, yg2⟩ := hr0.cells
    have hlx3 := hbx0.lt
    have hlr3 := hr0.lt
    clear hF
    by_cases hlt : k < n'
    · have hlx : k < rs.length := by have := hnH.out; omega
      obtain ⟨b, off, rfl, hlo1, hbh⟩ := hs.addr hlx
      obtain ⟨a0, a1, a2, a3, a4⟩ := (hs.below hbr hhi).getReq hlx
      have hokg := hide (hokH.out k)
      have hbw : b < wr.heap.size := by have := hbr.size; omega
      have hA5 := (Below.refl wr.heap.size wr).alloc (Nat.le_refl _) (.cells #[.int .i64 rs[k].1, .int .i64 rs[k].2.1, .int .i64 rs[k].2.2.1, .int .i64 rs[k].2.2.2.1, .int .i64 rs[k].2.2.2.2] 48)
      have hsz : w.heap.size ≤ wr.heap.size := hbr.size
      go_wp2_with fail
      refine (GameDo_c A0 n0 n0 B0 p0 p0 E0 q0 q0 (fun b => (lg ≤ b ∧ b < w.heap.size) ∨ w.heap.size + 2 ≤ b ∧ b < wr.heap.size) (foldG g (rs.take k)) rs[k] (wr.alloc (.cells #[.int .i64 rs[k].1, .int .i64 rs[k].2.1, .int .i64 rs[k].2.2.1, .int .i64 rs[k].2.2.2.1, .int .i64 rs[k].2.2.2.2] 48)) (hg0.out.below hA5 (fun b hb => by
        rcases hb with hb | hb
        · have := hb.2; omega
        · exact hb.2)) (fun b hb => by
        simp only [World.size_alloc]
        rcases hb with hb | hb
        · have := hb.2; omega
        · have := hb.2; omega) hokg.out (hokrH.out _ (List.getElem_mem hlx))).mono ?_
      rintro e w6 ⟨A6, n6, gB, gE, rfl, ho6, hb6⟩
      have hg6 := hide ho6
      have hb06 : Below wr.heap.size wr w6 := hA5.trans (hb6.mono (by simp))
      have hx6 := hbx0.below hb06 hlx3
      have hr6 := hr0.below hb06 hlr3
      have hlx6 := hx6.lt
      have hlr6 := hr6.lt
      have hz6 := hb6.size
      rw [World.size_alloc] at hz6
      clear xx0 xx1 xx2 xf0 xf1 xf2 yy0 yy1 yy2 yg0 yg1 yg2 ho6
      obtain ⟨xx0, xx1, xx2, xf0, xf1, xf2⟩ := hx6.cells
      have h8 := hbr.trans (hb06.mono hsz)
      have hO : Onl w.heap.size w.heap.size w6 (((w6.setCell ⟨w.heap.size, 0, none⟩ (.slice A6 n6 n6)).setCell ⟨w.heap.size, 1, none⟩ (.slice (some ⟨gB, 0, none⟩) 16 16)).setCell ⟨w.heap.size, 2, none⟩ (.slice (some ⟨gE, 0, none⟩) 4 4)) := by (repeat (first | (with_reducible exact Onl.refl _ _ _) | (with_reducible exact Onl.drewL _ _ _) | (with_reducible refine Onl.set ?_ (by simp) _) | with_reducible refine Onl.drew ?_))
      have h5 : PlayO w (((w6.setCell ⟨w.heap.size, 0, none⟩ (.slice A6 n6 n6)).setCell ⟨w.heap.size, 1, none⟩ (.slice (some ⟨gB, 0, none⟩) 16 16)).setCell ⟨w.heap.size, 2, none⟩ (.slice (some ⟨gE, 0, none⟩) 4 4)) lg (foldG g (rs.take (k + 1))) := by
        rw [foldG_take hlx]
        have hw : (wr.alloc (.cells #[.int .i64 rs[k].1, .int .i64 rs[k].2.1, .int .i64 rs[k].2.2.1, .int .i64 rs[k].2.2.2.1, .int .i64 rs[k].2.2.2.2] 48)).heap.size = wr.heap.size + 1 := by simp
        have hk6 := hg6.out
        rw [hw] at hk6
        exact ⟨A6, n6, some ⟨gB, 0, none⟩, 16, some ⟨gE, 0, none⟩, 4, hx6.sets _ _ _, .inr ((hk6.keep (fun b hb _ => hO.blk b (by omega) (by omega))).mono (by omega)), (hO.blk _ (by omega) (by omega)).trans hr6, hO.bel _ _ (Nat.le_refl _) (Nat.le_refl _) h8⟩
      have h5' := hide h5
      have hbl5 : Hid (Below w.heap.size w (((w6.setCell ⟨w.heap.size, 0, none⟩ (.slice A6 n6 n6)).setCell ⟨w.heap.size, 1, none⟩ (.slice (some ⟨gB, 0, none⟩) 16 16)).setCell ⟨w.heap.size, 2, none⟩ (.slice (some ⟨gE, 0, none⟩) 4 4))) := hide (hO.bel _ _ (Nat.le_refl _) (Nat.le_refl _) h8)
      clear h5 hO
      go_wp2
      go_roundw
      case rel => exact ⟨k + 1, by omega, by go_num, h5', hbl5.out⟩
      case measure => simp [intOf]; omega
    · obtain rfl : k = n' := by omega
      go_wp2
      refine bodyPost_ret (v := .agg #[.slice A0 n0 n0, .slice B0 p0 p0, .slice E0 q0 q0]) (by simp [results, Try.results29, go_sem, yy0, yy1, yy2, yg0, yg1, yg2]) rfl ?_
      have hz := hgo.out
      rw [List.take_of_length_le (by rw [hnH.out]; omega)] at hz
      have hO : Onl (w.heap.size + 1) (w.heap.size + 1) wr (((wr.setCell ⟨w.heap.size + 1, 0, none⟩ (.slice A0 n0 n0)).setCell ⟨w.heap.size + 1, 1, none⟩ (.slice B0 p0 p0)).setCell ⟨w.heap.size + 1, 2, none⟩ (.slice E0 q0 q0)) := by (repeat (first | (with_reducible exact Onl.refl _ _ _) | (with_reducible exact Onl.drewL _ _ _) | (with_reducible refine Onl.set ?_ (by simp) _) | with_reducible refine Onl.drew ?_))
      have hB9 := hO.bel _ _ (by omega) (by omega) hbr
      refine ⟨A0, n0, B0, p0, E0, q0, rfl, ?_, hB9⟩
      rcases hz with h | h
      · exact h.below hB9
      · exact (h.keep (fun b hb _ => hO.blk b (by omega) (by omega))).mono (by omega)
end Go.Proofs.Ytipdkcdhnppdoaa
