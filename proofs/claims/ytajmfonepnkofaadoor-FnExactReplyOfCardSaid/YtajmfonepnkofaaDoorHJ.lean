/-
  Games in the reference: 'l2Do'. (Printed by gen_hj.py.)
  Conditions: none.
-/
import Derived.Test.YtajmfonepnkofaaDoorHG
namespace Go.Proofs.YtajmfonepnkofaaDoor
open Go.RowKit Rg
set_option linter.unusedVariables false
set_option linter.unusedSimpArgs false

/-- The boxes of 'l2Do': the game, the ask, the game returned. -/
structure Gb (w w2 : World) (V0 V1 V2 : Value) (r : AskT) : Prop where
  bx : Bx3 w2 w.heap.size V0 V1 V2 35
  br : Bx5 w2 (w.heap.size + 1) r 37
  ry : Bx3 w2 (w.heap.size + 1 + 1) (.slice none 0 0) (.slice none 0 0) (.slice none 0 0) 35
  sz : w.heap.size + 3 ≤ w2.heap.size
  bel : Below w.heap.size w w2
section
variable {w w2 w3 : World} {V0 V1 V2 : Value} {r : AskT}
theorem Gb.made (w : World) (V0 V1 V2 : Value) (r : AskT) : Gb w (((w.alloc (.cells #[V0, V1, V2] 35)).alloc (.cells #[.int .i64 r.1, .int .i64 r.2.1, .int .i64 r.2.2.1, .int .i64 r.2.2.2.1, .int .i64 r.2.2.2.2] 37)).alloc (.cells #[.slice none 0 0, .slice none 0 0, .slice none 0 0] 35)) V0 V1 V2 r := by
  have h1 := Bx3.made w V0 V1 V2 35
  have h2 := Bx5.made (w.alloc (.cells #[V0, V1, V2] 35)) r 37
  have h3 := Bx3.made ((w.alloc (.cells #[V0, V1, V2] 35)).alloc (.cells #[.int .i64 r.1, .int .i64 r.2.1, .int .i64 r.2.2.1, .int .i64 r.2.2.2.1, .int .i64 r.2.2.2.2] 37)) (.slice none 0 0) (.slice none 0 0) (.slice none 0 0) 35
  have k1 := ((Below.refl _ ((w.alloc (.cells #[V0, V1, V2] 35)))).alloc (Nat.le_refl _) (.cells #[.int .i64 r.1, .int .i64 r.2.1, .int .i64 r.2.2.1, .int .i64 r.2.2.2.1, .int .i64 r.2.2.2.2] 37)).alloc (by simp only [World.size_alloc]; omega) (.cells #[.slice none 0 0, .slice none 0 0, .slice none 0 0] 35)
  have k2 := ((Below.refl _ ((w.alloc (.cells #[V0, V1, V2] 35)).alloc (.cells #[.int .i64 r.1, .int .i64 r.2.1, .int .i64 r.2.2.1, .int .i64 r.2.2.2.1, .int .i64 r.2.2.2.2] 37))).alloc (Nat.le_refl _) (.cells #[.slice none 0 0, .slice none 0 0, .slice none 0 0] 35))
  simp only [World.size_alloc] at h2 h3
  exact ⟨h1.below k1 (by simp only [World.size_alloc]; omega), h2.below k2 (by simp only [World.size_alloc]; omega), h3, by simp only [World.size_alloc]; omega, (((Below.refl w.heap.size w).alloc (Nat.le_refl _) _).alloc (by simp only [World.size_alloc]; omega) _).alloc (by simp only [World.size_alloc]; omega) _⟩
theorem Gb.below {K : Nat} (h : Gb w w2 V0 V1 V2 r) (hb : Below K w2 w3) (hK : w.heap.size + 3 ≤ K) : Gb w w3 V0 V1 V2 r :=
  ⟨h.bx.below hb (by omega), h.br.below hb (by omega), h.ry.below hb (by omega), Nat.le_trans h.sz hb.size, h.bel.trans (hb.mono (by omega))⟩
theorem Gb.drew (h : Gb w w2 V0 V1 V2 r) : Gb w w2.drew V0 V1 V2 r := ⟨h.bx, h.br, h.ry, h.sz, h.bel.drew⟩
theorem Gb.other (h : Gb w w2 V0 V1 V2 r) {a : Addr} (ha : w.heap.size + 3 ≤ a.block) (u : Value) : Gb w (w2.setCell a u) V0 V1 V2 r :=
  h.below ((Below.refl (w.heap.size + 3) w2).setCell ha u) (Nat.le_refl _)
theorem Gb.set2 (h : Gb w w2 V0 V1 V2 r) (u : Value) : Gb w (w2.setCell ⟨w.heap.size, 2, none⟩ u) V0 V1 u r :=
  ⟨h.bx.set2 u, h.br.keep (ne_set u (by omega)), h.ry.keep (ne_set u (by omega)), by simpa using h.sz, h.bel.setCell (Nat.le_refl _) u⟩
end
theorem noneR_iff (t : ReqV) : noneR t = true ↔ t = noA := by unfold noneR noA; simp
theorem okG'.last {g : GameT} (h : okG' g) {r : AskT} (hr : okA r) : okG' (lastG g r) := ⟨h.ent, h.inc, h.flo, by
  intro x hx
  rcases set_mem hx with rfl | hx
  · exact ⟨by have := hr.2.1.1; omega, hr.2.1.2⟩
  · exact h.las x hx, h.n16, by simpa [lastG] using h.n4, h.sum⟩

set_option maxRecDepth 100000 in
set_option maxHeartbeats 2000000 in
theorem l2Do_c (A : Option Addr) (n c : Nat) (B : Option Addr) (p d : Nat) (E : Option Addr) (q f : Nat) (D : Nat → Prop) (g : GameT) (r : AskT) (w : World) (hg : GmD w D A n c B p d E q f g) (hD : ∀ b, D b → b < w.heap.size) (hok : okG' g) (hr : okNA r) :
    Calls Tryd.prog 23 #[.agg #[.slice A n c, .slice B p d, .slice E q f], .agg #[.int .i64 r.1, .int .i64 r.2.1, .int .i64 r.2.2.1, .int .i64 r.2.2.2.1, .int .i64 r.2.2.2.2]] w fun e w' => GmPost2 w D (doG g r) e w' := by
  have hs3 := Gb.made w (.slice A n c) (.slice B p d) (.slice E q f) r
  have hg3 := hg.below hs3.bel hD
  obtain ⟨xx0, xx1, xx2, xf0, xf1, xf2⟩ := hs3.bx.cells
  obtain ⟨rr0, rr1, rr2, rr3, rr4, -⟩ := hs3.br.cells
  obtain ⟨yy0, yy1, yy2, yg0, yg1, yg2⟩ := hs3.ry.cells
  have hz3 := hs3.sz
  cases hn : noneR r
  · have hr : okA r := hr.resolve_left (fun h => by rw [(noneR_iff r).2 h] at hn; cases hn)
    have hne : ¬ r = noA := fun h => by rw [(noneR_iff r).2 h] at hn; cases hn
    obtain rfl : q = 4 := by have h1 := hg.la.len; have h2 := hok.n4; omega
    obtain ⟨cl, hcl⟩ : ∃ cl : Nat, r.1 - 1 = (cl : Int) := ⟨(r.1 - 1).toNat, by have := hr.1.1; omega⟩
    have hcl4 : cl < g.2.2.length := by have h2 := hok.n4; have := hr.1.2; omega
    obtain ⟨bE, offE, rfl, hDbE⟩ := hg.la.addr hcl4
    have hEw := hD bE hDbE
    have hEw1 : bE < w.heap.size + 1 := by omega
    have hEw2 : bE < w.heap.size + 1 + 1 := by omega
    have hlast := hg.la.i64 hcl4
    have hgd := getD_at hcl4 (0 : Int)
    have htn : (r.1 - 1).toNat = cl := by omega
    have hcl4' : cl < 4 := by have h2 := hok.n4; omega
    have hcm := hg.la.cap
    have hcm2 := hg.la.max
    unfold maxLen at hcm2
    have hr1 := hr.1
    have hr2 := hr.2.1
    unfold rng at hr1 hr2
    have hln := hide hg.la.len
    have hok' := hide hok
    have hrh := hide hr
    have hgH := hide hg
    have htn' := hide htn
    have hgd' := hide hgd
    have hneH := hide hne
    clear hok hr hg htn hgd hne
    cases e1 : decide (r.2.1 ≤ g.2.2[cl])
    · have hh := hide (show doG g r = behG (lastG g r) r by
        unfold doG; rw [if_neg hneH.out, htn'.out, hgd'.out, if_neg (by simpa using e1)])
      go_enter Tryd.func23, Tryd.ntmps23
      go_wp2_with fail
      generalize (((w.alloc (.cells #[.slice A n c, .slice B p d, .slice (some ⟨bE, offE, none⟩) 4 f] 35)).alloc (.cells #[.int .i64 r.1, .int .i64 r.2.1, .int .i64 r.2.2.1, .int .i64 r.2.2.2.1, .int .i64 r.2.2.2.2] 37)).alloc (.cells #[.slice none 0 0, .slice none 0 0, .slice none 0 0] 35)) = w3 at *
      refine (l1None_c r.1 r.2.1 r.2.2.1 r.2.2.2.1 r.2.2.2.2 w3).mono ?_
      rintro e w4 ⟨rfl, hb4⟩
      rw [show noneR (r.1, r.2.1, r.2.2.1, r.2.2.2.1, r.2.2.2.2) = false from hn]
      have hs4 := hs3.below hb4 hz3
      have hg4 := hg3.below hb4 (fun b hb => by have := hD b hb; omega)
      have hz4 := hs4.sz
      clear xx0 xx1 xx2 xf0 xf1 xf2 rr0 rr1 rr2 rr3 rr4 yy0 yy1 yy2 yg0 yg1 yg2 hs3 hg3
      obtain ⟨xx0, xx1, xx2, xf0, xf1, xf2⟩ := hs4.bx.cells
      obtain ⟨rr0, rr1, rr2, rr3, rr4, -⟩ := hs4.br.cells
      obtain ⟨yy0, yy1, yy2, yg0, yg1, yg2⟩ := hs4.ry.cells
      have hl4 := hg4.la.i64 hcl4
      have hown4 : Own encI 1 3 ((w4.alloc (.cells #[] 3)).drew) w4.heap.size (.slice (some ⟨w4.heap.size, 0, none⟩) 0 0) [] := own_empty encI 1 3 w4
      have hA4 := ((Below.refl w4.heap.size w4).alloc (Nat.le_refl _) (.cells #[] 3)).drew
      have hsl4 : Hid (Sl encI 1 ((w4.alloc (.cells #[] 3)).drew) 0 w.heap.size (some ⟨bE, offE, none⟩) g.2.2) := hide ((hg4.la.sl hD).below hA4 (by omega))
      have hlx4 := hs4.bx.lt
      have hlr4 := hs4.br.lt
      have hlE4 : bE < w4.heap.size := by omega
      go_wp2
      refine wp_region_T (fun _ => True) [] [] [] [0, 1, 2, 3, 4, 5, 6, 7, 8, 9] (by kernel_rfl) (by kernel_rfl) (by kernel_rfl) trivial ?_; simp only [pickL, List.getElem?_cons_succ, List.getElem?_cons_zero]
      go_wp2_with (first
        | ((with_reducible refine wpT_q0 ?_ ?_ ?_ ?_); (focus rfl); (focus rfl); (focus rfl); intro K hK) | ((with_reducible refine wpT_x0 ?_ ?_ ?_); (focus rfl); (focus rfl); intro K hK) | ((with_reducible refine wpT_noL ?_ ?_); (focus (first | exact wanted_no _ _ _ rfl rfl rfl | exact wanted_un _ _ _ rfl rfl rfl)); simp only [setO, List.set_cons_succ, List.set_cons_zero]) | ((with_reducible refine wpT_q1 ?_ ?_ ?_ ?_); (focus exact wanted_yes _ _ _ rfl rfl rfl); (focus rfl); (focus rfl); intro K hK) | ((with_reducible refine wpT_x1 ?_ ?_ ?_); (focus exact wanted_yes _ _ _ rfl rfl rfl); (focus rfl); intro K hK) | ((with_reducible refine wpT_nil ?_); try dsimp only)
        | (at_builtin; refine wpList_app encI_len (by omega) encI_one rfl _ _ 23 rfl 3 _ 8 Tryd.underlying23 infoI rfl w4.heap.size _ [] rfl hown4 0 w.heap.size _ g.2.2 _ _ rfl hln.out hsl4.out (by have h1 := hln.out; simp only [List.length_nil, maxLen]; omega) (by have := hA4.size; omega) ?_)
        | fail)
      intro va wa hoa hgra hba
      try rw [List.nil_append] at hoa
      obtain ⟨g5, c5, rfl, hg51, hg52, hc51, hc52⟩ := hoa.at0 (by omega)
      rw [← hln.out] at hoa hc51 ⊢
      unfold maxLen at hc52
      have hb4a := hA4.trans hba
      have hsa := hs4.below hb4a hz4
      have hga := hg4.below hb4a (fun b hb => by have := hD b hb; omega)
      have hz4a := hb4a.size
      clear hown4 hA4 hsl4 hgra hba hs4 hg4 hl4
      clear xx0 xx1 xx2 xf0 xf1 xf2 rr0 rr1 rr2 rr3 rr4 yy0 yy1 yy2 yg0 yg1 yg2
      obtain ⟨xx0, xx1, xx2, xf0, xf1, xf2⟩ := hsa.bx.cells
      obtain ⟨rr0, rr1, rr2, rr3, rr4, -⟩ := hsa.br.cells
      obtain ⟨yy0, yy1, yy2, yg0, yg1, yg2⟩ := hsa.ry.cells
      have hlxa := hsa.bx.lt
      have hlra := hsa.br.lt
      have hq0 := (hoa.slAt encI_len).2.2.i64 hcl4
      simp only [Nat.zero_add] at hq0
      have hqf := hoa.frozen cl
      have hni1 : ¬ w.heap.size = g5 := by omega
      have hni2 : ¬ g5 = w.heap.size := by omega
      have hni3 : ¬ w.heap.size + 1 = g5 := by omega
      have hni4 : ¬ g5 = w.heap.size + 1 := by omega
      have hsc := (hsa.set2 (.slice (some ⟨g5, 0, none⟩) 4 c5)).other (a := ⟨g5, cl, none⟩) (by show _ ≤ g5; omega) (.int .i64 r.2.1)
      have hob := hoa.keep (w' := wa.setCell ⟨w.heap.size, 2, none⟩ (.slice (some ⟨g5, 0, none⟩) 4 c5)) (fun b hb => ne_set _ (by simp [Value.ownBlock] at hb; omega))
      have hoc := hob.put1 encI_len hcl4 r.2.1 0 (by omega) (.int .i64 r.2.1) rfl
      rw [Nat.mul_one, Nat.add_zero] at hoc
      have hgb := hga.keep (w' := (wa.setCell ⟨w.heap.size, 2, none⟩ (.slice (some ⟨g5, 0, none⟩) 4 c5)).setCell ⟨g5, cl, none⟩ (.int .i64 r.2.1)) (fun b hb => (ne_set _ (by have := hD b hb; omega)).trans (ne_set _ (by have := hD b hb; omega)))
      have hgc : GmD ((wa.setCell ⟨w.heap.size, 2, none⟩ (.slice (some ⟨g5, 0, none⟩) 4 c5)).setCell ⟨g5, cl, none⟩ (.int .i64 r.2.1)) (fun b => D b ∨ b = g5) A n c B p d (some ⟨g5, 0, none⟩) 4 c5 (lastG g r) := ⟨hgb.en.mono (fun b hb => .inl hb), hgb.fl.mono (fun b hb => .inl hb), by unfold lastG; rw [htn'.out]; exact hoc.rdG encI_len (.inr rfl), hgb.ad⟩
      have hDc : ∀ b, (D b ∨ b = g5) → b < ((wa.setCell ⟨w.heap.size, 2, none⟩ (.slice (some ⟨g5, 0, none⟩) 4 c5)).setCell ⟨g5, cl, none⟩ (.int .i64 r.2.1)).heap.size := fun b hb => by
        have : ((wa.setCell ⟨w.heap.size, 2, none⟩ (.slice (some ⟨g5, 0, none⟩) 4 c5)).setCell ⟨g5, cl, none⟩ (.int .i64 r.2.1)).heap.size = wa.heap.size := by simp
        rw [this]
        rcases hb with hb | hb
        · have := hD b hb; omega
        · omega
      have hzc := hsc.sz
      have hDcH := hide hDc
      have hgcH := hide hgc
      have hscH := hide hsc
      clear hoc hob hgb hga hDc hgc hsc
      go_wp2_with fail
      generalize (wa.setCell ⟨w.heap.size, 2, none⟩ (.slice (some ⟨g5, 0, none⟩) 4 c5)).setCell ⟨g5, cl, none⟩ (.int .i64 r.2.1) = wc at *
      have hDc := hDcH.out
      have hgc := hgcH.out
      have hsc := hscH.out
      clear hoa hsa
      have hok5 := hide (hok'.out.last hrh.out)
      have hcl1 := hrh.out.1
      cases hfi : figI g.1 r.1 with
      | none =>
        cases e2 : (r.2.2.1 == 1)
        · have hh2 := hide (show behG (lastG g r) r = (lastG g r, 5) by
            have h9 : ¬ r.2.2.1 = 1 := by simpa using e2
            unfold behG; rw [show figI (lastG g r).1 r.1 = none from hfi]; dsimp only; rw [if_neg h9])
          refine (l2At_none A n c B p d (some ⟨g5, 0, none⟩) 4 c5 0 wc.heap.size g.1 r.1 wc (hgc.en.rdn encEnt_len hDc) (Nat.le_refl _) hfi).mono ?_
          rintro e w5 ⟨rfl, hb5⟩
          have hs5 := hsc.below hb5 hzc
          have hg5 := hgc.below hb5 hDc
          have hD5 : ∀ b, (D b ∨ b = g5) → b < w5.heap.size := fun b hb => Nat.lt_of_lt_of_le (hDc b hb) hb5.size
          have hz5 := hs5.sz
          clear xx0 xx1 xx2 xf0 xf1 xf2 rr0 rr1 rr2 rr3 rr4 yy0 yy1 yy2 yg0 yg1 yg2
          obtain ⟨xx0, xx1, xx2, xf0, xf1, xf2⟩ := hs5.bx.cells
          obtain ⟨rr0, rr1, rr2, rr3, rr4, -⟩ := hs5.br.cells
          obtain ⟨yy0, yy1, yy2, yg0, yg1, yg2⟩ := hs5.ry.cells
          go_wp2
          refine bodyPost_ret (v := .tuple #[.agg #[.slice A n c, .slice B p d, .slice (some ⟨g5, 0, none⟩) 4 c5], .int .i64 5]) (by simp [results, Tryd.results23, go_sem, yy0, yy1, yy2, yg0, yg1, yg2]) rfl ?_
          rw [hh.out, hh2.out]
          refine GmPost2.fin (x := w.heap.size) (y := w.heap.size + 1 + 1) (w9 := w5) (D' := (fun b => D b ∨ b = g5)) _ (by (repeat (first | (with_reducible exact Onl.refl _ _ _) | (with_reducible exact Onl.drewL _ _ _) | (with_reducible refine Onl.set ?_ (by simp) _) | with_reducible refine Onl.drew ?_))) hs5.bel (Nat.le_refl _) (by omega) hg5 (fun b hb => ?_)
          have e5 := hD5 b
          have e6 := hb5.size
          rcases hb with hb | hb
          · have := hD b hb; exact ⟨by omega, by omega, .inl hb⟩
          · have := e5 (.inr hb); exact ⟨by omega, by omega, .inr ⟨by omega, by omega⟩⟩
        · have hh2 := hide (show behG (lastG g r) r = ((joinE g.1 r.1, (lastG g r).2.1, (lastG g r).2.2), 0) by
            have h9 : r.2.2.1 = 1 := by simpa using e2
            unfold behG; rw [show figI (lastG g r).1 r.1 = none from hfi]; dsimp only; rw [if_pos h9]; rfl)
          refine (l2At_none A n c B p d (some ⟨g5, 0, none⟩) 4 c5 0 wc.heap.size g.1 r.1 wc (hgc.en.rdn encEnt_len hDc) (Nat.le_refl _) hfi).mono ?_
          rintro e w5 ⟨rfl, hb5⟩
          have hs5 := hsc.below hb5 hzc
          have hg5 := hgc.below hb5 hDc
          have hD5 : ∀ b, (D b ∨ b = g5) → b < w5.heap.size := fun b hb => Nat.lt_of_lt_of_le (hDc b hb) hb5.size
          have hz5 := hs5.sz
          clear xx0 xx1 xx2 xf0 xf1 xf2 rr0 rr1 rr2 rr3 rr4 yy0 yy1 yy2 yg0 yg1 yg2
          obtain ⟨xx0, xx1, xx2, xf0, xf1, xf2⟩ := hs5.bx.cells
          obtain ⟨rr0, rr1, rr2, rr3, rr4, -⟩ := hs5.br.cells
          obtain ⟨yy0, yy1, yy2, yg0, yg1, yg2⟩ := hs5.ry.cells
          go_wp2_with fail
          refine (l2Join_c A n c B p d (some ⟨g5, 0, none⟩) 4 c5 (fun b => D b ∨ b = g5) (lastG g r) r.1 w5 hg5 hD5 hok5.out.toD hcl1).mono ?_
          rintro e w6 ⟨A6, n6, c6, B6, p6, d6, E6, q6, f6, rfl, hg6, hb6⟩
          have hs6 := hs5.below hb6 hz5
          clear xx0 xx1 xx2 xf0 xf1 xf2 rr0 rr1 rr2 rr3 rr4 yy0 yy1 yy2 yg0 yg1 yg2
          obtain ⟨xx0, xx1, xx2, xf0, xf1, xf2⟩ := hs6.bx.cells
          obtain ⟨rr0, rr1, rr2, rr3, rr4, -⟩ := hs6.br.cells
          obtain ⟨yy0, yy1, yy2, yg0, yg1, yg2⟩ := hs6.ry.cells
          go_wp2
          refine bodyPost_ret (v := .tuple #[.agg #[.slice A6 n6 c6, .slice B6 p6 d6, .slice E6 q6 f6], .int .i64 0]) (by simp [results, Tryd.results23, go_sem, yy0, yy1, yy2, yg0, yg1, yg2]) rfl ?_
          rw [hh.out, hh2.out]
          refine GmPost2.fin (x := w.heap.size) (y := w.heap.size + 1 + 1) (w9 := w6) (D' := Dn (fun b => D b ∨ b = g5) w5 w6) _ (by (repeat (first | (with_reducible exact Onl.refl _ _ _) | (with_reducible exact Onl.drewL _ _ _) | (with_reducible refine Onl.set ?_ (by simp) _) | with_reducible refine Onl.drew ?_))) hs6.bel (Nat.le_refl _) (by omega) hg6 (fun b hb => ?_)
          have e5 := hD5 b
          have e6 := hb5.size
          have e7 := hb6.size
          rcases hb with (hb | hb) | hb
          · have := hD b hb; exact ⟨by omega, by omega, .inl hb⟩
          · have := e5 (.inr hb); exact ⟨by omega, by omega, .inr ⟨by omega, by omega⟩⟩
          · exact ⟨by omega, by omega, .inr ⟨by omega, by omega⟩⟩
      | some k =>
        have hk5 : k < g.1.length := figI_lt hfi
        cases e2 : (r.2.2.1 == 1)
        · have hop := hide (show r.2.2.1 ≠ 1 by simpa using e2)
          have hh2 := hide (show behG (lastG g r) r = actG (lastG g r) k r by
            unfold behG; rw [show figI (lastG g r).1 r.1 = some k from hfi]; dsimp only; rw [if_neg hop.out])
          refine (l2At_some A n c B p d (some ⟨g5, 0, none⟩) 4 c5 0 wc.heap.size g.1 r.1 wc (hgc.en.rdn encEnt_len hDc) (Nat.le_refl _) k hfi).mono ?_
          rintro e w5 ⟨rfl, hb5⟩
          have hs5 := hsc.below hb5 hzc
          have hg5 := hgc.below hb5 hDc
          have hD5 : ∀ b, (D b ∨ b = g5) → b < w5.heap.size := fun b hb => Nat.lt_of_lt_of_le (hDc b hb) hb5.size
          have hz5 := hs5.sz
          clear xx0 xx1 xx2 xf0 xf1 xf2 rr0 rr1 rr2 rr3 rr4 yy0 yy1 yy2 yg0 yg1 yg2
          obtain ⟨xx0, xx1, xx2, xf0, xf1, xf2⟩ := hs5.bx.cells
          obtain ⟨rr0, rr1, rr2, rr3, rr4, -⟩ := hs5.br.cells
          obtain ⟨yy0, yy1, yy2, yg0, yg1, yg2⟩ := hs5.ry.cells
          go_wp2_with fail
          refine (l2Act_c A n c B p d (some ⟨g5, 0, none⟩) 4 c5 (fun b => D b ∨ b = g5) (lastG g r) k r w5 hg5 hD5 hok5.out hk5 hrh.out hop.out).mono ?_
          rintro e w6 ⟨A6, n6, c6, B6, p6, d6, E6, q6, f6, rfl, hg6, hb6⟩
          have hs6 := hs5.below hb6 hz5
          clear xx0 xx1 xx2 xf0 xf1 xf2 rr0 rr1 rr2 rr3 rr4 yy0 yy1 yy2 yg0 yg1 yg2
          obtain ⟨xx0, xx1, xx2, xf0, xf1, xf2⟩ := hs6.bx.cells
          obtain ⟨rr0, rr1, rr2, rr3, rr4, -⟩ := hs6.br.cells
          obtain ⟨yy0, yy1, yy2, yg0, yg1, yg2⟩ := hs6.ry.cells
          go_wp2
          refine bodyPost_ret (v := .tuple #[.agg #[.slice A6 n6 c6, .slice B6 p6 d6, .slice E6 q6 f6], .int .i64 (actG (lastG g r) k r).2]) (by simp [results, Tryd.results23, go_sem, yy0, yy1, yy2, yg0, yg1, yg2]) rfl ?_
          rw [hh.out, hh2.out]
          refine GmPost2.fin (x := w.heap.size) (y := w.heap.size + 1 + 1) (w9 := w6) (D' := Dn (fun b => D b ∨ b = g5) w5 w6) _ (by (repeat (first | (with_reducible exact Onl.refl _ _ _) | (with_reducible exact Onl.drewL _ _ _) | (with_reducible refine Onl.set ?_ (by simp) _) | with_reducible refine Onl.drew ?_))) hs6.bel (Nat.le_refl _) (by omega) hg6 (fun b hb => ?_)
          have e5 := hD5 b
          have e6 := hb5.size
          have e7 := hb6.size
          rcases hb with (hb | hb) | hb
          · have := hD b hb; exact ⟨by omega, by omega, .inl hb⟩
          · have := e5 (.inr hb); exact ⟨by omega, by omega, .inr ⟨by omega, by omega⟩⟩
          · exact ⟨by omega, by omega, .inr ⟨by omega, by omega⟩⟩
        · have hh2 := hide (show behG (lastG g r) r = (lastG g r, 4) by
            have h9 : r.2.2.1 = 1 := by simpa using e2
            unfold behG; rw [show figI (lastG g r).1 r.1 = some k from hfi]; dsimp only; rw [if_pos h9])
          refine (l2At_some A n c B p d (some ⟨g5, 0, none⟩) 4 c5 0 wc.heap.size g.1 r.1 wc (hgc.en.rdn encEnt_len hDc) (Nat.le_refl _) k hfi).mono ?_
          rintro e w5 ⟨rfl, hb5⟩
          have hs5 := hsc.below hb5 hzc
          have hg5 := hgc.below hb5 hDc
          have hD5 : ∀ b, (D b ∨ b = g5) → b < w5.heap.size := fun b hb => Nat.lt_of_lt_of_le (hDc b hb) hb5.size
          have hz5 := hs5.sz
          clear xx0 xx1 xx2 xf0 xf1 xf2 rr0 rr1 rr2 rr3 rr4 yy0 yy1 yy2 yg0 yg1 yg2
          obtain ⟨xx0, xx1, xx2, xf0, xf1, xf2⟩ := hs5.bx.cells
          obtain ⟨rr0, rr1, rr2, rr3, rr4, -⟩ := hs5.br.cells
          obtain ⟨yy0, yy1, yy2, yg0, yg1, yg2⟩ := hs5.ry.cells
          go_wp2
          refine bodyPost_ret (v := .tuple #[.agg #[.slice A n c, .slice B p d, .slice (some ⟨g5, 0, none⟩) 4 c5], .int .i64 4]) (by simp [results, Tryd.results23, go_sem, yy0, yy1, yy2, yg0, yg1, yg2]) rfl ?_
          rw [hh.out, hh2.out]
          refine GmPost2.fin (x := w.heap.size) (y := w.heap.size + 1 + 1) (w9 := w5) (D' := (fun b => D b ∨ b = g5)) _ (by (repeat (first | (with_reducible exact Onl.refl _ _ _) | (with_reducible exact Onl.drewL _ _ _) | (with_reducible refine Onl.set ?_ (by simp) _) | with_reducible refine Onl.drew ?_))) hs5.bel (Nat.le_refl _) (by omega) hg5 (fun b hb => ?_)
          have e5 := hD5 b
          have e6 := hb5.size
          rcases hb with hb | hb
          · have := hD b hb; exact ⟨by omega, by omega, .inl hb⟩
          · have := e5 (.inr hb); exact ⟨by omega, by omega, .inr ⟨by omega, by omega⟩⟩
    · have hh := hide (show doG g r = (g, 3) by
        unfold doG; rw [if_neg hneH.out, htn'.out, hgd'.out, if_pos (by simpa using e1)])
      go_enter Tryd.func23, Tryd.ntmps23
      go_wp2_with fail
      generalize (((w.alloc (.cells #[.slice A n c, .slice B p d, .slice (some ⟨bE, offE, none⟩) 4 f] 35)).alloc (.cells #[.int .i64 r.1, .int .i64 r.2.1, .int .i64 r.2.2.1, .int .i64 r.2.2.2.1, .int .i64 r.2.2.2.2] 37)).alloc (.cells #[.slice none 0 0, .slice none 0 0, .slice none 0 0] 35)) = w3 at *
      refine (l1None_c r.1 r.2.1 r.2.2.1 r.2.2.2.1 r.2.2.2.2 w3).mono ?_
      rintro e w4 ⟨rfl, hb4⟩
      rw [show noneR (r.1, r.2.1, r.2.2.1, r.2.2.2.1, r.2.2.2.2) = false from hn]
      have hs4 := hs3.below hb4 hz3
      have hg4 := hg3.below hb4 (fun b hb => by have := hD b hb; omega)
      have hz4 := hs4.sz
      clear hs3 hg3
      have hl4 := hg4.la.i64 hcl4
      clear xx0 xx1 xx2 xf0 xf1 xf2 rr0 rr1 rr2 rr3 rr4 yy0 yy1 yy2 yg0 yg1 yg2
      obtain ⟨xx0, xx1, xx2, xf0, xf1, xf2⟩ := hs4.bx.cells
      obtain ⟨rr0, rr1, rr2, rr3, rr4, -⟩ := hs4.br.cells
      obtain ⟨yy0, yy1, yy2, yg0, yg1, yg2⟩ := hs4.ry.cells
      go_wp2
      refine wp_region_T (fun _ => True) [] [] [] [0, 1, 2, 3, 4, 5, 6, 7, 8, 9] (by kernel_rfl) (by kernel_rfl) (by kernel_rfl) trivial ?_; simp only [pickL, List.getElem?_cons_succ, List.getElem?_cons_zero]
      go_wp2_with (first
        | ((with_reducible refine wpT_q0 ?_ ?_ ?_ ?_); (focus rfl); (focus rfl); (focus rfl); intro K hK) | ((with_reducible refine wpT_x0 ?_ ?_ ?_); (focus rfl); (focus rfl); intro K hK) | ((with_reducible refine wpT_noL ?_ ?_); (focus (first | exact wanted_no _ _ _ rfl rfl rfl | exact wanted_un _ _ _ rfl rfl rfl)); simp only [setO, List.set_cons_succ, List.set_cons_zero]) | ((with_reducible refine wpT_q1 ?_ ?_ ?_ ?_); (focus exact wanted_yes _ _ _ rfl rfl rfl); (focus rfl); (focus rfl); intro K hK) | ((with_reducible refine wpT_x1 ?_ ?_ ?_); (focus exact wanted_yes _ _ _ rfl rfl rfl); (focus rfl); intro K hK) | ((with_reducible refine wpT_nil ?_); try dsimp only)
        | fail)
      refine bodyPost_ret (v := .tuple #[.agg #[.slice A n c, .slice B p d, .slice (some ⟨bE, offE, none⟩) 4 f], .int .i64 3]) (by simp [results, Tryd.results23, go_sem, yy0, yy1, yy2, yg0, yg1, yg2]) rfl ?_
      rw [hh.out]
      exact GmPost2.fin (x := w.heap.size) (y := w.heap.size + 1 + 1) (w9 := w4) (D' := D) 3 (by (repeat (first | (with_reducible exact Onl.refl _ _ _) | (with_reducible exact Onl.drewL _ _ _) | (with_reducible refine Onl.set ?_ (by simp) _) | with_reducible refine Onl.drew ?_))) hs4.bel (Nat.le_refl _) (by omega) hg4 (fun b hb => by have := hD b hb; exact ⟨by omega, by omega, .inl hb⟩)
  · obtain rfl := (noneR_iff r).1 hn
    have hh := hide (show doG g noA = (g, 2) by unfold doG; simp)
    have hgH := hide hg
    clear hg hok
    go_enter Tryd.func23, Tryd.ntmps23
    go_wp2_with fail
    generalize (((w.alloc (.cells #[.slice A n c, .slice B p d, .slice E q f] 35)).alloc (.cells #[.int .i64 noA.1, .int .i64 noA.2.1, .int .i64 noA.2.2.1, .int .i64 noA.2.2.2.1, .int .i64 noA.2.2.2.2] 37)).alloc (.cells #[.slice none 0 0, .slice none 0 0, .slice none 0 0] 35)) = w3 at *
    refine (l1None_c noA.1 noA.2.1 noA.2.2.1 noA.2.2.2.1 noA.2.2.2.2 w3).mono ?_
    rintro e w4 ⟨rfl, hb4⟩
    rw [show noneR (noA.1, noA.2.1, noA.2.2.1, noA.2.2.2.1, noA.2.2.2.2) = true from hn]
    have hs4 := hs3.below hb4 hz3
    have hg4 := hg3.below hb4 (fun b hb => by have := hD b hb; omega)
    clear xx0 xx1 xx2 xf0 xf1 xf2 rr0 rr1 rr2 rr3 rr4 yy0 yy1 yy2 yg0 yg1 yg2 hs3 hg3
    obtain ⟨xx0, xx1, xx2, xf0, xf1, xf2⟩ := hs4.bx.cells
    obtain ⟨yy0, yy1, yy2, yg0, yg1, yg2⟩ := hs4.ry.cells
    go_wp2
    refine bodyPost_ret (v := .tuple #[.agg #[.slice A n c, .slice B p d, .slice E q f], .int .i64 2]) (by simp [results, Tryd.results23, go_sem, yy0, yy1, yy2, yg0, yg1, yg2]) rfl ?_
    rw [hh.out]
    exact GmPost2.fin (x := w.heap.size) (y := w.heap.size + 1 + 1) (w9 := w4) (D' := D) 2 (by (repeat (first | (with_reducible exact Onl.refl _ _ _) | (with_reducible exact Onl.drewL _ _ _) | (with_reducible refine Onl.set ?_ (by simp) _) | with_reducible refine Onl.drew ?_))) hs4.bel (Nat.le_refl _) (by omega) hg4 (fun b hb => by have := hD b hb; exact ⟨by omega, by omega, .inl hb⟩)
end Go.Proofs.YtajmfonepnkofaaDoor
