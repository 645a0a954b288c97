/-
  Games in the reference: 'l2Act', the rest. (Printed by gen_hg.py.)
  Conditions: none.
-/
import Derived.Test.YtajmfonepnkofaaDoorHF
namespace Go.Proofs.YtajmfonepnkofaaDoor
open Go.RowKit Rg
set_option linter.unusedVariables false
set_option linter.unusedSimpArgs false
theorem actG_give_none (g : GameT) (k : Nat) (r : AskT) (h : r.2.2.1 = 5) (hf : figI g.1 r.2.2.2.1 = none) : actG g k r = (g, 8) := by
  unfold actG
  have h2 : ¬ r.2.2.1 = 2 := by omega
  have h3 : ¬ r.2.2.1 = 3 := by omega
  simp only [h2, h3, if_false, hf]
theorem actG_give_some (g : GameT) (k : Nat) (r : AskT) (h : r.2.2.1 = 5) {i : Nat} (hf : figI g.1 r.2.2.2.1 = some i) (hk : k < g.1.length) : actG g k r = if i = k ∨ ¬ nearE g.1[k] (g.1[i]'(figI_lt hf)) then (g, 8) else if g.1[k].2.2.2.2 < r.2.2.2.2 then (g, 7) else (((g.1.set i (entG (g.1[i]'(figI_lt hf)) r.2.2.2.2)).set k (entG g.1[k] (- r.2.2.2.2)), g.2.1, g.2.2), 0) := by
  unfold actG other
  have h2 : ¬ r.2.2.1 = 2 := by omega
  have h3 : ¬ r.2.2.1 = 3 := by omega
  simp only [h2, h3, if_false, hf, getD_at hk, getD_at (figI_lt hf)]
  rw [if_pos h]

set_option maxRecDepth 100000 in
set_option maxHeartbeats 2000000 in
theorem l2ActGive (A : Option Addr) (n c : Nat) (B : Option Addr) (p d : Nat) (E : Option Addr) (q f : Nat) (D : Nat → Prop) (g : GameT) (k : Nat) (r : AskT) (w : World) (hg : GmD w D A n c B p d E q f g) (hD : ∀ b, D b → b < w.heap.size) (hok : okG' g) (hk : k < g.1.length) (hr : okA r) (hop : r.2.2.1 = 5) :
    Calls Tryd.prog 51 #[.agg #[.slice A n c, .slice B p d, .slice E q f], .int .i64 (k : Int), .agg #[.int .i64 r.1, .int .i64 r.2.1, .int .i64 r.2.2.1, .int .i64 r.2.2.2.1, .int .i64 r.2.2.2.2]] w fun e w' => GmPost2 w D (actG g k r) e w' := by
  have hn' := hide hg.en.len
  have hc1 := hg.en.cap
  have hc2 := hg.en.max
  unfold maxLen at hc2
  have hkn : k < n := by have := hn'.out; omega
  have hn4 : Hid (n ≤ 4) := hide (by
    have h1 := hok.ent
    have h3 := inc_len hok.inc (fun e he => (h1 e he).1)
    have := hn'.out
    omega)
  obtain ⟨b, off, rfl, hDb⟩ := hg.en.addr hk
  have hbw := hD b hDb
  have hbw1 : b < w.heap.size + 1 := by omega
  have hbw2 : b < w.heap.size + 1 + 1 := by omega
  have hbw3 : b < w.heap.size + 1 + 1 + 1 := by omega
  have hs4 := Ga.made w (.slice (some ⟨b, off, none⟩) n c) (.slice B p d) (.slice E q f) r g.1[k]
  have hg4 := hg.below hs4.bel hD
  have hek := (okG'.full hok).ent _ (List.getElem_mem hk)
  unfold entOk rng at hek
  unfold okA rng at hr
  obtain ⟨a0, a1, a2, a3, a4⟩ := hg.en.ent hk
  obtain ⟨xx0, xx1, xx2, xf0, xf1, xf2⟩ := hs4.bx.cells
  obtain ⟨rr0, rr1, rr2, rr3, rr4, -⟩ := hs4.br.cells
  obtain ⟨yy0, yy1, yy2, yg0, yg1, yg2⟩ := hs4.ry.cells
  obtain ⟨ee0, ee1, ee2, ee3, ee4, ef0, ef1, ef2, ef3, ef4⟩ := hs4.be.cells
  have hz4 := hs4.sz
  have hlx4 := hs4.bx.lt
  have hlr4 := hs4.br.lt
  have hly4 := hs4.ry.lt
  have hle4 := hs4.be.lt
  have hok' := hide hok
  have hopp := hide hop
  have hr' := hide hr
  have hq2 : (r.2.2.1 == 2) = false := by simp [hop]
  have hq3 : (r.2.2.1 == 3) = false := by simp [hop]
  have hq4 : (r.2.2.1 == 4) = false := by simp [hop]
  have hY : 1 ≤ r.2.2.2.2 ∧ r.2.2.2.2 ≤ 9 := by omega
  clear hop hr hg
  cases hfi : figI g.1 r.2.2.2.1 with
  | none =>
    have hh := hide (actG_give_none g k r hopp.out hfi)
    clear hok
    go_enter Tryd.func51, Tryd.ntmps51
    go_wp2_with fail
    generalize ((((w.alloc (.cells #[.slice (some ⟨b, off, none⟩) n c, .slice B p d, .slice E q f] 35)).alloc (.cells #[.int .i64 r.1, .int .i64 r.2.1, .int .i64 r.2.2.1, .int .i64 r.2.2.2.1, .int .i64 r.2.2.2.2] 37)).alloc (.cells #[.slice none 0 0, .slice none 0 0, .slice none 0 0] 35)).alloc (.cells #[.int .i64 g.1[k].1, .int .i64 g.1[k].2.1, .int .i64 g.1[k].2.2.1, .int .i64 g.1[k].2.2.2.1, .int .i64 g.1[k].2.2.2.2] 82)) = w4 at *
    have hsd := hide (hg4.en.rdn encEnt_len hD)
    refine (l2At_none (some ⟨b, off, none⟩) n c B p d E q f 0 w.heap.size g.1 r.2.2.2.1 _ hsd.out (by show w.heap.size ≤ w4.heap.size; omega) hfi).mono ?_
    rintro e w5 ⟨rfl, hb5⟩
    have hs5 := hs4.below hb5 hz4
    have hg5 := hg4.below hb5 (fun b hb => by have := hD b hb; omega)
    have hz5 := hs5.sz
    clear xx0 xx1 xx2 xf0 xf1 xf2 rr0 rr1 rr2 rr3 rr4 yy0 yy1 yy2 yg0 yg1 yg2 ee0 ee1 ee2 ee3 ee4 ef0 ef1 ef2 ef3 ef4 hs4 hg4
    obtain ⟨xx0, xx1, xx2, xf0, xf1, xf2⟩ := hs5.bx.cells
    obtain ⟨rr0, rr1, rr2, rr3, rr4, -⟩ := hs5.br.cells
    obtain ⟨yy0, yy1, yy2, yg0, yg1, yg2⟩ := hs5.ry.cells
    obtain ⟨ee0, ee1, ee2, ee3, ee4, ef0, ef1, ef2, ef3, ef4⟩ := hs5.be.cells
    go_wp2
    refine wp_region_T (fun _ => True) [] [] [] [0, 1, 2, 3, 4, 5, 6, 7, 8, 9, 10, 11, 12, 13, 14, 15, 16] (by kernel_rfl) (by kernel_rfl) (by kernel_rfl) trivial ?_; simp only [pickL, List.getElem?_cons_succ, List.getElem?_cons_zero]
    go_wp2_with (first
      | ((with_reducible refine wpT_q0 ?_ ?_ ?_ ?_); (focus rfl); (focus rfl); (focus rfl); intro K hK) | ((with_reducible refine wpT_x0 ?_ ?_ ?_); (focus rfl); (focus rfl); intro K hK) | ((with_reducible refine wpT_noL ?_ ?_); (focus (first | exact wanted_no _ _ _ rfl rfl rfl | exact wanted_un _ _ _ rfl rfl rfl)); simp only [setO, List.set_cons_succ, List.set_cons_zero]) | ((with_reducible refine wpT_q1 ?_ ?_ ?_ ?_); (focus exact wanted_yes _ _ _ rfl rfl rfl); (focus rfl); (focus rfl); intro K hK) | ((with_reducible refine wpT_x1 ?_ ?_ ?_); (focus exact wanted_yes _ _ _ rfl rfl rfl); (focus rfl); intro K hK) | ((with_reducible refine wpT_nil ?_); try dsimp only)
      | fail)
    refine bodyPost_ret (v := .tuple #[.agg #[.slice (some ⟨b, off, none⟩) n c, .slice B p d, .slice E q f], .int .i64 8]) (by simp [results, Tryd.results51, go_sem, yy0, yy1, yy2, yg0, yg1, yg2]) rfl ?_
    rw [hh.out]
    exact GmPost2.fin (x := w.heap.size) (y := w.heap.size + 1 + 1) (w9 := w5) (D' := D) 8 (by (repeat (first | (with_reducible exact Onl.refl _ _ _) | (with_reducible exact Onl.drewL _ _ _) | (with_reducible refine Onl.set ?_ (by simp) _) | with_reducible refine Onl.drew ?_))) hs5.bel (Nat.le_refl _) (by omega) hg5 (fun b hb => by have := hD b hb; exact ⟨by omega, by omega, .inl hb⟩)
  | some i =>
    have hi := figI_lt hfi
    have hin : i < n := by have := hn'.out; omega
    have hei := (okG'.full hok).ent _ (List.getElem_mem hi)
    unfold entOk rng at hei
    have hact := hide (actG_give_some g k r hopp.out hfi hk)
    clear hok
    by_cases hik : i = k
    · have hh := hide (show actG g k r = (g, 8) by rw [hact.out, if_pos (.inl hik)])
      have hik' : (((k : Nat) : Int) == ((i : Nat) : Int)) = true := by simp [hik]
      have hik2 : (((i : Nat) : Int) == ((k : Nat) : Int)) = true := by simp [hik]
      have hikh := hide hik
      clear hik
      go_enter Tryd.func51, Tryd.ntmps51
      go_wp2_with fail
      generalize ((((w.alloc (.cells #[.slice (some ⟨b, off, none⟩) n c, .slice B p d, .slice E q f] 35)).alloc (.cells #[.int .i64 r.1, .int .i64 r.2.1, .int .i64 r.2.2.1, .int .i64 r.2.2.2.1, .int .i64 r.2.2.2.2] 37)).alloc (.cells #[.slice none 0 0, .slice none 0 0, .slice none 0 0] 35)).alloc (.cells #[.int .i64 g.1[k].1, .int .i64 g.1[k].2.1, .int .i64 g.1[k].2.2.1, .int .i64 g.1[k].2.2.2.1, .int .i64 g.1[k].2.2.2.2] 82)) = w4 at *
      have hsd := hide (hg4.en.rdn encEnt_len hD)
      refine (l2At_some (some ⟨b, off, none⟩) n c B p d E q f 0 w.heap.size g.1 r.2.2.2.1 _ hsd.out (by show w.heap.size ≤ w4.heap.size; omega) i hfi).mono ?_
      rintro e w5 ⟨rfl, hb5⟩
      have hs5 := hs4.below hb5 hz4
      have hg5 := hg4.below hb5 (fun b hb => by have := hD b hb; omega)
      have hz5 := hs5.sz
      clear xx0 xx1 xx2 xf0 xf1 xf2 rr0 rr1 rr2 rr3 rr4 yy0 yy1 yy2 yg0 yg1 yg2 ee0 ee1 ee2 ee3 ee4 ef0 ef1 ef2 ef3 ef4 hs4 hg4
      obtain ⟨xx0, xx1, xx2, xf0, xf1, xf2⟩ := hs5.bx.cells
      obtain ⟨rr0, rr1, rr2, rr3, rr4, -⟩ := hs5.br.cells
      obtain ⟨yy0, yy1, yy2, yg0, yg1, yg2⟩ := hs5.ry.cells
      obtain ⟨ee0, ee1, ee2, ee3, ee4, ef0, ef1, ef2, ef3, ef4⟩ := hs5.be.cells
      go_wp2
      refine wp_region_T (fun _ => True) [] [] [] [0, 1, 2, 3, 4, 5, 6, 7, 8, 9, 10, 11, 12, 13, 14, 15, 16] (by kernel_rfl) (by kernel_rfl) (by kernel_rfl) trivial ?_; simp only [pickL, List.getElem?_cons_succ, List.getElem?_cons_zero]
      go_wp2_with (first
        | ((with_reducible refine wpT_q0 ?_ ?_ ?_ ?_); (focus rfl); (focus rfl); (focus rfl); intro K hK) | ((with_reducible refine wpT_x0 ?_ ?_ ?_); (focus rfl); (focus rfl); intro K hK) | ((with_reducible refine wpT_noL ?_ ?_); (focus (first | exact wanted_no _ _ _ rfl rfl rfl | exact wanted_un _ _ _ rfl rfl rfl)); simp only [setO, List.set_cons_succ, List.set_cons_zero]) | ((with_reducible refine wpT_q1 ?_ ?_ ?_ ?_); (focus exact wanted_yes _ _ _ rfl rfl rfl); (focus rfl); (focus rfl); intro K hK) | ((with_reducible refine wpT_x1 ?_ ?_ ?_); (focus exact wanted_yes _ _ _ rfl rfl rfl); (focus rfl); intro K hK) | ((with_reducible refine wpT_nil ?_); try dsimp only)
        | fail)
      refine bodyPost_ret (v := .tuple #[.agg #[.slice (some ⟨b, off, none⟩) n c, .slice B p d, .slice E q f], .int .i64 8]) (by simp [results, Tryd.results51, go_sem, yy0, yy1, yy2, yg0, yg1, yg2]) rfl ?_
      rw [hh.out]
      exact GmPost2.fin (x := w.heap.size) (y := w.heap.size + 1 + 1) (w9 := w5) (D' := D) 8 (by (repeat (first | (with_reducible exact Onl.refl _ _ _) | (with_reducible exact Onl.drewL _ _ _) | (with_reducible refine Onl.set ?_ (by simp) _) | with_reducible refine Onl.drew ?_))) hs5.bel (Nat.le_refl _) (by omega) hg5 (fun b hb => by have := hD b hb; exact ⟨by omega, by omega, .inl hb⟩)
    · have hik' : (((k : Nat) : Int) == ((i : Nat) : Int)) = false := by simp; omega
      have hik2 : (((i : Nat) : Int) == ((k : Nat) : Int)) = false := by simp; omega
      have hikh := hide hik
      clear hik
      cases e1 : decide (nearE g.1[k] g.1[i])
      · have hno := hide (show ¬ nearE g.1[k] g.1[i] by simpa using e1)
        have hh := hide (show actG g k r = (g, 8) by rw [hact.out, if_pos (.inr hno.out)])
        go_enter Tryd.func51, Tryd.ntmps51
        go_wp2_with fail
        generalize ((((w.alloc (.cells #[.slice (some ⟨b, off, none⟩) n c, .slice B p d, .slice E q f] 35)).alloc (.cells #[.int .i64 r.1, .int .i64 r.2.1, .int .i64 r.2.2.1, .int .i64 r.2.2.2.1, .int .i64 r.2.2.2.2] 37)).alloc (.cells #[.slice none 0 0, .slice none 0 0, .slice none 0 0] 35)).alloc (.cells #[.int .i64 g.1[k].1, .int .i64 g.1[k].2.1, .int .i64 g.1[k].2.2.1, .int .i64 g.1[k].2.2.2.1, .int .i64 g.1[k].2.2.2.2] 82)) = w4 at *
        have hsd := hide (hg4.en.rdn encEnt_len hD)
        refine (l2At_some (some ⟨b, off, none⟩) n c B p d E q f 0 w.heap.size g.1 r.2.2.2.1 _ hsd.out (by show w.heap.size ≤ w4.heap.size; omega) i hfi).mono ?_
        rintro e w5 ⟨rfl, hb5⟩
        have hs5 := hs4.below hb5 hz4
        have hg5 := hg4.below hb5 (fun b hb => by have := hD b hb; omega)
        have hz5 := hs5.sz
        clear xx0 xx1 xx2 xf0 xf1 xf2 rr0 rr1 rr2 rr3 rr4 yy0 yy1 yy2 yg0 yg1 yg2 ee0 ee1 ee2 ee3 ee4 ef0 ef1 ef2 ef3 ef4 hs4 hg4
        obtain ⟨xx0, xx1, xx2, xf0, xf1, xf2⟩ := hs5.bx.cells
        obtain ⟨rr0, rr1, rr2, rr3, rr4, -⟩ := hs5.br.cells
        obtain ⟨yy0, yy1, yy2, yg0, yg1, yg2⟩ := hs5.ry.cells
        obtain ⟨ee0, ee1, ee2, ee3, ee4, ef0, ef1, ef2, ef3, ef4⟩ := hs5.be.cells
        obtain ⟨b0, b1, b2, b3, b4⟩ := hg5.en.ent hi
        go_wp2
        refine wp_region_T (fun _ => True) [] [] [] [0, 1, 2, 3, 4, 5, 6, 7, 8, 9, 10, 11, 12, 13, 14, 15, 16] (by kernel_rfl) (by kernel_rfl) (by kernel_rfl) trivial ?_; simp only [pickL, List.getElem?_cons_succ, List.getElem?_cons_zero]
        go_wp2_with (first
          | ((with_reducible refine wpT_q0 ?_ ?_ ?_ ?_); (focus rfl); (focus rfl); (focus rfl); intro K hK) | ((with_reducible refine wpT_x0 ?_ ?_ ?_); (focus rfl); (focus rfl); intro K hK) | ((with_reducible refine wpT_noL ?_ ?_); (focus (first | exact wanted_no _ _ _ rfl rfl rfl | exact wanted_un _ _ _ rfl rfl rfl)); simp only [setO, List.set_cons_succ, List.set_cons_zero]) | ((with_reducible refine wpT_q1 ?_ ?_ ?_ ?_); (focus exact wanted_yes _ _ _ rfl rfl rfl); (focus rfl); (focus rfl); intro K hK) | ((with_reducible refine wpT_x1 ?_ ?_ ?_); (focus exact wanted_yes _ _ _ rfl rfl rfl); (focus rfl); intro K hK) | ((with_reducible refine wpT_nil ?_); try dsimp only)
          | (go_at_call 80; refine (l2Near_c g.1[k] g.1[i] _ ⟨hek.2.1, hek.2.2.1⟩ ⟨hei.2.1, hei.2.2.1⟩).mono ?_; rintro e w6 ⟨rfl, hb6⟩; have hb56 : Below w5.heap.size w5 w6 := (Below.drew (Below.refl _ _)).trans hb6; have hs6 := hs5.below hb56 hz5; have hg6 := hg5.below hb56 (fun b hb => by have := hD b hb; omega); have hz6 := hs6.sz; clear xx0 xx1 xx2 xf0 xf1 xf2 rr0 rr1 rr2 rr3 rr4 yy0 yy1 yy2 yg0 yg1 yg2 ee0 ee1 ee2 ee3 ee4 ef0 ef1 ef2 ef3 ef4; obtain ⟨xx0, xx1, xx2, xf0, xf1, xf2⟩ := hs6.bx.cells; obtain ⟨rr0, rr1, rr2, rr3, rr4, -⟩ := hs6.br.cells; obtain ⟨yy0, yy1, yy2, yg0, yg1, yg2⟩ := hs6.ry.cells; obtain ⟨ee0, ee1, ee2, ee3, ee4, ef0, ef1, ef2, ef3, ef4⟩ := hs6.be.cells)
          | fail)
        refine bodyPost_ret (v := .tuple #[.agg #[.slice (some ⟨b, off, none⟩) n c, .slice B p d, .slice E q f], .int .i64 8]) (by simp [results, Tryd.results51, go_sem, yy0, yy1, yy2, yg0, yg1, yg2]) rfl ?_
        rw [hh.out]
        exact GmPost2.fin (x := w.heap.size) (y := w.heap.size + 1 + 1) (w9 := w6) (D' := D) 8 (by (repeat (first | (with_reducible exact Onl.refl _ _ _) | (with_reducible exact Onl.drewL _ _ _) | (with_reducible refine Onl.set ?_ (by simp) _) | with_reducible refine Onl.drew ?_))) hs6.bel (Nat.le_refl _) (by omega) hg6 (fun b hb => by have := hD b hb; exact ⟨by omega, by omega, .inl hb⟩)
      · have hyes := hide (show nearE g.1[k] g.1[i] by simpa using e1)
        cases e2 : decide (g.1[k].2.2.2.2 < r.2.2.2.2)
        · have hh := hide (show actG g k r = (((g.1.set i (entG g.1[i] r.2.2.2.2)).set k (g.1[k].1, g.1[k].2.1, g.1[k].2.2.1, g.1[k].2.2.2.1, g.1[k].2.2.2.2 - r.2.2.2.2), g.2.1, g.2.2), 0) by
            rw [hact.out, if_neg (fun h => h.elim hikh.out (fun h => h hyes.out)), if_neg (by simpa using e2)]
            rfl)
          go_enter Tryd.func51, Tryd.ntmps51
          go_wp2_with fail
          generalize ((((w.alloc (.cells #[.slice (some ⟨b, off, none⟩) n c, .slice B p d, .slice E q f] 35)).alloc (.cells #[.int .i64 r.1, .int .i64 r.2.1, .int .i64 r.2.2.1, .int .i64 r.2.2.2.1, .int .i64 r.2.2.2.2] 37)).alloc (.cells #[.slice none 0 0, .slice none 0 0, .slice none 0 0] 35)).alloc (.cells #[.int .i64 g.1[k].1, .int .i64 g.1[k].2.1, .int .i64 g.1[k].2.2.1, .int .i64 g.1[k].2.2.2.1, .int .i64 g.1[k].2.2.2.2] 82)) = w4 at *
          have hsd := hide (hg4.en.rdn encEnt_len hD)
          refine (l2At_some (some ⟨b, off, none⟩) n c B p d E q f 0 w.heap.size g.1 r.2.2.2.1 _ hsd.out (by show w.heap.size ≤ w4.heap.size; omega) i hfi).mono ?_
          rintro e w5 ⟨rfl, hb5⟩
          have hs5 := hs4.below hb5 hz4
          have hg5 := hg4.below hb5 (fun b hb => by have := hD b hb; omega)
          have hz5 := hs5.sz
          clear xx0 xx1 xx2 xf0 xf1 xf2 rr0 rr1 rr2 rr3 rr4 yy0 yy1 yy2 yg0 yg1 yg2 ee0 ee1 ee2 ee3 ee4 ef0 ef1 ef2 ef3 ef4 hs4 hg4
          obtain ⟨xx0, xx1, xx2, xf0, xf1, xf2⟩ := hs5.bx.cells
          obtain ⟨rr0, rr1, rr2, rr3, rr4, -⟩ := hs5.br.cells
          obtain ⟨yy0, yy1, yy2, yg0, yg1, yg2⟩ := hs5.ry.cells
          obtain ⟨ee0, ee1, ee2, ee3, ee4, ef0, ef1, ef2, ef3, ef4⟩ := hs5.be.cells
          obtain ⟨b0, b1, b2, b3, b4⟩ := hg5.en.ent hi
          go_wp2
          refine wp_region_T (fun _ => True) [] [] [] [0, 1, 2, 3, 4, 5, 6, 7, 8, 9, 10, 11, 12, 13, 14, 15, 16] (by kernel_rfl) (by kernel_rfl) (by kernel_rfl) trivial ?_; simp only [pickL, List.getElem?_cons_succ, List.getElem?_cons_zero]
          go_wp2_with (first
            | ((with_reducible refine wpT_q0 ?_ ?_ ?_ ?_); (focus rfl); (focus rfl); (focus rfl); intro K hK) | ((with_reducible refine wpT_x0 ?_ ?_ ?_); (focus rfl); (focus rfl); intro K hK) | ((with_reducible refine wpT_noL ?_ ?_); (focus (first | exact wanted_no _ _ _ rfl rfl rfl | exact wanted_un _ _ _ rfl rfl rfl)); simp only [setO, List.set_cons_succ, List.set_cons_zero]) | ((with_reducible refine wpT_q1 ?_ ?_ ?_ ?_); (focus exact wanted_yes _ _ _ rfl rfl rfl); (focus rfl); (focus rfl); intro K hK) | ((with_reducible refine wpT_x1 ?_ ?_ ?_); (focus exact wanted_yes _ _ _ rfl rfl rfl); (focus rfl); intro K hK) | ((with_reducible refine wpT_nil ?_); try dsimp only)
            | (go_at_call 80; refine (l2Near_c g.1[k] g.1[i] _ ⟨hek.2.1, hek.2.2.1⟩ ⟨hei.2.1, hei.2.2.1⟩).mono ?_; rintro e w6 ⟨rfl, hb6⟩; have hb56 : Below w5.heap.size w5 w6 := (Below.drew (Below.refl _ _)).trans hb6; have hs6 := hs5.below hb56 hz5; have hg6 := hg5.below hb56 (fun b hb => by have := hD b hb; omega); have hz6 := hs6.sz; clear xx0 xx1 xx2 xf0 xf1 xf2 rr0 rr1 rr2 rr3 rr4 yy0 yy1 yy2 yg0 yg1 yg2 ee0 ee1 ee2 ee3 ee4 ef0 ef1 ef2 ef3 ef4; obtain ⟨xx0, xx1, xx2, xf0, xf1, xf2⟩ := hs6.bx.cells; obtain ⟨rr0, rr1, rr2, rr3, rr4, -⟩ := hs6.br.cells; obtain ⟨yy0, yy1, yy2, yg0, yg1, yg2⟩ := hs6.ry.cells; obtain ⟨ee0, ee1, ee2, ee3, ee4, ef0, ef1, ef2, ef3, ef4⟩ := hs6.be.cells; have hlx6 := hs6.bx.lt; have hle6 := hs6.be.lt; have hs7 := hs6.setE (hs6.be.set4 (g.1[k].2.2.2.2 - r.2.2.2.2)); (try dsimp only at hs7); have hg7 := hg6.keep (w' := (w6.setCell ⟨w.heap.size + 1 + 1 + 1, 4, none⟩ (.int .i64 (g.1[k].2.2.2.2 - r.2.2.2.2)))) (fun b hb => ne_set _ (by have := hD b hb; omega)); have hz7 := hide (show ((w6.setCell ⟨w.heap.size + 1 + 1 + 1, 4, none⟩ (.int .i64 (g.1[k].2.2.2.2 - r.2.2.2.2)))).heap.size = w6.heap.size by simp); have hown7 : Own encEnt 5 82 (((w6.setCell ⟨w.heap.size + 1 + 1 + 1, 4, none⟩ (.int .i64 (g.1[k].2.2.2.2 - r.2.2.2.2)))).alloc (.cells #[] 82)) w6.heap.size (.slice (some ⟨w6.heap.size, 0, none⟩) 0 0) [] := (by have h := own_empty encEnt 5 82 ((w6.setCell ⟨w.heap.size + 1 + 1 + 1, 4, none⟩ (.int .i64 (g.1[k].2.2.2.2 - r.2.2.2.2)))); rw [hz7.out] at h; exact h); have hA7 := (Below.refl ((w6.setCell ⟨w.heap.size + 1 + 1 + 1, 4, none⟩ (.int .i64 (g.1[k].2.2.2.2 - r.2.2.2.2)))).heap.size ((w6.setCell ⟨w.heap.size + 1 + 1 + 1, 4, none⟩ (.int .i64 (g.1[k].2.2.2.2 - r.2.2.2.2))))).alloc (Nat.le_refl _) (.cells #[] 82); have hsl7 : Hid (Sl encEnt 5 (((w6.setCell ⟨w.heap.size + 1 + 1 + 1, 4, none⟩ (.int .i64 (g.1[k].2.2.2.2 - r.2.2.2.2)))).alloc (.cells #[] 82)) 0 w.heap.size (some ⟨b, off, none⟩) g.1) := hide ((hg7.en.sl hD).below hA7 (by have := hz7.out; omega)))
            | (at_builtin; generalize (w6.setCell ⟨w.heap.size + 1 + 1 + 1, 4, none⟩ (.int .i64 (g.1[k].2.2.2.2 - r.2.2.2.2))) = w7 at *; refine wpList_app encEnt_len (by omega) encEnt_one rfl _ _ 33 rfl 82 _ 40 Tryd.underlying33 infoEnt rfl w6.heap.size _ [] rfl hown7 0 w.heap.size _ g.1 _ _ rfl hn'.out hsl7.out (by have h1 := hn4.out; have h2 := hn'.out; simp only [List.length_nil, maxLen]; omega) (by have := hz7.out; have := hA7.size; omega) ?_)
            | fail)
          intro va wa hoa hgra hba
          try rw [List.nil_append] at hoa
          obtain ⟨g5, c5, rfl, hg51, hg52, hc51, hc52⟩ := hoa.at0 (by omega)
          rw [← hn'.out] at hoa hc51 ⊢
          unfold maxLen at hc52
          have hz7' := hz7.out
          have hb7a := hA7.trans (hba.mono (by omega))
          have hsa := hs7.below hb7a (by omega)
          have hga := hg7.below hb7a (fun b hb => by have := hD b hb; omega)
          have hz7a := hb7a.size
          clear xx0 xx1 xx2 xf0 xf1 xf2 rr0 rr1 rr2 rr3 rr4 yy0 yy1 yy2 yg0 yg1 yg2 ee0 ee1 ee2 ee3 ee4 ef0 ef1 ef2 ef3 ef4 hown7 hA7 hsl7 hgra hba hs7 hg7 hs6 hg6 hs5 hg5 b0 b1 b2 b3 b4 hb6 hb56 hb5
          obtain ⟨xx0, xx1, xx2, xf0, xf1, xf2⟩ := hsa.bx.cells
          have hlxa := hsa.bx.lt
          go_wp2
          have hS1 : ∀ b, b ≠ w.heap.size → (wa.setCell ⟨w.heap.size, 0, none⟩ (.slice (some ⟨g5, 0, none⟩) n c5)).heap[b]? = wa.heap[b]? := fun b h => ne_set _ h
          have hsb := hsa.set0 (.slice (some ⟨g5, 0, none⟩) n c5)
          have hgb := hga.keep (w' := wa.setCell ⟨w.heap.size, 0, none⟩ (.slice (some ⟨g5, 0, none⟩) n c5)) (fun b hb => hS1 b (by have := hD b hb; omega))
          have hob := hoa.keep (w' := wa.setCell ⟨w.heap.size, 0, none⟩ (.slice (some ⟨g5, 0, none⟩) n c5)) (fun b hb => hS1 b (by simp [Value.ownBlock] at hb; omega))
          have hzb := hide (show (wa.setCell ⟨w.heap.size, 0, none⟩ (.slice (some ⟨g5, 0, none⟩) n c5)).heap.size = wa.heap.size by simp)
          clear xx0 xx1 xx2 xf0 xf1 xf2 hsa hga hoa hS1
          generalize wa.setCell ⟨w.heap.size, 0, none⟩ (.slice (some ⟨g5, 0, none⟩) n c5) = wb at *
          obtain ⟨xx0, xx1, xx2, xf0, xf1, xf2⟩ := hsb.bx.cells
          obtain ⟨rr0, rr1, rr2, rr3, rr4, -⟩ := hsb.br.cells
          obtain ⟨yy0, yy1, yy2, yg0, yg1, yg2⟩ := hsb.ry.cells
          obtain ⟨ee0, ee1, ee2, ee3, ee4, ef0, ef1, ef2, ef3, ef4⟩ := hsb.be.cells
          have hgbw : g5 < wb.heap.size := by rw [hzb.out]; omega
          have hlxb := hsb.bx.lt
          have hleb := hsb.be.lt
          obtain ⟨b0, b1, b2, b3, b4⟩ := (hob.slAt encEnt_len).2.2.getEnt hi
          simp only [Nat.zero_add] at b0 b1 b2 b3 b4
          have hqf := hob.frozen (i * 5 + 4)
          have hni1 : ¬ w.heap.size = g5 := by omega
          have hni2 : ¬ g5 = w.heap.size := by omega
          have hni3 : ¬ w.heap.size + 1 + 1 + 1 = g5 := by omega
          have hni4 : ¬ g5 = w.heap.size + 1 + 1 + 1 := by omega
          have hs5 := hsb.other (a := ⟨g5, i * 5 + 4, none⟩) (by show _ ≤ g5; omega) (.int .i64 (g.1[i].2.2.2.2 + r.2.2.2.2))
          have ho1 := hob.put1 encEnt_len hi (entG g.1[i] r.2.2.2.2) 4 (by omega) (.int .i64 (g.1[i].2.2.2.2 + r.2.2.2.2)) rfl
          have hgc := hgb.keep (w' := wb.setCell ⟨g5, i * 5 + 4, none⟩ (.int .i64 (g.1[i].2.2.2.2 + r.2.2.2.2))) (fun b hb => ne_set _ (by have := hD b hb; omega))
          have hg5 : GmD (wb.setCell ⟨g5, i * 5 + 4, none⟩ (.int .i64 (g.1[i].2.2.2.2 + r.2.2.2.2))) (fun b => D b ∨ b = g5) (some ⟨g5, 0, none⟩) n c5 B p d E q f (g.1.set i (entG g.1[i] r.2.2.2.2), g.2.1, g.2.2) := ⟨ho1.rdG encEnt_len (.inr rfl), hgc.fl.mono (fun b hb => .inl hb), hgc.la.mono (fun b hb => .inl hb), .inr ⟨g5, 0, rfl⟩⟩
          have hD5 : ∀ b, (D b ∨ b = g5) → b < (wb.setCell ⟨g5, i * 5 + 4, none⟩ (.int .i64 (g.1[i].2.2.2.2 + r.2.2.2.2))).heap.size := fun b hb => by
            have : (wb.setCell ⟨g5, i * 5 + 4, none⟩ (.int .i64 (g.1[i].2.2.2.2 + r.2.2.2.2))).heap.size = wb.heap.size := by simp
            rw [this]
            have := hzb.out
            rcases hb with hb | hb
            · have := hD b hb; omega
            · omega
          have hsp5 : ∀ b, (D b ∨ b = g5) → D b ∨ w.heap.size + 4 ≤ b := fun b hb => by
            rcases hb with hb | hb
            · exact .inl hb
            · exact .inr (by omega)
          clear ho1 hgc hgb hob hsb
          have hlen5 := hide (show n = (g.1.set i (entG g.1[i] r.2.2.2.2)).length by simp; exact hn'.out)
          have hzz := hide (show (wb.setCell ⟨g5, i * 5 + 4, none⟩ (.int .i64 (g.1[i].2.2.2.2 + r.2.2.2.2))).heap.size = wb.heap.size by simp)
          have hown5 : Own encEnt 5 82 ((wb.setCell ⟨g5, i * 5 + 4, none⟩ (.int .i64 (g.1[i].2.2.2.2 + r.2.2.2.2))).alloc (.cells #[] 82)).drew wb.heap.size (.slice (some ⟨wb.heap.size, 0, none⟩) 0 0) [] := by
            have h := own_empty encEnt 5 82 (wb.setCell ⟨g5, i * 5 + 4, none⟩ (.int .i64 (g.1[i].2.2.2.2 + r.2.2.2.2)))
            rw [hzz.out] at h
            exact h
          have hA5 := ((Below.refl (wb.setCell ⟨g5, i * 5 + 4, none⟩ (.int .i64 (g.1[i].2.2.2.2 + r.2.2.2.2))).heap.size (wb.setCell ⟨g5, i * 5 + 4, none⟩ (.int .i64 (g.1[i].2.2.2.2 + r.2.2.2.2)))).alloc (Nat.le_refl _) (.cells #[] 82)).drew
          have hsl5 : Hid (Sl encEnt 5 (((wb.setCell ⟨g5, i * 5 + 4, none⟩ (.int .i64 (g.1[i].2.2.2.2 + r.2.2.2.2))).alloc (.cells #[] 82)).drew) 0 (wb.setCell ⟨g5, i * 5 + 4, none⟩ (.int .i64 (g.1[i].2.2.2.2 + r.2.2.2.2))).heap.size (some ⟨g5, 0, none⟩) (g.1.set i (entG g.1[i] r.2.2.2.2))) := hide ((hg5.en.sl hD5).below hA5 (Nat.le_refl _))
          have hz5 := hs5.sz
          have hlx5 := hs5.bx.lt
          have hlr5 := hs5.br.lt
          have hly5 := hs5.ry.lt
          have hle5 := hs5.be.lt
          have hd5' := hide hD5
          have hsp5' := hide hsp5
          clear hD5 hsp5
          refine wp_region_T (fun _ => True) [] [] [] [0, 1, 2, 3, 4, 5, 6, 7, 8, 9, 10, 11, 12, 13, 14] (by kernel_rfl) (by kernel_rfl) (by kernel_rfl) trivial ?_; simp only [pickL, List.getElem?_cons_succ, List.getElem?_cons_zero]
          go_wp2_with (first
            | ((with_reducible refine wpT_q0 ?_ ?_ ?_ ?_); (focus rfl); (focus rfl); (focus rfl); intro K hK) | ((with_reducible refine wpT_x0 ?_ ?_ ?_); (focus rfl); (focus rfl); intro K hK) | ((with_reducible refine wpT_noL ?_ ?_); (focus (first | exact wanted_no _ _ _ rfl rfl rfl | exact wanted_un _ _ _ rfl rfl rfl)); simp only [setO, List.set_cons_succ, List.set_cons_zero]) | ((with_reducible refine wpT_q1 ?_ ?_ ?_ ?_); (focus exact wanted_yes _ _ _ rfl rfl rfl); (focus rfl); (focus rfl); intro K hK) | ((with_reducible refine wpT_x1 ?_ ?_ ?_); (focus exact wanted_yes _ _ _ rfl rfl rfl); (focus rfl); intro K hK) | ((with_reducible refine wpT_nil ?_); try dsimp only)
            | (at_builtin; generalize wb.setCell ⟨g5, i * 5 + 4, none⟩ (.int .i64 (g.1[i].2.2.2.2 + r.2.2.2.2)) = w5 at *; refine wpList_app encEnt_len (by omega) encEnt_one rfl _ _ 33 rfl 82 _ 40 Tryd.underlying33 infoEnt rfl wb.heap.size _ [] rfl hown5 0 w5.heap.size _ (g.1.set i (entG g.1[i] r.2.2.2.2)) _ _ rfl hlen5.out hsl5.out (by have h1 := hn4.out; have h2 := hlen5.out; simp only [List.length_nil, maxLen]; omega) (by have h1 := hzz.out; have h2 := hA5.size; omega) ?_)
            | fail)
          intro v6 w6 ho6 hgr6 hb6
          try rw [List.nil_append] at ho6
          obtain ⟨g6, c6, rfl, hg61, hg62, hc61, hc62⟩ := ho6.at0 (by have := hlen5.out; omega)
          rw [← hlen5.out] at ho6 hc61 ⊢
          unfold maxLen at hc62
          have hb56 := hA5.trans (hb6.mono (by have := hzz.out; omega))
          have hs6 := hs5.below hb56 hz5
          have hg6 := hg5.below hb56 hd5'.out
          have hz56 := hb56.size
          have hzz' := hzz.out
          clear xx0 xx1 xx2 xf0 xf1 xf2 rr0 rr1 rr2 rr3 rr4 yy0 yy1 yy2 yg0 yg1 yg2 ee0 ee1 ee2 ee3 ee4 ef0 ef1 ef2 ef3 ef4 hown5 hA5 hsl5 hgr6 hb6
          obtain ⟨xx0, xx1, xx2, xf0, xf1, xf2⟩ := hs6.bx.cells
          obtain ⟨yy0, yy1, yy2, yg0, yg1, yg2⟩ := hs6.ry.cells
          obtain ⟨ee0, ee1, ee2, ee3, ee4, ef0, ef1, ef2, ef3, ef4⟩ := hs6.be.cells
          try dsimp only at ee0 ee1 ee2 ee3 ee4
          have hk6 : k < (g.1.set i (entG g.1[i] r.2.2.2.2)).length := by have := hlen5.out; omega
          obtain ⟨d0, d1, d2, d3, d4⟩ := (ho6.slAt encEnt_len).2.2.getEnt hk6
          simp only [Nat.zero_add] at d0 d1 d2 d3 d4
          have df0 := ho6.frozen (k * 5)
          have df1 := ho6.frozen (k * 5 + 1)
          have df2 := ho6.frozen (k * 5 + 2)
          have df3 := ho6.frozen (k * 5 + 3)
          have df4 := ho6.frozen (k * 5 + 4)
          have hne1 : ¬ w.heap.size = g6 := by omega
          have hne2 : ¬ g6 = w.heap.size := by omega
          have hne3 : ¬ w.heap.size + 1 + 1 = g6 := by omega
          have hne4 : ¬ g6 = w.heap.size + 1 + 1 := by omega
          have hne5 : ¬ w.heap.size + 1 + 1 + 1 = g6 := by omega
          have hne6 : ¬ g6 = w.heap.size + 1 + 1 + 1 := by omega
          have hlx6 := hs6.bx.lt
          have hly6 := hs6.ry.lt
          have hle6 := hs6.be.lt
          have hfin : Hid (GmD (((((((w6.setCell ⟨w.heap.size, 0, none⟩ (.slice (some ⟨g6, 0, none⟩) n c6)).setCell ⟨g6, k * 5, none⟩ (.int .i64 (g.1[k].1, g.1[k].2.1, g.1[k].2.2.1, g.1[k].2.2.2.1, g.1[k].2.2.2.2 - r.2.2.2.2).1)).setCell ⟨g6, k * 5 + 1, none⟩ (.int .i64 (g.1[k].1, g.1[k].2.1, g.1[k].2.2.1, g.1[k].2.2.2.1, g.1[k].2.2.2.2 - r.2.2.2.2).2.1)).setCell ⟨g6, k * 5 + 2, none⟩ (.int .i64 (g.1[k].1, g.1[k].2.1, g.1[k].2.2.1, g.1[k].2.2.2.1, g.1[k].2.2.2.2 - r.2.2.2.2).2.2.1)).setCell ⟨g6, k * 5 + 3, none⟩ (.int .i64 (g.1[k].1, g.1[k].2.1, g.1[k].2.2.1, g.1[k].2.2.2.1, g.1[k].2.2.2.2 - r.2.2.2.2).2.2.2.1)).setCell ⟨g6, k * 5 + 4, none⟩ (.int .i64 (g.1[k].1, g.1[k].2.1, g.1[k].2.2.1, g.1[k].2.2.2.1, g.1[k].2.2.2.2 - r.2.2.2.2).2.2.2.2))) (fun b => (fun b => D b ∨ b = g5) b ∨ b = g6) (some ⟨g6, 0, none⟩) n c6 B p d E q f ((g.1.set i (entG g.1[i] r.2.2.2.2)).set k (g.1[k].1, g.1[k].2.1, g.1[k].2.2.1, g.1[k].2.2.2.1, g.1[k].2.2.2.2 - r.2.2.2.2), g.2.1, g.2.2) ∧ Below w.heap.size w (((((((w6.setCell ⟨w.heap.size, 0, none⟩ (.slice (some ⟨g6, 0, none⟩) n c6)).setCell ⟨g6, k * 5, none⟩ (.int .i64 (g.1[k].1, g.1[k].2.1, g.1[k].2.2.1, g.1[k].2.2.2.1, g.1[k].2.2.2.2 - r.2.2.2.2).1)).setCell ⟨g6, k * 5 + 1, none⟩ (.int .i64 (g.1[k].1, g.1[k].2.1, g.1[k].2.2.1, g.1[k].2.2.2.1, g.1[k].2.2.2.2 - r.2.2.2.2).2.1)).setCell ⟨g6, k * 5 + 2, none⟩ (.int .i64 (g.1[k].1, g.1[k].2.1, g.1[k].2.2.1, g.1[k].2.2.2.1, g.1[k].2.2.2.2 - r.2.2.2.2).2.2.1)).setCell ⟨g6, k * 5 + 3, none⟩ (.int .i64 (g.1[k].1, g.1[k].2.1, g.1[k].2.2.1, g.1[k].2.2.2.1, g.1[k].2.2.2.2 - r.2.2.2.2).2.2.2.1)).setCell ⟨g6, k * 5 + 4, none⟩ (.int .i64 (g.1[k].1, g.1[k].2.1, g.1[k].2.2.1, g.1[k].2.2.2.1, g.1[k].2.2.2.2 - r.2.2.2.2).2.2.2.2))) ∧ (((((((w6.setCell ⟨w.heap.size, 0, none⟩ (.slice (some ⟨g6, 0, none⟩) n c6)).setCell ⟨g6, k * 5, none⟩ (.int .i64 (g.1[k].1, g.1[k].2.1, g.1[k].2.2.1, g.1[k].2.2.2.1, g.1[k].2.2.2.2 - r.2.2.2.2).1)).setCell ⟨g6, k * 5 + 1, none⟩ (.int .i64 (g.1[k].1, g.1[k].2.1, g.1[k].2.2.1, g.1[k].2.2.2.1, g.1[k].2.2.2.2 - r.2.2.2.2).2.1)).setCell ⟨g6, k * 5 + 2, none⟩ (.int .i64 (g.1[k].1, g.1[k].2.1, g.1[k].2.2.1, g.1[k].2.2.2.1, g.1[k].2.2.2.2 - r.2.2.2.2).2.2.1)).setCell ⟨g6, k * 5 + 3, none⟩ (.int .i64 (g.1[k].1, g.1[k].2.1, g.1[k].2.2.1, g.1[k].2.2.2.1, g.1[k].2.2.2.2 - r.2.2.2.2).2.2.2.1)).setCell ⟨g6, k * 5 + 4, none⟩ (.int .i64 (g.1[k].1, g.1[k].2.1, g.1[k].2.2.1, g.1[k].2.2.2.1, g.1[k].2.2.2.2 - r.2.2.2.2).2.2.2.2))).heap.size = w6.heap.size) := by
            have hS1 : ∀ b, b ≠ w.heap.size → (w6.setCell ⟨w.heap.size, 0, none⟩ (.slice (some ⟨g6, 0, none⟩) n c6)).heap[b]? = w6.heap[b]? := fun b h => Below.heap_setCell w6 ⟨w.heap.size, 0, none⟩ _ b h
            have hS2 : ∀ b, b ≠ w.heap.size → b ≠ g6 → (((((((w6.setCell ⟨w.heap.size, 0, none⟩ (.slice (some ⟨g6, 0, none⟩) n c6)).setCell ⟨g6, k * 5, none⟩ (.int .i64 (g.1[k].1, g.1[k].2.1, g.1[k].2.2.1, g.1[k].2.2.2.1, g.1[k].2.2.2.2 - r.2.2.2.2).1)).setCell ⟨g6, k * 5 + 1, none⟩ (.int .i64 (g.1[k].1, g.1[k].2.1, g.1[k].2.2.1, g.1[k].2.2.2.1, g.1[k].2.2.2.2 - r.2.2.2.2).2.1)).setCell ⟨g6, k * 5 + 2, none⟩ (.int .i64 (g.1[k].1, g.1[k].2.1, g.1[k].2.2.1, g.1[k].2.2.2.1, g.1[k].2.2.2.2 - r.2.2.2.2).2.2.1)).setCell ⟨g6, k * 5 + 3, none⟩ (.int .i64 (g.1[k].1, g.1[k].2.1, g.1[k].2.2.1, g.1[k].2.2.2.1, g.1[k].2.2.2.2 - r.2.2.2.2).2.2.2.1)).setCell ⟨g6, k * 5 + 4, none⟩ (.int .i64 (g.1[k].1, g.1[k].2.1, g.1[k].2.2.1, g.1[k].2.2.2.1, g.1[k].2.2.2.2 - r.2.2.2.2).2.2.2.2))).heap[b]? = w6.heap[b]? := fun b h h2 => (heap_putCells_other (encEnt (g.1[k].1, g.1[k].2.1, g.1[k].2.2.1, g.1[k].2.2.2.1, g.1[k].2.2.2.2 - r.2.2.2.2)) (w6.setCell ⟨w.heap.size, 0, none⟩ (.slice (some ⟨g6, 0, none⟩) n c6)) g6 (k * 5) b h2).trans (hS1 b h)
            have h1 := ho6.keep (w' := w6.setCell ⟨w.heap.size, 0, none⟩ (.slice (some ⟨g6, 0, none⟩) n c6)) (fun b hb => hS1 b (by simp [Value.ownBlock] at hb; omega))
            have h2 := h1.put_ encEnt_len hkn (g.1[k].1, g.1[k].2.1, g.1[k].2.2.1, g.1[k].2.2.2.1, g.1[k].2.2.2.2 - r.2.2.2.2)
            have h3 : Own encEnt 5 82 (((((((w6.setCell ⟨w.heap.size, 0, none⟩ (.slice (some ⟨g6, 0, none⟩) n c6)).setCell ⟨g6, k * 5, none⟩ (.int .i64 (g.1[k].1, g.1[k].2.1, g.1[k].2.2.1, g.1[k].2.2.2.1, g.1[k].2.2.2.2 - r.2.2.2.2).1)).setCell ⟨g6, k * 5 + 1, none⟩ (.int .i64 (g.1[k].1, g.1[k].2.1, g.1[k].2.2.1, g.1[k].2.2.2.1, g.1[k].2.2.2.2 - r.2.2.2.2).2.1)).setCell ⟨g6, k * 5 + 2, none⟩ (.int .i64 (g.1[k].1, g.1[k].2.1, g.1[k].2.2.1, g.1[k].2.2.2.1, g.1[k].2.2.2.2 - r.2.2.2.2).2.2.1)).setCell ⟨g6, k * 5 + 3, none⟩ (.int .i64 (g.1[k].1, g.1[k].2.1, g.1[k].2.2.1, g.1[k].2.2.2.1, g.1[k].2.2.2.2 - r.2.2.2.2).2.2.2.1)).setCell ⟨g6, k * 5 + 4, none⟩ (.int .i64 (g.1[k].1, g.1[k].2.1, g.1[k].2.2.1, g.1[k].2.2.2.1, g.1[k].2.2.2.2 - r.2.2.2.2).2.2.2.2))) wb.heap.size (.slice (some ⟨g6, 0, none⟩) n c6) ((g.1.set i (entG g.1[i] r.2.2.2.2)).set k (g.1[k].1, g.1[k].2.1, g.1[k].2.2.1, g.1[k].2.2.2.1, g.1[k].2.2.2.2 - r.2.2.2.2)) := h2
            have hd := hd5'.out
            have hsp := hsp5'.out
            have hno : ∀ b, (fun b => D b ∨ b = g5) b → b ≠ w.heap.size ∧ b ≠ g6 := fun b hb => by
              have e1 := hd b hb
              rcases hsp b hb with e2 | e2
              · have e3 := hD b e2; exact ⟨by omega, by omega⟩
              · exact ⟨by omega, by omega⟩
            refine ⟨⟨h3.rdG encEnt_len (.inr rfl), (hg6.fl.keep (fun b hb => hS2 b (hno b hb).1 (hno b hb).2)).mono (fun b hb => .inl hb), (hg6.la.keep (fun b hb => hS2 b (hno b hb).1 (hno b hb).2)).mono (fun b hb => .inl hb), .inr ⟨g6, 0, rfl⟩⟩, ?_, ?_⟩
            · exact below_putCells (encEnt (g.1[k].1, g.1[k].2.1, g.1[k].2.2.1, g.1[k].2.2.2.1, g.1[k].2.2.2.2 - r.2.2.2.2)) (hs6.bel.setCell (Nat.le_refl _) _) (by omega)
            · exact (size_putCells (encEnt (g.1[k].1, g.1[k].2.1, g.1[k].2.2.1, g.1[k].2.2.2.1, g.1[k].2.2.2.2 - r.2.2.2.2)) _ _ _).trans (by simp)
          clear ho6 hs5 hg5 hs6 hg6
          go_wp2
          refine bodyPost_ret (v := .tuple #[.agg #[.slice (some ⟨g6, 0, none⟩) n c6, .slice B p d, .slice E q f], .int .i64 0]) (by simp [results, Tryd.results51, go_sem, yy0, yy1, yy2, yg0, yg1, yg2, hne1, hne2, hne3, hne4]) rfl ?_
          rw [hh.out]
          refine GmPost2.fin (x := w.heap.size) (y := w.heap.size + 1 + 1) (w9 := ((((((w6.setCell ⟨w.heap.size, 0, none⟩ (.slice (some ⟨g6, 0, none⟩) n c6)).setCell ⟨g6, k * 5, none⟩ (.int .i64 (g.1[k].1, g.1[k].2.1, g.1[k].2.2.1, g.1[k].2.2.2.1, g.1[k].2.2.2.2 - r.2.2.2.2).1)).setCell ⟨g6, k * 5 + 1, none⟩ (.int .i64 (g.1[k].1, g.1[k].2.1, g.1[k].2.2.1, g.1[k].2.2.2.1, g.1[k].2.2.2.2 - r.2.2.2.2).2.1)).setCell ⟨g6, k * 5 + 2, none⟩ (.int .i64 (g.1[k].1, g.1[k].2.1, g.1[k].2.2.1, g.1[k].2.2.2.1, g.1[k].2.2.2.2 - r.2.2.2.2).2.2.1)).setCell ⟨g6, k * 5 + 3, none⟩ (.int .i64 (g.1[k].1, g.1[k].2.1, g.1[k].2.2.1, g.1[k].2.2.2.1, g.1[k].2.2.2.2 - r.2.2.2.2).2.2.2.1)).setCell ⟨g6, k * 5 + 4, none⟩ (.int .i64 (g.1[k].1, g.1[k].2.1, g.1[k].2.2.1, g.1[k].2.2.2.1, g.1[k].2.2.2.2 - r.2.2.2.2).2.2.2.2))) (D' := fun b => (fun b => D b ∨ b = g5) b ∨ b = g6) 0 (by (repeat (first | (with_reducible exact Onl.refl _ _ _) | (with_reducible exact Onl.drewL _ _ _) | (with_reducible refine Onl.set ?_ (by simp) _) | with_reducible refine Onl.drew ?_))) hfin.out.2.1 (Nat.le_refl _) (by omega) hfin.out.1 (fun b hb => ?_)
          rw [hfin.out.2.2]
          rcases hb with hb | hb
          · have e1 := hd5'.out b hb
            rcases hsp5'.out b hb with e2 | e2
            · have e3 := hD b e2; exact ⟨by omega, by omega, .inl e2⟩
            · exact ⟨by omega, by omega, .inr ⟨by omega, by omega⟩⟩
          · exact ⟨by omega, by omega, .inr ⟨by omega, by omega⟩⟩
        · have hh := hide (show actG g k r = (g, 7) by
            rw [hact.out, if_neg (fun h => h.elim hikh.out (fun h => h hyes.out)), if_pos (by simpa using e2)])
          go_enter Tryd.func51, Tryd.ntmps51
          go_wp2_with fail
          generalize ((((w.alloc (.cells #[.slice (some ⟨b, off, none⟩) n c, .slice B p d, .slice E q f] 35)).alloc (.cells #[.int .i64 r.1, .int .i64 r.2.1, .int .i64 r.2.2.1, .int .i64 r.2.2.2.1, .int .i64 r.2.2.2.2] 37)).alloc (.cells #[.slice none 0 0, .slice none 0 0, .slice none 0 0] 35)).alloc (.cells #[.int .i64 g.1[k].1, .int .i64 g.1[k].2.1, .int .i64 g.1[k].2.2.1, .int .i64 g.1[k].2.2.2.1, .int .i64 g.1[k].2.2.2.2] 82)) = w4 at *
          have hsd := hide (hg4.en.rdn encEnt_len hD)
          refine (l2At_some (some ⟨b, off, none⟩) n c B p d E q f 0 w.heap.size g.1 r.2.2.2.1 _ hsd.out (by show w.heap.size ≤ w4.heap.size; omega) i hfi).mono ?_
          rintro e w5 ⟨rfl, hb5⟩
          have hs5 := hs4.below hb5 hz4
          have hg5 := hg4.below hb5 (fun b hb => by have := hD b hb; omega)
          have hz5 := hs5.sz
          clear xx0 xx1 xx2 xf0 xf1 xf2 rr0 rr1 rr2 rr3 rr4 yy0 yy1 yy2 yg0 yg1 yg2 ee0 ee1 ee2 ee3 ee4 ef0 ef1 ef2 ef3 ef4 hs4 hg4
          obtain ⟨xx0, xx1, xx2, xf0, xf1, xf2⟩ := hs5.bx.cells
          obtain ⟨rr0, rr1, rr2, rr3, rr4, -⟩ := hs5.br.cells
          obtain ⟨yy0, yy1, yy2, yg0, yg1, yg2⟩ := hs5.ry.cells
          obtain ⟨ee0, ee1, ee2, ee3, ee4, ef0, ef1, ef2, ef3, ef4⟩ := hs5.be.cells
          obtain ⟨b0, b1, b2, b3, b4⟩ := hg5.en.ent hi
          go_wp2
          refine wp_region_T (fun _ => True) [] [] [] [0, 1, 2, 3, 4, 5, 6, 7, 8, 9, 10, 11, 12, 13, 14, 15, 16] (by kernel_rfl) (by kernel_rfl) (by kernel_rfl) trivial ?_; simp only [pickL, List.getElem?_cons_succ, List.getElem?_cons_zero]
          go_wp2_with (first
            | ((with_reducible refine wpT_q0 ?_ ?_ ?_ ?_); (focus rfl); (focus rfl); (focus rfl); intro K hK) | ((with_reducible refine wpT_x0 ?_ ?_ ?_); (focus rfl); (focus rfl); intro K hK) | ((with_reducible refine wpT_noL ?_ ?_); (focus (first | exact wanted_no _ _ _ rfl rfl rfl | exact wanted_un _ _ _ rfl rfl rfl)); simp only [setO, List.set_cons_succ, List.set_cons_zero]) | ((with_reducible refine wpT_q1 ?_ ?_ ?_ ?_); (focus exact wanted_yes _ _ _ rfl rfl rfl); (focus rfl); (focus rfl); intro K hK) | ((with_reducible refine wpT_x1 ?_ ?_ ?_); (focus exact wanted_yes _ _ _ rfl rfl rfl); (focus rfl); intro K hK) | ((with_reducible refine wpT_nil ?_); try dsimp only)
            | (go_at_call 80; refine (l2Near_c g.1[k] g.1[i] _ ⟨hek.2.1, hek.2.2.1⟩ ⟨hei.2.1, hei.2.2.1⟩).mono ?_; rintro e w6 ⟨rfl, hb6⟩; have hb56 : Below w5.heap.size w5 w6 := (Below.drew (Below.refl _ _)).trans hb6; have hs6 := hs5.below hb56 hz5; have hg6 := hg5.below hb56 (fun b hb => by have := hD b hb; omega); have hz6 := hs6.sz; clear xx0 xx1 xx2 xf0 xf1 xf2 rr0 rr1 rr2 rr3 rr4 yy0 yy1 yy2 yg0 yg1 yg2 ee0 ee1 ee2 ee3 ee4 ef0 ef1 ef2 ef3 ef4; obtain ⟨xx0, xx1, xx2, xf0, xf1, xf2⟩ := hs6.bx.cells; obtain ⟨rr0, rr1, rr2, rr3, rr4, -⟩ := hs6.br.cells; obtain ⟨yy0, yy1, yy2, yg0, yg1, yg2⟩ := hs6.ry.cells; obtain ⟨ee0, ee1, ee2, ee3, ee4, ef0, ef1, ef2, ef3, ef4⟩ := hs6.be.cells)
            | fail)
          refine bodyPost_ret (v := .tuple #[.agg #[.slice (some ⟨b, off, none⟩) n c, .slice B p d, .slice E q f], .int .i64 7]) (by simp [results, Tryd.results51, go_sem, yy0, yy1, yy2, yg0, yg1, yg2]) rfl ?_
          rw [hh.out]
          exact GmPost2.fin (x := w.heap.size) (y := w.heap.size + 1 + 1) (w9 := w6) (D' := D) 7 (by (repeat (first | (with_reducible exact Onl.refl _ _ _) | (with_reducible exact Onl.drewL _ _ _) | (with_reducible refine Onl.set ?_ (by simp) _) | with_reducible refine Onl.drew ?_))) hs6.bel (Nat.le_refl _) (by omega) hg6 (fun b hb => by have := hD b hb; exact ⟨by omega, by omega, .inl hb⟩)

theorem l2Act_c (A : Option Addr) (n c : Nat) (B : Option Addr) (p d : Nat) (E : Option Addr) (q f : Nat) (D : Nat → Prop) (g : GameT) (k : Nat) (r : AskT) (w : World) (hg : GmD w D A n c B p d E q f g) (hD : ∀ b, D b → b < w.heap.size) (hok : okG' g) (hk : k < g.1.length) (hr : okA r) (hop : r.2.2.1 ≠ 1) :
    Calls Tryd.prog 51 #[.agg #[.slice A n c, .slice B p d, .slice E q f], .int .i64 (k : Int), .agg #[.int .i64 r.1, .int .i64 r.2.1, .int .i64 r.2.2.1, .int .i64 r.2.2.2.1, .int .i64 r.2.2.2.2]] w fun e w' => GmPost2 w D (actG g k r) e w' := by
  have h : r.2.2.1 = 2 ∨ r.2.2.1 = 3 ∨ r.2.2.1 = 4 ∨ r.2.2.1 = 5 := by have := hr; unfold okA at this; omega
  rcases h with h | h | h | h
  · exact l2ActMove A n c B p d E q f D g k r w hg hD hok hk hr h
  · exact l2ActTake A n c B p d E q f D g k r w hg hD hok hk hr h
  · exact l2ActHit A n c B p d E q f D g k r w hg hD hok hk hr h
  · exact l2ActGive A n c B p d E q f D g k r w hg hD hok hk hr h
end Go.Proofs.YtajmfonepnkofaaDoor
