/-
  'act' (the program's game): words; what leaves the game as it is. (Printed by gen_hs.py.)
  Conditions: none.
-/
import Derived.Test.YtajmfonepnkofaaDoorHR
import Derived.Test.YtajmfonepnkofaaDoorRegN
namespace Go.Proofs.YtajmfonepnkofaaDoor
open Go.RowKit Rg
set_option linter.unusedVariables false
set_option linter.unusedSimpArgs false

/-- What 'act' leaves: the game in its box, changed in place. -/
def ActPost (bx lo gB gE : Nat) (w : World) (gc : GameT × Int) (e : Ending) (w' : World) : Prop := ∃ (A : Option Addr) (n : Nat),
  e = .returned (.int .i64 gc.2) ∧ Bx3 w' bx (.slice A n n) (.slice (some ⟨gB, 0, none⟩) 16 16) (.slice (some ⟨gE, 0, none⟩) 4 4) 35 ∧ GmO w' lo A n n (some ⟨gB, 0, none⟩) 16 16 (some ⟨gE, 0, none⟩) 4 4 gc.1 ∧ (∀ k, (Value.slice A n n).ownBlock = some k → k ≠ bx) ∧ Below lo w w'
theorem figure_none (A : Option Addr) (n c : Nat) (B : Option Addr) (p d : Nat) (E : Option Addr) (q f lo hi : Nat) (cl : Int) (es : List EntT) (w : World) (hs : RdN 5 (flatR encEnt) w lo hi A n c es) (hhi : hi ≤ w.heap.size) (h : figI es cl = none) :
    Calls Tryd.prog 70 #[.agg #[.slice A n c, .slice B p d, .slice E q f], .int .i64 cl] w fun e w' => e = .returned (.int .i64 (-1)) ∧ Below w.heap.size w w' := by
  have h2 := figure_c A n c B p d E q f (fun _ => True) ([], [], []) cl lo hi es w hs hhi
  rw [h] at h2
  exact h2
theorem figure_some (A : Option Addr) (n c : Nat) (B : Option Addr) (p d : Nat) (E : Option Addr) (q f lo hi : Nat) (cl : Int) (es : List EntT) (w : World) (hs : RdN 5 (flatR encEnt) w lo hi A n c es) (hhi : hi ≤ w.heap.size) (i : Nat) (h : figI es cl = some i) :
    Calls Tryd.prog 70 #[.agg #[.slice A n c, .slice B p d, .slice E q f], .int .i64 cl] w fun e w' => e = .returned (.int .i64 (i : Int)) ∧ Below w.heap.size w w' := by
  have h2 := figure_c A n c B p d E q f (fun _ => True) ([], [], []) cl lo hi es w hs hhi
  rw [h] at h2
  exact h2
theorem GmO.drew {w : World} {lo n gB gE : Nat} {g : GameT} {A : Option Addr} (h : GmO w lo A n n (some ⟨gB, 0, none⟩) 16 16 (some ⟨gE, 0, none⟩) 4 4 g) : GmO w.drew lo A n n (some ⟨gB, 0, none⟩) 16 16 (some ⟨gE, 0, none⟩) 4 4 g := ⟨h.en, h.fl, h.la, h.ab, h.ae, h.be⟩
theorem ActPost.dr {bx lo gB gE : Nat} {w w' : World} {gc : GameT × Int} {e : Ending} (h : ActPost bx lo gB gE w gc e w') : ActPost bx lo gB gE w gc e w'.drew := by
  obtain ⟨A, n, h1, h2, h3, h4, h5⟩ := h
  exact ⟨A, n, h1, h2, h3.drew, h4, h5.drew⟩
theorem ActPost.same {bx lo gB gE n : Nat} {A : Option Addr} {w w' : World} {g : GameT} (code : Int) (h2 : Bx3 w' bx (.slice A n n) (.slice (some ⟨gB, 0, none⟩) 16 16) (.slice (some ⟨gE, 0, none⟩) 4 4) 35) (h3 : GmO w' lo A n n (some ⟨gB, 0, none⟩) 16 16 (some ⟨gE, 0, none⟩) 4 4 g) (h4 : ∀ k, (Value.slice A n n).ownBlock = some k → k ≠ bx) (h5 : Below lo w w') :
    ActPost bx lo gB gE w (g, code) (.returned (.int .i64 code)) w' := ⟨A, n, rfl, h2, h3, h4, h5⟩

set_option maxRecDepth 100000 in
set_option maxHeartbeats 2000000 in
theorem actThere (bx lo gB gE : Nat) (A : Option Addr) (n : Nat) (g : GameT) (r : AskT) (w : World) (hbx : Bx3 w bx (.slice A n n) (.slice (some ⟨gB, 0, none⟩) 16 16) (.slice (some ⟨gE, 0, none⟩) 4 4) 35) (ho : GmO w lo A n n (some ⟨gB, 0, none⟩) 16 16 (some ⟨gE, 0, none⟩) 4 4 g)
    (hlo : lo ≤ bx) (hnA : ∀ k, (Value.slice A n n).ownBlock = some k → k ≠ bx) (hnB : gB ≠ bx) (hnE : gE ≠ bx) (hok : okG' g) (hr : okA r) (k : Nat) (hfi : figI g.1 r.1 = some k) (hop : r.2.2.1 = 1) :
    Calls Tryd.prog 44 #[.pointer (some ⟨bx, 0, none⟩), .agg #[.int .i64 r.1, .int .i64 r.2.1, .int .i64 r.2.2.1, .int .i64 r.2.2.2.1, .int .i64 r.2.2.2.2]] w fun e w' => ActPost bx lo gB gE w (behG g r) e w' := by
  have hA1 := (Below.refl w.heap.size w).alloc (Nat.le_refl _) (.cells #[.int .i64 r.1, .int .i64 r.2.1, .int .i64 r.2.2.1, .int .i64 r.2.2.2.1, .int .i64 r.2.2.2.2] 37)
  have hbr1 := Bx5.made w r 37
  have hbx1 := hbx.below hA1 hbx.lt
  have ho1 := hide (ho.below hA1)
  have hz1 : w.heap.size + 1 ≤ (w.alloc (.cells #[.int .i64 r.1, .int .i64 r.2.1, .int .i64 r.2.2.1, .int .i64 r.2.2.2.1, .int .i64 r.2.2.2.2] 37)).heap.size := by simp only [World.size_alloc]; omega
  have hbl := hbx.lt
  obtain ⟨xx0, xx1, xx2, xf0, xf1, xf2⟩ := hbx1.cells
  obtain ⟨rr0, rr1, rr2, rr3, rr4, -⟩ := hbr1.cells
  have hlx := hbx1.lt
  have hlr := hbr1.lt
  have hn' := hide ho.en.lenEq
  have hn4 : n ≤ 4 := by
    have h3 := inc_len hok.inc (fun e he => (hok.ent e he).1)
    have := hn'.out
    omega
  have hok' := hide hok
  have hrH := hide hr
  have hnA' := hide hnA
  have hoH := hide ho
  clear hok hr ho hbx hnA
  have hh := hide (show behG g r = (g, 4) by unfold behG; rw [hfi]; dsimp only; rw [if_pos hop])
  have hq1 : (r.2.2.1 == 1) = true := by simp [hop]
  clear hop
  go_enter Tryd.func44, Tryd.ntmps44
  go_wp2
  generalize w.alloc (.cells #[.int .i64 r.1, .int .i64 r.2.1, .int .i64 r.2.2.1, .int .i64 r.2.2.2.1, .int .i64 r.2.2.2.2] 37) = w1 at *
  refine wp_region_T (fun _ => True) [] [] [] [0, 1, 2, 3, 4, 5, 6] (by kernel_rfl) (by kernel_rfl) (by kernel_rfl) trivial ?_; simp only [pickL, List.getElem?_cons_succ, List.getElem?_cons_zero]
  go_wp2_with (first
    | (go_at_call 70; refine (figure_some _ n n (some ⟨gB, 0, none⟩) 16 16 (some ⟨gE, 0, none⟩) 4 4 lo w1.heap.size r.1 g.1 w1.drew (show RdN 5 (flatR encEnt) w1.drew lo w1.heap.size _ n n g.1 from Own.rdn (w := w1.drew) encEnt_len ho1.out.en.drew) (Nat.le_refl _) k hfi).mono ?_; rintro e w2 ⟨rfl, hb2⟩; have hb12 : Below w1.heap.size w1 w2 := Below.appR (Below.drew (Below.refl _ _)) hb2; have hbx2 := hbx1.below hb12 hlx; have hbr2 := hbr1.below hb12 hlr; have ho2 := hide (ho1.out.below hb12); have hz2 := hb12.size; have hB2 : Below lo w w2 := (hA1.mono (by omega)).trans (hb12.mono (by omega)); clear xx0 xx1 xx2 xf0 xf1 xf2 rr0 rr1 rr2 rr3 rr4; obtain ⟨xx0, xx1, xx2, xf0, xf1, xf2⟩ := hbx2.cells; obtain ⟨rr0, rr1, rr2, rr3, rr4, -⟩ := hbr2.cells; have hlx2 := hbx2.lt; have hlr2 := hbr2.lt)
    | ((with_reducible refine wpT_noL ?_ ?_); (focus (first | exact wanted_no _ _ _ rfl rfl rfl | exact wanted_un _ _ _ rfl rfl rfl)); simp only [setO, List.set_cons_succ, List.set_cons_zero]) | ((with_reducible refine wpT_q0 ?_ ?_ ?_ ?_); (focus rfl); (focus rfl); (focus rfl); intro K hK) | ((with_reducible refine wpT_i ?_ ?_); (focus (refine ⟨_, _, _, _, _, _, _, _, rfl, rfl, rfl, rfl, rfl, ?_⟩; omega)); intro K hK) | ((with_reducible refine wpT_ncw ?_ ?_ ?_); (focus (first | exact .inl rfl | exact .inr (wanted_yes _ _ _ rfl rfl rfl))); (focus exact ⟨_, _, rfl, rfl, rfl⟩); intro K hK) | ((with_reducible refine wpT_x0 ?_ ?_ ?_); (focus rfl); (focus rfl); intro K hK) | ((with_reducible refine wpT_q1 ?_ ?_ ?_ ?_); (focus exact wanted_yes _ _ _ rfl rfl rfl); (focus rfl); (focus rfl); intro K hK) | ((with_reducible refine wpT_x1 ?_ ?_ ?_); (focus exact wanted_yes _ _ _ rfl rfl rfl); (focus rfl); intro K hK) | ((with_reducible refine wpT_nil ?_); try dsimp only)
    | fail)
  go_ret
  rw [hh.out]
  have hP := ActPost.same 4 hbx2 ho2.out hnA'.out hB2
  (repeat (first | exact hP | refine ActPost.dr ?_))

set_option maxRecDepth 100000 in
set_option maxHeartbeats 2000000 in
theorem actOff (bx lo gB gE : Nat) (A : Option Addr) (n : Nat) (g : GameT) (r : AskT) (w : World) (hbx : Bx3 w bx (.slice A n n) (.slice (some ⟨gB, 0, none⟩) 16 16) (.slice (some ⟨gE, 0, none⟩) 4 4) 35) (ho : GmO w lo A n n (some ⟨gB, 0, none⟩) 16 16 (some ⟨gE, 0, none⟩) 4 4 g)
    (hlo : lo ≤ bx) (hnA : ∀ k, (Value.slice A n n).ownBlock = some k → k ≠ bx) (hnB : gB ≠ bx) (hnE : gE ≠ bx) (hok : okG' g) (hr : okA r) (hfi : figI g.1 r.1 = none) (hop : r.2.2.1 ≠ 1) :
    Calls Tryd.prog 44 #[.pointer (some ⟨bx, 0, none⟩), .agg #[.int .i64 r.1, .int .i64 r.2.1, .int .i64 r.2.2.1, .int .i64 r.2.2.2.1, .int .i64 r.2.2.2.2]] w fun e w' => ActPost bx lo gB gE w (behG g r) e w' := by
  have hA1 := (Below.refl w.heap.size w).alloc (Nat.le_refl _) (.cells #[.int .i64 r.1, .int .i64 r.2.1, .int .i64 r.2.2.1, .int .i64 r.2.2.2.1, .int .i64 r.2.2.2.2] 37)
  have hbr1 := Bx5.made w r 37
  have hbx1 := hbx.below hA1 hbx.lt
  have ho1 := hide (ho.below hA1)
  have hz1 : w.heap.size + 1 ≤ (w.alloc (.cells #[.int .i64 r.1, .int .i64 r.2.1, .int .i64 r.2.2.1, .int .i64 r.2.2.2.1, .int .i64 r.2.2.2.2] 37)).heap.size := by simp only [World.size_alloc]; omega
  have hbl := hbx.lt
  obtain ⟨xx0, xx1, xx2, xf0, xf1, xf2⟩ := hbx1.cells
  obtain ⟨rr0, rr1, rr2, rr3, rr4, -⟩ := hbr1.cells
  have hlx := hbx1.lt
  have hlr := hbr1.lt
  have hn' := hide ho.en.lenEq
  have hn4 : n ≤ 4 := by
    have h3 := inc_len hok.inc (fun e he => (hok.ent e he).1)
    have := hn'.out
    omega
  have hok' := hide hok
  have hrH := hide hr
  have hnA' := hide hnA
  have hoH := hide ho
  clear hok hr ho hbx hnA
  have hh := hide (show behG g r = (g, 5) by unfold behG; rw [hfi]; dsimp only; rw [if_neg hop])
  have hq1 : (r.2.2.1 == 1) = false := by simp [hop]
  clear hop
  go_enter Tryd.func44, Tryd.ntmps44
  go_wp2
  generalize w.alloc (.cells #[.int .i64 r.1, .int .i64 r.2.1, .int .i64 r.2.2.1, .int .i64 r.2.2.2.1, .int .i64 r.2.2.2.2] 37) = w1 at *
  refine wp_region_T (fun _ => True) [] [] [] [0, 1, 2, 3, 4, 5, 6] (by kernel_rfl) (by kernel_rfl) (by kernel_rfl) trivial ?_; simp only [pickL, List.getElem?_cons_succ, List.getElem?_cons_zero]
  go_wp2_with (first
    | (go_at_call 70; refine (figure_none _ n n (some ⟨gB, 0, none⟩) 16 16 (some ⟨gE, 0, none⟩) 4 4 lo w1.heap.size r.1 g.1 w1.drew (show RdN 5 (flatR encEnt) w1.drew lo w1.heap.size _ n n g.1 from Own.rdn (w := w1.drew) encEnt_len ho1.out.en.drew) (Nat.le_refl _) hfi).mono ?_; rintro e w2 ⟨rfl, hb2⟩; have hb12 : Below w1.heap.size w1 w2 := Below.appR (Below.drew (Below.refl _ _)) hb2; have hbx2 := hbx1.below hb12 hlx; have hbr2 := hbr1.below hb12 hlr; have ho2 := hide (ho1.out.below hb12); have hz2 := hb12.size; have hB2 : Below lo w w2 := (hA1.mono (by omega)).trans (hb12.mono (by omega)); clear xx0 xx1 xx2 xf0 xf1 xf2 rr0 rr1 rr2 rr3 rr4; obtain ⟨xx0, xx1, xx2, xf0, xf1, xf2⟩ := hbx2.cells; obtain ⟨rr0, rr1, rr2, rr3, rr4, -⟩ := hbr2.cells; have hlx2 := hbx2.lt; have hlr2 := hbr2.lt)
    | ((with_reducible refine wpT_noL ?_ ?_); (focus (first | exact wanted_no _ _ _ rfl rfl rfl | exact wanted_un _ _ _ rfl rfl rfl)); simp only [setO, List.set_cons_succ, List.set_cons_zero]) | ((with_reducible refine wpT_q0 ?_ ?_ ?_ ?_); (focus rfl); (focus rfl); (focus rfl); intro K hK) | ((with_reducible refine wpT_i ?_ ?_); (focus (refine ⟨_, _, _, _, _, _, _, _, rfl, rfl, rfl, rfl, rfl, ?_⟩; omega)); intro K hK) | ((with_reducible refine wpT_ncw ?_ ?_ ?_); (focus (first | exact .inl rfl | exact .inr (wanted_yes _ _ _ rfl rfl rfl))); (focus exact ⟨_, _, rfl, rfl, rfl⟩); intro K hK) | ((with_reducible refine wpT_x0 ?_ ?_ ?_); (focus rfl); (focus rfl); intro K hK) | ((with_reducible refine wpT_q1 ?_ ?_ ?_ ?_); (focus exact wanted_yes _ _ _ rfl rfl rfl); (focus rfl); (focus rfl); intro K hK) | ((with_reducible refine wpT_x1 ?_ ?_ ?_); (focus exact wanted_yes _ _ _ rfl rfl rfl); (focus rfl); intro K hK) | ((with_reducible refine wpT_nil ?_); try dsimp only)
    | fail)
  go_ret
  rw [hh.out]
  have hP := ActPost.same 5 hbx2 ho2.out hnA'.out hB2
  (repeat (first | exact hP | refine ActPost.dr ?_))
end Go.Proofs.YtajmfonepnkofaaDoor
