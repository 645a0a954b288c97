/-
  'FnExactReplyOf' returns true, for every argument. (Printed by gen_ie.py.)
  Conditions: none.
-/
import Derived.Test.YtajmfonepnkofaaDoorIE
namespace Go.Proofs.YtajmfonepnkofaaDoor
open Go.RowKit Rg
set_option linter.unusedVariables false
set_option linter.unusedSimpArgs false

theorem Bx4.newE {w : World} {b : Nat} {v0 v1 v2 v3 : Value} {t : TypeId} (h : b = w.heap.size) : Bx4 (w.alloc (.cells #[v0, v1, v2, v3] t)) b v0 v1 v2 v3 t := by rw [h]; exact Bx4.made w v0 v1 v2 v3 t
theorem Bx4.app {w w' : World} {b : Nat} {v0 v1 v2 v3 : Value} {t : TypeId} (h : Bx4 w b v0 v1 v2 v3 t) (hb : Below w.heap.size w w') : Bx4 w' b v0 v1 v2 v3 t := h.below hb h.lt
theorem Bx4.sets {w : World} {b : Nat} {v0 v1 v2 v3 : Value} {t : TypeId} (h : Bx4 w b v0 v1 v2 v3 t) (u0 u1 u2 u3 : Value) : Bx4 ((((w.setCell ⟨b, 0, none⟩ u0).setCell ⟨b, 1, none⟩ u1).setCell ⟨b, 2, none⟩ u2).setCell ⟨b, 3, none⟩ u3) b u0 u1 u2 u3 t := by
  unfold Bx4 at *; simp [World.setCell, Array.getElem?_modify, h]
section
variable {u0 wC : World} {g8 : Nat} {z0 z1 z2 z3 v0 v1 v2 v3 : Value} {t : TypeId}
theorem fin4s (hbz : Bx4 wC g8 z0 z1 z2 z3 t) (h5 : Below u0.heap.size u0 wC) (hg8 : u0.heap.size ≤ g8) : Bx4 ((((wC.setCell ⟨g8, 0, none⟩ v0).setCell ⟨g8, 1, none⟩ v1).setCell ⟨g8, 2, none⟩ v2).setCell ⟨g8, 3, none⟩ v3) g8 v0 v1 v2 v3 t ∧ Below u0.heap.size u0 ((((wC.setCell ⟨g8, 0, none⟩ v0).setCell ⟨g8, 1, none⟩ v1).setCell ⟨g8, 2, none⟩ v2).setCell ⟨g8, 3, none⟩ v3) :=
  ⟨hbz.sets _ _ _ _, (((h5.setCell (p := ⟨g8, 0, none⟩) hg8 _).setCell (p := ⟨g8, 1, none⟩) hg8 _).setCell (p := ⟨g8, 2, none⟩) hg8 _).setCell (p := ⟨g8, 3, none⟩) hg8 _⟩
theorem fin4n (h5 : Below u0.heap.size u0 wC) : Bx4 (wC.alloc (.cells #[v0, v1, v2, v3] t)) wC.heap.size v0 v1 v2 v3 t ∧ Below u0.heap.size u0 (wC.alloc (.cells #[v0, v1, v2, v3] t)) := ⟨Bx4.made _ _ _ _ _ _, h5.alloc h5.size _⟩
end
set_option maxRecDepth 100000 in
set_option maxHeartbeats 8000000 in
theorem lawExactReplyOf (frm : Int) (A : Option Addr) (n c : Nat) (B : Option Addr) (p d : Nat) (E : Option Addr) (q f : Nat) (g : GameT) (r : ReqV) (w : World) (hn : n = g.1.length) (hp : p = g.2.1.length) (hq : q = g.2.2.length) (h0 : Sl encEnt 5 w 0 w.heap.size A g.1) (h1 : Sl encI 1 w 0 w.heap.size B g.2.1) (h2 : Sl encI 1 w 0 w.heap.size E g.2.2) (mn : n ≤ maxLen) (mp : p ≤ maxLen) (mq : q ≤ maxLen) :
    Calls Tryd.prog 3 #[.int .i64 frm, .agg #[.slice A n c, .slice B p d, .slice E q f], .agg #[.int .i64 r.1, .int .i64 r.2.1, .int .i64 r.2.2.1, .int .i64 r.2.2.2.1, .int .i64 r.2.2.2.2]] w fun e w' => e = .returned (.bool true) ∧ Below w.heap.size w w' := by
  have hAB : Below w.heap.size w ((w.alloc (.cells #[.slice A n c, .slice B p d, .slice E q f] 25)).alloc (.cells #[.int .i64 r.1, .int .i64 r.2.1, .int .i64 r.2.2.1, .int .i64 r.2.2.2.1, .int .i64 r.2.2.2.2] 27)) := ((Below.refl w.heap.size w).alloc (Nat.le_refl _) _).alloc (by simp) _
  have hx1 : Bx3 ((w.alloc (.cells #[.slice A n c, .slice B p d, .slice E q f] 25)).alloc (.cells #[.int .i64 r.1, .int .i64 r.2.1, .int .i64 r.2.2.1, .int .i64 r.2.2.2.1, .int .i64 r.2.2.2.2] 27)) w.heap.size (.slice A n c) (.slice B p d) (.slice E q f) 25 := (Bx3.made w (.slice A n c) (.slice B p d) (.slice E q f) 25).alloc _
  have hr1 : Bx5 ((w.alloc (.cells #[.slice A n c, .slice B p d, .slice E q f] 25)).alloc (.cells #[.int .i64 r.1, .int .i64 r.2.1, .int .i64 r.2.2.1, .int .i64 r.2.2.2.1, .int .i64 r.2.2.2.2] 27)) (w.heap.size + 1) r 27 := by
    have h2 := Bx5.made (w.alloc (.cells #[.slice A n c, .slice B p d, .slice E q f] 25)) r 27
    simp only [World.size_alloc] at h2
    exact h2
  have hz1 : w.heap.size + 2 ≤ ((w.alloc (.cells #[.slice A n c, .slice B p d, .slice E q f] 25)).alloc (.cells #[.int .i64 r.1, .int .i64 r.2.1, .int .i64 r.2.2.1, .int .i64 r.2.2.2.1, .int .i64 r.2.2.2.2] 27)).heap.size := by simp only [World.size_alloc]; omega
  have e0 := hide hn
  have e1 := hide hp
  have e2 := hide hq
  have s0 := hide h0
  have s1 := hide h1
  have s2 := hide h2
  clear h0 h1 h2 hn hp hq
  obtain ⟨a0, a1, a2, a3, ab, han⟩ : ∃ a0 a1 a2 a3 ab, ansR frm g r = ((a0, a1, a2, a3), ab) := ⟨_, _, _, _, _, rfl⟩
  have kS := hide (fun (A : Option Addr) (n c : Nat) (B : Option Addr) (p d : Nat) (E : Option Addr) (q f : Nat) (D : Nat → Prop) (W : World) (hg : GmD W D A n c B p d E q f g) (hD : ∀ b, D b → b < W.heap.size) (hbn : n ≤ 1048576) (hbp : p ≤ 1048576) (hbq : q ≤ 1048576) => show Calls Tryd.prog 6 #[.int .i64 frm, .agg #[.slice A n c, .slice B p d, .slice E q f], .agg #[.int .i64 r.1, .int .i64 r.2.1, .int .i64 r.2.2.1, .int .i64 r.2.2.2.1, .int .i64 r.2.2.2.2]] W (fun e w' => e = .returned (.tuple #[.agg #[.int .i64 a0, .int .i64 a1, .int .i64 a2, .int .i64 a3], .bool ab]) ∧ Below W.heap.size W w') from by
    have := ReplyOfS_c frm A n c B p d E q f D g r W hg hD hbn hbp hbq
    rw [han] at this
    exact this)
  have kI := hide (fun (A : Option Addr) (n c : Nat) (B : Option Addr) (p d : Nat) (E : Option Addr) (q f : Nat) (D : Nat → Prop) (W : World) (hg : GmD W D A n c B p d E q f g) (hD : ∀ b, D b → b < W.heap.size) (hbn : n ≤ 1048576) (hbp : p ≤ 1048576) (hbq : q ≤ 1048576) => show Calls Tryd.prog 9 #[.int .i64 frm, .agg #[.slice A n c, .slice B p d, .slice E q f], .agg #[.int .i64 r.1, .int .i64 r.2.1, .int .i64 r.2.2.1, .int .i64 r.2.2.2.1, .int .i64 r.2.2.2.2]] W (fun e w' => e = .returned (.tuple #[.agg #[.int .i64 a0, .int .i64 a1, .int .i64 a2, .int .i64 a3], .bool ab]) ∧ Below W.heap.size W w') from by
    have := ReplyOf_c frm A n c B p d E q f D g r W hg hD hbn hbp hbq
    rw [han] at this
    exact this)
  have kE := hide (fun W => eqReply_c (a0, a1, a2, a3) (a0, a1, a2, a3) W)
  clear han
  have qb : (ab != ab) = false := by simp
  obtain ⟨xx0, xx1, xx2, -, -, -⟩ := hx1.cells
  obtain ⟨rr0, rr1, rr2, rr3, rr4, -⟩ := hr1.cells
  go_enter Tryd.func3, Tryd.ntmps3
  go_wp2_with fail
  generalize ((w.alloc (.cells #[.slice A n c, .slice B p d, .slice E q f] 25)).alloc (.cells #[.int .i64 r.1, .int .i64 r.2.1, .int .i64 r.2.2.1, .int .i64 r.2.2.2.1, .int .i64 r.2.2.2.2] 27)) = w1 at *
  refine (szGame_c A n c B p d E q f w1 mn mp mq).mono ?_
  rintro e u0 ⟨hsz, hb0⟩
  have hzu := hb0.size
  have hB0 := hAB.trans (hb0.mono (by omega))
  have hx0 := hx1.below hb0 hx1.lt
  have hr0 := hr1.below hb0 hr1.lt
  clear xx0 xx1 xx2 rr0 rr1 rr2 rr3 rr4
  rcases hsz with ⟨hsz, rfl⟩ | ⟨hsz, rfl⟩
  · have hgl : g.1.length ≤ 1048576 ∧ g.2.1.length ≤ 1048576 ∧ g.2.2.length ≤ 1048576 := by have := e0.out; have := e1.out; have := e2.out; omega
    have hglh := hide hgl
    have kt := hide (fun W (h : Below w.heap.size w W) => toGame_c A n c B p d E q f w.heap.size g W e0.out e1.out e2.out (by omega) (by omega) (by omega) (s0.out.below h (Nat.le_refl _)) (s1.out.below h (Nat.le_refl _)) (s2.out.below h (Nat.le_refl _)) h.size)
    clear hgl
    have d1 : decide ((1048576 : Int) - (n : Int) - (p : Int) - (q : Int) < 0) = false := decide_eq_false (by omega)
    obtain ⟨xx0, xx1, xx2, -, -, -⟩ := hx0.cells
    obtain ⟨rr0, rr1, rr2, rr3, rr4, -⟩ := hr0.cells
    have hlx0 := hx0.lt
    have hlr0 := hr0.lt
    have hK0 : u0.heap.size ≤ u0.heap.size := Nat.le_refl _
    go_wp2
    refine wp_region_O (SinceB (u0.heap.size) _) [] [] [20, 22] (Ord.seg [0, 1, 3] (Ord.both 2 9 (Ord.seg [] (Ord.both 4 9 (Ord.seg [] (Ord.both 5 9 (Ord.seg [6, 7, 8, 9, 10, 11] Ord.done) (Ord.seg [5, 6, 7, 8, 10, 11] Ord.done))) (Ord.seg [4, 5, 6, 7, 8, 10, 11] Ord.done))) (Ord.seg [2, 4, 5, 6, 7, 8, 10, 11] Ord.done))) (by kernel_rfl) (by kernel_rfl) (by kernel_rfl) (SinceB.drew _ _) ?_
    go_wp2_with (first
      | ((with_reducible refine wpO_done ?_); (try dsimp only); (first | (generalize hWW : ((((wC.setCell ⟨u0.heap.size, 0, none⟩ (.int .i64 a0)).setCell ⟨u0.heap.size, 1, none⟩ (.int .i64 a1)).setCell ⟨u0.heap.size, 2, none⟩ (.int .i64 a2)).setCell ⟨u0.heap.size, 3, none⟩ (.int .i64 a3)) = u3; have hF : Bx4 u3 u0.heap.size (.int .i64 a0) (.int .i64 a1) (.int .i64 a2) (.int .i64 a3) 30 ∧ Below u0.heap.size u0 u3 := (by rw [← hWW]; exact fin4s hbz h0C (by omega)); clear hWW) | (generalize hWW : ((((wC.setCell ⟨wA.heap.size, 0, none⟩ (.int .i64 a0)).setCell ⟨wA.heap.size, 1, none⟩ (.int .i64 a1)).setCell ⟨wA.heap.size, 2, none⟩ (.int .i64 a2)).setCell ⟨wA.heap.size, 3, none⟩ (.int .i64 a3)) = u3; have hF : Bx4 u3 wA.heap.size (.int .i64 a0) (.int .i64 a1) (.int .i64 a2) (.int .i64 a3) 30 ∧ Below u0.heap.size u0 u3 := (by rw [← hWW]; exact fin4s hbz h0C (by omega)); clear hWW) | (generalize hWW : ((((wC.setCell ⟨wB.heap.size, 0, none⟩ (.int .i64 a0)).setCell ⟨wB.heap.size, 1, none⟩ (.int .i64 a1)).setCell ⟨wB.heap.size, 2, none⟩ (.int .i64 a2)).setCell ⟨wB.heap.size, 3, none⟩ (.int .i64 a3)) = u3; have hF : Bx4 u3 wB.heap.size (.int .i64 a0) (.int .i64 a1) (.int .i64 a2) (.int .i64 a3) 30 ∧ Below u0.heap.size u0 u3 := (by rw [← hWW]; exact fin4s hbz h0C (by omega)); clear hWW) | (generalize hWW : wC.alloc (.cells #[.int .i64 a0, .int .i64 a1, .int .i64 a2, .int .i64 a3] 30) = u3; have hF : Bx4 u3 wC.heap.size (.int .i64 a0) (.int .i64 a1) (.int .i64 a2) (.int .i64 a3) 30 ∧ Below u0.heap.size u0 u3 := (by rw [← hWW]; exact fin4n h0C); clear hWW)); obtain ⟨hb8, h03⟩ := hF; have hz03 := h03.size; have hB3 := hB0.trans (h03.mono (by omega)); have hx3 := hx0.below h03 hlx0; have hr3 := hr0.below h03 hlr0; clear xx0 xx1 xx2 rr0 rr1 rr2 rr3 rr4 hgA; obtain ⟨xx0, xx1, xx2, -, -, -⟩ := hx3.cells)
      | (go_at_call 6; have hq := hbB; refine (kS.out A2 _ c2 B2 _ d2 E2 _ f2 _ _ (hgA.below (K := wA.heap.size) (by (focus (repeat (first | (with_reducible exact Below.refl _ _) | (with_reducible refine Below.drew ?_) | (with_reducible refine Below.allocR ?_ _) | (with_reducible refine Below.appR ?_ hbB))))) (fun b hb => hb.2)) (fun b hb => by have h1 := hb.2; have h2 := hbB.size; (try simp only [World.size_alloc, World.size_drew] at h2); (try simp only [World.size_alloc, World.size_drew]); omega) hglh.out.1 hglh.out.2.1 hglh.out.2.2).mono ?_; rintro e wC ⟨rfl, hbC⟩; have hSC : SinceB (u0.heap.size) u0 wC := (by (focus (repeat (first | (with_reducible exact SinceB.refl _ _) | (with_reducible refine SinceB.drewR ?_) | (with_reducible refine SinceB.allocK ?_ hK0 _) | (with_reducible refine SinceB.app ?_ hbC hK0) | (with_reducible refine SinceB.app ?_ hbB hK0) | (with_reducible refine SinceB.app ?_ hbA hK0))))); have h0C : Below u0.heap.size u0 wC := (by (focus (repeat (first | (with_reducible exact Below.refl _ _) | (with_reducible refine Below.drew ?_) | (with_reducible refine Below.allocR ?_ _) | (with_reducible refine Below.appR ?_ hbC) | (with_reducible refine Below.appR ?_ hbB) | (with_reducible refine Below.appR ?_ hbA))))); have hzC := h0C.size; have hzA' := hbA.size; have hzB' := hbB.size; (try simp only [World.size_alloc, World.size_drew] at hzA'); (try simp only [World.size_alloc, World.size_drew] at hzB'); (first | (have hbz := (((Bx4.newE (v0 := .int .i64 0) (v1 := .int .i64 0) (v2 := .int .i64 0) (v3 := .int .i64 0) (t := 30) (w := u0.drew) (b := u0.heap.size) rfl).app hbA).app hbB).app hbC; obtain ⟨tt0, tt1, tt2, tt3, tg0, tg1, tg2, tg3⟩ := hbz.cells) | (have hbz := ((Bx4.newE (v0 := .int .i64 0) (v1 := .int .i64 0) (v2 := .int .i64 0) (v3 := .int .i64 0) (t := 30) (w := wA) (b := wA.heap.size) rfl).app hbB).app hbC; obtain ⟨tt0, tt1, tt2, tt3, tg0, tg1, tg2, tg3⟩ := hbz.cells) | (have hbz := (Bx4.newE (v0 := .int .i64 0) (v1 := .int .i64 0) (v2 := .int .i64 0) (v3 := .int .i64 0) (t := 30) (w := wB) (b := wB.heap.size) rfl).app hbC; obtain ⟨tt0, tt1, tt2, tt3, tg0, tg1, tg2, tg3⟩ := hbz.cells) | skip); have hK := hK)
      | (go_at_call 8; have hq := hbA; (fail_if_success (have := hbB)); refine (toReq_c r _).mono ?_; rintro e wB ⟨rfl, hbB⟩; have hSB : SinceB (u0.heap.size) u0 wB := (by (focus (repeat (first | (with_reducible exact SinceB.refl _ _) | (with_reducible refine SinceB.drewR ?_) | (with_reducible refine SinceB.allocK ?_ hK0 _) | (with_reducible refine SinceB.app ?_ hbB hK0) | (with_reducible refine SinceB.app ?_ hbA hK0))))); have h0B : Below u0.heap.size u0 wB := (by (focus (repeat (first | (with_reducible exact Below.refl _ _) | (with_reducible refine Below.drew ?_) | (with_reducible refine Below.allocR ?_ _) | (with_reducible refine Below.appR ?_ hbB) | (with_reducible refine Below.appR ?_ hbA))))); have hzB := h0B.size; have hK := hK)
      | (go_at_call 7; (fail_if_success (have := hbA)); refine (kt.out _ (by (focus (repeat (first | (with_reducible exact hB0) | (with_reducible refine Below.drew ?_) | (with_reducible refine Below.allocR ?_ _)))))).mono ?_; rintro e wA ⟨A2, c2, B2, d2, E2, f2, rfl, hgA, hbA⟩; have hSA : SinceB (u0.heap.size) u0 wA := (by (focus (repeat (first | (with_reducible exact SinceB.refl _ _) | (with_reducible refine SinceB.drewR ?_) | (with_reducible refine SinceB.allocK ?_ hK0 _) | (with_reducible refine SinceB.app ?_ hbA hK0))))); have h0A : Below u0.heap.size u0 wA := (by (focus (repeat (first | (with_reducible exact Below.refl _ _) | (with_reducible refine Below.drew ?_) | (with_reducible refine Below.allocR ?_ _) | (with_reducible refine Below.appR ?_ hbA))))); have hzA := h0A.size; have hK := hK)
      | ((with_reducible refine wpO_seg ?_); simp only [pickL, List.toList_toArray, List.getElem?_cons_succ, List.getElem?_cons_zero]) | ((with_reducible refine wpO_both ?_ ?_) <;> simp only [pickL, List.toList_toArray, List.getElem?_cons_succ, List.getElem?_cons_zero]) | ((with_reducible refine wpO_three ?_ ?_ ?_) <;> simp only [pickL, List.toList_toArray, List.getElem?_cons_succ, List.getElem?_cons_zero]) | ((with_reducible refine wpO_done ?_); try dsimp only) | (with_reducible refine SinceB.and_ ?_ ?_; (focus (repeat (first | (with_reducible exact SinceB.refl _ _) | (with_reducible assumption) | (with_reducible refine SinceB.drewR ?_) | ((with_reducible refine SinceB.alloc ?_ ?_ _); rotate_left; (focus (first | (with_reducible assumption) | (simp; done) | (simp; omega) | omega))) | ((with_reducible refine SinceB.set ?_ ?_ _); rotate_left; (focus (first | omega | (simp; done) | (simp; omega))))))); intro hS) | ((with_reducible refine wpT_noL ?_ ?_); (focus (first | exact wanted_no _ _ _ rfl rfl rfl | exact wanted_un _ _ _ rfl rfl rfl)); simp only [setO, List.set_cons_succ, List.set_cons_zero]) | ((with_reducible refine wpT_q0 ?_ ?_ ?_ ?_); (focus rfl); (focus rfl); (focus rfl); intro K hK) | ((with_reducible refine wpT_i ?_ ?_); (focus (refine ⟨_, _, _, _, _, _, _, _, rfl, rfl, rfl, rfl, rfl, ?_⟩; omega)); intro K hK) | ((with_reducible refine wpT_ncw ?_ ?_ ?_); (focus (first | exact .inl rfl | exact .inr (wanted_yes _ _ _ rfl rfl rfl))); (focus exact ⟨_, _, rfl, rfl, rfl⟩); intro K hK) | ((with_reducible apply wpT_lB); (focus rfl); (focus rfl); (focus rfl); (focus rfl); (focus (first | exact SinceB.drew _ _ | (with_reducible assumption))); (focus (simp <;> omega)); (focus go_simp); intro K hK) | ((with_reducible apply wpT_lwB); (focus exact wanted_yes _ _ _ rfl rfl rfl); (focus rfl); (focus rfl); (focus rfl); (focus (first | exact SinceB.drew _ _ | (with_reducible assumption))); (focus (simp <;> omega)); (focus go_simp); intro K hK) | ((with_reducible refine wpT_xs0 ?_ ?_ ?_); (focus rfl); (focus rfl); intro K hK) | ((with_reducible refine wpT_q1 ?_ ?_ ?_ ?_); (focus exact wanted_yes _ _ _ rfl rfl rfl); (focus rfl); (focus rfl); intro K hK) | ((with_reducible refine wpT_xs1 ?_ ?_ ?_); (focus exact wanted_yes _ _ _ rfl rfl rfl); (focus rfl); intro K hK) | ((with_reducible refine wpT_nil ?_); try dsimp only)
      | fail)
    all_goals
      refine (kt.out _ hB3).mono ?_
      rintro e u4 ⟨A4, c4, B4, d4, E4, f4, rfl, hg4, hb4⟩
      have hz4 := hb4.size
      have hA5 := (Below.refl u4.heap.size u4).alloc (Nat.le_refl _) (.cells #[.slice A4 g.1.length c4, .slice B4 g.2.1.length d4, .slice E4 g.2.2.length f4] 35)
      have hy5 := Bx3.made u4 (.slice A4 g.1.length c4) (.slice B4 g.2.1.length d4) (.slice E4 g.2.2.length f4) 35
      have hz5 : u4.heap.size + 1 ≤ (u4.alloc (.cells #[.slice A4 g.1.length c4, .slice B4 g.2.1.length d4, .slice E4 g.2.2.length f4] 35)).heap.size := by simp only [World.size_alloc]; omega
      have h35 := hb4.trans (hA5.mono hz4)
      have hB5 := hB3.trans (h35.mono (by omega))
      have hx5 := hx3.below h35 (by omega)
      have hr5 := hr3.below h35 (by omega)
      have hb85 := hb8.below h35 hb8.lt
      have hg5 := hide ((hg4.below hA5 (fun b hb => hb.2)).mono (fun b hb => (show u3.heap.size ≤ b ∧ b < u4.heap.size from hb)))
      clear xx0 xx1 xx2 hg4
      obtain ⟨xx0, xx1, xx2, -, -, -⟩ := hx5.cells
      obtain ⟨yy0, yy1, yy2, -, -, -⟩ := hy5.cells
      obtain ⟨rr0, rr1, rr2, rr3, rr4, -⟩ := hr5.cells
      go_wp2
      generalize u4.alloc (.cells #[.slice A4 g.1.length c4, .slice B4 g.2.1.length d4, .slice E4 g.2.2.length f4] 35) = u5 at *
      have hlx5 := hx5.lt
      have hlr5 := hr5.lt
      have hly5 := hy5.lt
      have hK0 : u5.heap.size ≤ u5.heap.size := Nat.le_refl _
      (try clear hbz)
      refine wp_region_O (SinceB (u5.heap.size) _) [] [] [31, 32] (Ord.seg [0, 1, 2] (Ord.both 3 8 (Ord.seg [] (Ord.both 4 8 (Ord.seg [5, 6, 7, 8, 9, 10] Ord.done) (Ord.seg [4, 5, 6, 7, 9, 10] Ord.done))) (Ord.seg [3, 4, 5, 6, 7, 9, 10] Ord.done))) (by kernel_rfl) (by kernel_rfl) (by kernel_rfl) (SinceB.drew _ _) ?_
      go_wp2_with (first
        | ((with_reducible refine wpO_done ?_); (try dsimp only); (first | (generalize hWW : ((((wG.setCell ⟨u5.heap.size, 0, none⟩ (.int .i64 a0)).setCell ⟨u5.heap.size, 1, none⟩ (.int .i64 a1)).setCell ⟨u5.heap.size, 2, none⟩ (.int .i64 a2)).setCell ⟨u5.heap.size, 3, none⟩ (.int .i64 a3)) = u7; have hF : Bx4 u7 u5.heap.size (.int .i64 a0) (.int .i64 a1) (.int .i64 a2) (.int .i64 a3) 30 ∧ Below u5.heap.size u5 u7 := (by rw [← hWW]; exact fin4s hbz h5G (by omega)); clear hWW) | (generalize hWW : ((((wG.setCell ⟨wF.heap.size, 0, none⟩ (.int .i64 a0)).setCell ⟨wF.heap.size, 1, none⟩ (.int .i64 a1)).setCell ⟨wF.heap.size, 2, none⟩ (.int .i64 a2)).setCell ⟨wF.heap.size, 3, none⟩ (.int .i64 a3)) = u7; have hF : Bx4 u7 wF.heap.size (.int .i64 a0) (.int .i64 a1) (.int .i64 a2) (.int .i64 a3) 30 ∧ Below u5.heap.size u5 u7 := (by rw [← hWW]; exact fin4s hbz h5G (by omega)); clear hWW) | (generalize hWW : wG.alloc (.cells #[.int .i64 a0, .int .i64 a1, .int .i64 a2, .int .i64 a3] 30) = u7; have hF : Bx4 u7 wG.heap.size (.int .i64 a0) (.int .i64 a1) (.int .i64 a2) (.int .i64 a3) 30 ∧ Below u5.heap.size u5 u7 := (by rw [← hWW]; exact fin4n h5G); clear hWW)); obtain ⟨hb11, h57⟩ := hF; have hz57 := h57.size; have hB7 := hB5.trans (h57.mono (by omega)); have hx7 := hx5.below h57 hlx5; have hy7 := hy5.below h57 hly5; have hb87 := hb85.below h57 hb85.lt; clear xx0 xx1 xx2 yy0 yy1 yy2 rr0 rr1 rr2 rr3 rr4; obtain ⟨xx0, xx1, xx2, -, -, -⟩ := hx7.cells; obtain ⟨yy0, yy1, yy2, -, -, -⟩ := hy7.cells; obtain ⟨ss0, ss1, ss2, ss3, -, -, -, -⟩ := hb87.cells; obtain ⟨vv0, vv1, vv2, vv3, -, -, -, -⟩ := hb11.cells)
        | (go_at_call 9; have hq := hbF; refine (kI.out A4 _ c4 B4 _ d4 E4 _ f4 _ _ (hg5.out.below (K := u5.heap.size) (by (focus (repeat (first | (with_reducible exact Below.refl _ _) | (with_reducible refine Below.drew ?_) | (with_reducible refine Below.allocR ?_ _) | (with_reducible refine Below.appR ?_ hbF))))) (fun b hb => by have := hb.2; omega)) (fun b hb => by have h1 := hb.2; have h2 := hbF.size; (try simp only [World.size_alloc, World.size_drew] at h2); (try simp only [World.size_alloc, World.size_drew]); omega) hglh.out.1 hglh.out.2.1 hglh.out.2.2).mono ?_; rintro e wG ⟨rfl, hbG⟩; have hSG : SinceB (u5.heap.size) u5 wG := (by (focus (repeat (first | (with_reducible exact SinceB.refl _ _) | (with_reducible refine SinceB.drewR ?_) | (with_reducible refine SinceB.allocK ?_ hK0 _) | (with_reducible refine SinceB.app ?_ hbG hK0) | (with_reducible refine SinceB.app ?_ hbF hK0))))); have h5G : Below u5.heap.size u5 wG := (by (focus (repeat (first | (with_reducible exact Below.refl _ _) | (with_reducible refine Below.drew ?_) | (with_reducible refine Below.allocR ?_ _) | (with_reducible refine Below.appR ?_ hbG) | (with_reducible refine Below.appR ?_ hbF))))); have hzG := h5G.size; have hzF' := hbF.size; (try simp only [World.size_alloc, World.size_drew] at hzF'); (first | (have hbz := ((Bx4.newE (v0 := .int .i64 0) (v1 := .int .i64 0) (v2 := .int .i64 0) (v3 := .int .i64 0) (t := 30) (w := u5.drew) (b := u5.heap.size) rfl).app hbF).app hbG; obtain ⟨tt0, tt1, tt2, tt3, tg0, tg1, tg2, tg3⟩ := hbz.cells) | (have hbz := (Bx4.newE (v0 := .int .i64 0) (v1 := .int .i64 0) (v2 := .int .i64 0) (v3 := .int .i64 0) (t := 30) (w := wF) (b := wF.heap.size) rfl).app hbG; obtain ⟨tt0, tt1, tt2, tt3, tg0, tg1, tg2, tg3⟩ := hbz.cells) | skip); have hK := hK)
        | (go_at_call 8; refine (toReq_c r _).mono ?_; rintro e wF ⟨rfl, hbF⟩; have hSF : SinceB (u5.heap.size) u5 wF := (by (focus (repeat (first | (with_reducible exact SinceB.refl _ _) | (with_reducible refine SinceB.drewR ?_) | (with_reducible refine SinceB.allocK ?_ hK0 _) | (with_reducible refine SinceB.app ?_ hbF hK0))))); have h5F : Below u5.heap.size u5 wF := (by (focus (repeat (first | (with_reducible exact Below.refl _ _) | (with_reducible refine Below.drew ?_) | (with_reducible refine Below.allocR ?_ _) | (with_reducible refine Below.appR ?_ hbF))))); have hzF := h5F.size; have hK := hK)
        | ((with_reducible refine wpO_seg ?_); simp only [pickL, List.toList_toArray, List.getElem?_cons_succ, List.getElem?_cons_zero]) | ((with_reducible refine wpO_both ?_ ?_) <;> simp only [pickL, List.toList_toArray, List.getElem?_cons_succ, List.getElem?_cons_zero]) | ((with_reducible refine wpO_three ?_ ?_ ?_) <;> simp only [pickL, List.toList_toArray, List.getElem?_cons_succ, List.getElem?_cons_zero]) | ((with_reducible refine wpO_done ?_); try dsimp only) | (with_reducible refine SinceB.and_ ?_ ?_; (focus (repeat (first | (with_reducible exact SinceB.refl _ _) | (with_reducible assumption) | (with_reducible refine SinceB.drewR ?_) | ((with_reducible refine SinceB.alloc ?_ ?_ _); rotate_left; (focus (first | (with_reducible assumption) | (simp; done) | (simp; omega) | omega))) | ((with_reducible refine SinceB.set ?_ ?_ _); rotate_left; (focus (first | omega | (simp; done) | (simp; omega))))))); intro hS) | ((with_reducible refine wpT_noL ?_ ?_); (focus (first | exact wanted_no _ _ _ rfl rfl rfl | exact wanted_un _ _ _ rfl rfl rfl)); simp only [setO, List.set_cons_succ, List.set_cons_zero]) | ((with_reducible refine wpT_q0 ?_ ?_ ?_ ?_); (focus rfl); (focus rfl); (focus rfl); intro K hK) | ((with_reducible refine wpT_i ?_ ?_); (focus (refine ⟨_, _, _, _, _, _, _, _, rfl, rfl, rfl, rfl, rfl, ?_⟩; omega)); intro K hK) | ((with_reducible refine wpT_ncw ?_ ?_ ?_); (focus (first | exact .inl rfl | exact .inr (wanted_yes _ _ _ rfl rfl rfl))); (focus exact ⟨_, _, rfl, rfl, rfl⟩); intro K hK) | ((with_reducible apply wpT_lB); (focus rfl); (focus rfl); (focus rfl); (focus rfl); (focus (first | exact SinceB.drew _ _ | (with_reducible assumption))); (focus (simp <;> omega)); (focus go_simp); intro K hK) | ((with_reducible apply wpT_lwB); (focus exact wanted_yes _ _ _ rfl rfl rfl); (focus rfl); (focus rfl); (focus rfl); (focus (first | exact SinceB.drew _ _ | (with_reducible assumption))); (focus (simp <;> omega)); (focus go_simp); intro K hK) | ((with_reducible refine wpT_xs0 ?_ ?_ ?_); (focus rfl); (focus rfl); intro K hK) | ((with_reducible refine wpT_q1 ?_ ?_ ?_ ?_); (focus exact wanted_yes _ _ _ rfl rfl rfl); (focus rfl); (focus rfl); intro K hK) | ((with_reducible refine wpT_xs1 ?_ ?_ ?_); (focus exact wanted_yes _ _ _ rfl rfl rfl); (focus rfl); intro K hK) | ((with_reducible refine wpT_nil ?_); try dsimp only)
        | fail)
      all_goals
        refine (kE.out u7).mono ?_
        rintro e u8 ⟨rfl, hb8'⟩
        (try simp only [decide_true])
        have hz8 := hb8'.size
        have hB8 := hB7.trans (hb8'.mono (by omega))
        have hx8 := hx7.below hb8' (by omega)
        have hy8 := hy7.below hb8' (by omega)
        have h58 := h57.trans (hb8'.mono hz57)
        have hz58 := h58.size
        have hg8 := hide (hg5.out.below (K := u5.heap.size) h58 (fun b hb => by have := hb.2; omega))
        clear xx0 xx1 xx2 yy0 yy1 yy2 ss0 ss1 ss2 ss3 vv0 vv1 vv2 vv3
        obtain ⟨xx0, xx1, xx2, -, -, -⟩ := hx8.cells
        obtain ⟨yy0, yy1, yy2, -, -, -⟩ := hy8.cells
        have hlx8 := hx8.lt
        have hly8 := hy8.lt
        go_wp2
        refine wp_region_T (SinceB (u8.heap.size) _) [] [] [46] [0, 1, 2, 3, 4] (by kernel_rfl) (by kernel_rfl) (by kernel_rfl) (SinceB.drew _ _) ?_; simp only [pickL, List.getElem?_cons_succ, List.getElem?_cons_zero]
        go_wp2_with (first
          | (go_at_call 11; have hq := hbQ; refine (eqGame_c A4 _ c4 B4 _ d4 E4 _ f4 AQ _ cQ BQ _ dQ EQ _ fQ _ _ g _ (hg8.out.below (K := u8.heap.size) hb8Q (fun b hb => by have := hb.2; omega)) (fun b hb => by have := hb.2; omega) hgQ (fun b hb => hb.2) hglh.out).mono ?_; rintro e u10 ⟨rfl, hb10⟩; have h810 : Below u8.heap.size u8 u10 := Below.appR hb8Q hb10; have hz10 := h810.size; have hS10 : SinceB (u8.heap.size) u8 u10 := (SinceB.refl _ _).below h810 (Nat.le_refl _); have hK := hK)
          | (go_at_call 7; (fail_if_success (have := hbQ)); refine (kt.out _ hB8.drew).mono ?_; rintro e u9 ⟨AQ, cQ, BQ, dQ, EQ, fQ, rfl, hgQ, hbQ⟩; have hb8Q : Below u8.heap.size u8 u9 := Below.appR (Below.drew (Below.refl _ _)) hbQ; have hz9 := hb8Q.size; have hS9 : SinceB (u8.heap.size) u8 u9 := (SinceB.refl _ _).below hb8Q (Nat.le_refl _); have hK := hK)
          | (with_reducible refine SinceB.and_ ?_ ?_; (focus (repeat (first | (with_reducible exact SinceB.refl _ _) | (with_reducible assumption) | (with_reducible refine SinceB.drewR ?_) | ((with_reducible refine SinceB.alloc ?_ ?_ _); rotate_left; (focus (first | (with_reducible assumption) | (simp; done) | (simp; omega) | omega))) | ((with_reducible refine SinceB.set ?_ ?_ _); rotate_left; (focus (first | omega | (simp; done) | (simp; omega))))))); intro hS) | ((with_reducible refine wpT_noL ?_ ?_); (focus (first | exact wanted_no _ _ _ rfl rfl rfl | exact wanted_un _ _ _ rfl rfl rfl)); simp only [setO, List.set_cons_succ, List.set_cons_zero]) | ((with_reducible refine wpT_q0 ?_ ?_ ?_ ?_); (focus rfl); (focus rfl); (focus rfl); intro K hK) | ((with_reducible refine wpT_i ?_ ?_); (focus (refine ⟨_, _, _, _, _, _, _, _, rfl, rfl, rfl, rfl, rfl, ?_⟩; omega)); intro K hK) | ((with_reducible apply wpT_lB); (focus rfl); (focus rfl); (focus rfl); (focus rfl); (focus (first | exact SinceB.drew _ _ | (with_reducible assumption))); (focus (simp <;> omega)); (focus go_simp); intro K hK) | ((with_reducible apply wpT_lwB); (focus exact wanted_yes _ _ _ rfl rfl rfl); (focus rfl); (focus rfl); (focus rfl); (focus (first | exact SinceB.drew _ _ | (with_reducible assumption))); (focus (simp <;> omega)); (focus go_simp); intro K hK) | ((with_reducible refine wpT_xs0 ?_ ?_ ?_); (focus rfl); (focus rfl); intro K hK) | ((with_reducible refine wpT_q1 ?_ ?_ ?_ ?_); (focus exact wanted_yes _ _ _ rfl rfl rfl); (focus rfl); (focus rfl); intro K hK) | ((with_reducible refine wpT_xs1 ?_ ?_ ?_); (focus exact wanted_yes _ _ _ rfl rfl rfl); (focus rfl); intro K hK) | ((with_reducible refine wpT_nil ?_); try dsimp only)
          | fail)
        go_ret
        exact ⟨rfl, hB8.trans (h810.mono (by omega))⟩
  · have d1 : decide ((-1 : Int) < 0) = true := by decide
    go_wp2
    go_ret
    exact ⟨rfl, hB0⟩
end Go.Proofs.YtajmfonepnkofaaDoor
