/-
  'act' whole; 'GameDo' of a game that is ok. (Printed by gen_hy.py.)
  Conditions: none.
-/
import Derived.Test.YtajmfonepnkofaaDoorHX
namespace Go.Proofs.YtajmfonepnkofaaDoor
open Go.RowKit Rg
set_option linter.unusedVariables false
set_option linter.unusedSimpArgs false

theorem act_c (bx lo gB gE : Nat) (A : Option Addr) (n : Nat) (g : GameT) (r : AskT) (w : World) (hbx : Bx3 w bx (.slice A n n) (.slice (some ⟨gB, 0, none⟩) 16 16) (.slice (some ⟨gE, 0, none⟩) 4 4) 35) (ho : GmO w lo A n n (some ⟨gB, 0, none⟩) 16 16 (some ⟨gE, 0, none⟩) 4 4 g)
    (hlo : lo ≤ bx) (hnA : ∀ k, (Value.slice A n n).ownBlock = some k → k ≠ bx) (hnB : gB ≠ bx) (hnE : gE ≠ bx) (hok : okG' g) (hr : okA r) :
    Calls Tryd.prog 44 #[.pointer (some ⟨bx, 0, none⟩), .agg #[.int .i64 r.1, .int .i64 r.2.1, .int .i64 r.2.2.1, .int .i64 r.2.2.2.1, .int .i64 r.2.2.2.2]] w fun e w' => ActPost bx lo gB gE w (behG g r) e w' := by
  have hops : r.2.2.1 = 1 ∨ r.2.2.1 = 2 ∨ r.2.2.1 = 3 ∨ r.2.2.1 = 4 ∨ r.2.2.1 = 5 := by have := hr; unfold okA at this; omega
  cases hfi : figI g.1 r.1 with
  | none =>
    by_cases hop : r.2.2.1 = 1
    · exact actJoin bx lo gB gE A n g r w hbx ho hlo hnA hnB hnE hok hr hfi hop
    · exact actOff bx lo gB gE A n g r w hbx ho hlo hnA hnB hnE hok hr hfi hop
  | some k =>
    rcases hops with hop | hop | hop | hop | hop
    · exact actThere bx lo gB gE A n g r w hbx ho hlo hnA hnB hnE hok hr k hfi hop
    · exact actMove bx lo gB gE A n g r w hbx ho hlo hnA hnB hnE hok hr k hfi hop
    · exact actTake bx lo gB gE A n g r w hbx ho hlo hnA hnB hnE hok hr k hfi hop
    · cases hfj : figI g.1 r.2.2.2.1 with
      | none => exact actFarNone bx lo gB gE A n g r w hbx ho hlo hnA hnB hnE hok hr k hfi (.inl hop) hfj
      | some i =>
        by_cases hik : i = k
        · exact actFarSelf bx lo gB gE A n g r w hbx ho hlo hnA hnB hnE hok hr k hfi (.inl hop) i hfj hik
        · by_cases hn : nearE (g.1[k]'(figI_lt hfi)) (g.1[i]'(figI_lt hfj))
          · exact actHit bx lo gB gE A n g r w hbx ho hlo hnA hnB hnE hok hr k hfi hop i hfj hik (fun _ _ => hn)
          · exact actFar bx lo gB gE A n g r w hbx ho hlo hnA hnB hnE hok hr k hfi (.inl hop) i hfj hik (fun _ _ => hn)
    · cases hfj : figI g.1 r.2.2.2.1 with
      | none => exact actFarNone bx lo gB gE A n g r w hbx ho hlo hnA hnB hnE hok hr k hfi (.inr hop) hfj
      | some i =>
        by_cases hik : i = k
        · exact actFarSelf bx lo gB gE A n g r w hbx ho hlo hnA hnB hnE hok hr k hfi (.inr hop) i hfj hik
        · by_cases hn : nearE (g.1[k]'(figI_lt hfi)) (g.1[i]'(figI_lt hfj))
          · exact actGive bx lo gB gE A n g r w hbx ho hlo hnA hnB hnE hok hr k hfi hop i hfj hik (fun _ _ => hn)
          · exact actFar bx lo gB gE A n g r w hbx ho hlo hnA hnB hnE hok hr k hfi (.inr hop) i hfj hik (fun _ _ => hn)

/-- What 'GameDo' leaves: a game of the call's own, and a code. -/
def DoPost (w : World) (gc : GameT × Int) (e : Ending) (w' : World) : Prop := ∃ (A : Option Addr) (n gB gE : Nat),
  e = .returned (.tuple #[.agg #[.slice A n n, .slice (some ⟨gB, 0, none⟩) 16 16, .slice (some ⟨gE, 0, none⟩) 4 4], .int .i64 gc.2]) ∧ GmO w' w.heap.size A n n (some ⟨gB, 0, none⟩) 16 16 (some ⟨gE, 0, none⟩) 4 4 gc.1 ∧ Below w.heap.size w w'
theorem DoPost.fin {w w9 : World} {A : Option Addr} {n gB gE lo : Nat} {g : GameT} (code : Int) {u0 u1 u2 : Value} (ho : GmO w9 lo A n n (some ⟨gB, 0, none⟩) 16 16 (some ⟨gE, 0, none⟩) 4 4 g) (hlo : w.heap.size + 1 + 1 < lo) (hB : Below w.heap.size w w9) :
    DoPost w (g, code) (.returned (.tuple #[.agg #[.slice A n n, .slice (some ⟨gB, 0, none⟩) 16 16, .slice (some ⟨gE, 0, none⟩) 4 4], .int .i64 code])) (((w9.setCell ⟨w.heap.size + 1 + 1, 0, none⟩ u0).setCell ⟨w.heap.size + 1 + 1, 1, none⟩ u1).setCell ⟨w.heap.size + 1 + 1, 2, none⟩ u2) := by
  have hO : Onl (w.heap.size + 1 + 1) (w.heap.size + 1 + 1) w9 (((w9.setCell ⟨w.heap.size + 1 + 1, 0, none⟩ u0).setCell ⟨w.heap.size + 1 + 1, 1, none⟩ u1).setCell ⟨w.heap.size + 1 + 1, 2, none⟩ u2) := by (repeat (first | (with_reducible exact Onl.refl _ _ _) | (with_reducible exact Onl.drewL _ _ _) | (with_reducible refine Onl.set ?_ (by simp) _) | with_reducible refine Onl.drew ?_))
  exact ⟨A, n, gB, gE, rfl, (ho.keep (fun b hb _ => hO.blk b (by omega) (by omega))).mono (by omega), hO.bel _ _ (by omega) (by omega) hB⟩
theorem DoPost.al {w w' : World} {gc : GameT × Int} {e : Ending} (h : DoPost w gc e w') (o : Obj) : DoPost w gc e (w'.alloc o) := by
  obtain ⟨A, n, gB, gE, h1, h2, h3⟩ := h
  exact ⟨A, n, gB, gE, h1, h2.below ((Below.refl _ _).alloc (Nat.le_refl _) o), h3.alloc h3.size o⟩
theorem DoPost.dr {w w' : World} {gc : GameT × Int} {e : Ending} (h : DoPost w gc e w') : DoPost w gc e w'.drew := by
  obtain ⟨A, n, gB, gE, h1, h2, h3⟩ := h
  exact ⟨A, n, gB, gE, h1, h2.drew, h3.drew⟩
set_option maxRecDepth 100000 in
set_option maxHeartbeats 2000000 in
theorem GameDo_c (A : Option Addr) (n c : Nat) (B : Option Addr) (p d : Nat) (E : Option Addr) (q f : Nat) (D : Nat → Prop) (g : GameT) (r : AskT) (w : World) (hg : GmD w D A n c B p d E q f g) (hD : ∀ b, D b → b < w.heap.size) (hok : okG g) (hr : okNA r) :
    Calls Tryd.prog 15 #[.agg #[.slice A n c, .slice B p d, .slice E q f], .agg #[.int .i64 r.1, .int .i64 r.2.1, .int .i64 r.2.2.1, .int .i64 r.2.2.2.1, .int .i64 r.2.2.2.2]] w fun e w' => DoPost w (doG g r) e w' := by
  have hs3 := Gb.made w (.slice A n c) (.slice B p d) (.slice E q f) r
  have hg3 := hg.below hs3.bel hD
  obtain ⟨xx0, xx1, xx2, xf0, xf1, xf2⟩ := hs3.bx.cells
  obtain ⟨rr0, rr1, rr2, rr3, rr4, -⟩ := hs3.br.cells
  obtain ⟨yy0, yy1, yy2, yg0, yg1, yg2⟩ := hs3.ry.cells
  have hz3 := hs3.sz
  have hp' : p = 16 := by have h1 := hg.fl.len; have h2 := hok.n16; omega
  have hq' : q = 4 := by have h1 := hg.la.len; have h2 := hok.n4; omega
  have hokN : okN r = true := (okN_iff r).2 hr
  have hokh := hide hok
  have hrh := hide hr
  subst hp'
  subst hq'
  clear hok hr hg
  go_enter Tryd.func15, Tryd.ntmps15
  go_wp2_with fail
  generalize (((w.alloc (.cells #[.slice A n c, .slice B 16 d, .slice E 4 f] 35)).alloc (.cells #[.int .i64 r.1, .int .i64 r.2.1, .int .i64 r.2.2.1, .int .i64 r.2.2.2.1, .int .i64 r.2.2.2.2] 37)).alloc (.cells #[.slice none 0 0, .slice none 0 0, .slice none 0 0] 35)) = w3 at *
  refine (GameOk_c A n c B 16 d E 4 f D g w3 hg3 (fun b hb => by have := hD b hb; omega) hokh.out).mono ?_
  rintro e w4 ⟨rfl, hb4⟩
  have hs4 := hs3.below hb4 hz3
  have hg4 := hg3.below hb4 (fun b hb => by have := hD b hb; omega)
  have hz4 := hs4.sz
  clear xx0 xx1 xx2 xf0 xf1 xf2 rr0 rr1 rr2 rr3 rr4 yy0 yy1 yy2 yg0 yg1 yg2
  obtain ⟨xx0, xx1, xx2, xf0, xf1, xf2⟩ := hs4.bx.cells
  obtain ⟨rr0, rr1, rr2, rr3, rr4, -⟩ := hs4.br.cells
  go_wp2_with fail
  refine (okOrNull_c r.1 r.2.1 r.2.2.1 r.2.2.2.1 r.2.2.2.2 w4).mono ?_
  rintro e w5 ⟨rfl, hb5⟩
  rw [show okN (r.1, r.2.1, r.2.2.1, r.2.2.2.1, r.2.2.2.2) = true from hokN]
  have hs5 := hs4.below hb5 hz4
  have hg5 := hg4.below hb5 (fun b hb => by have := hD b hb; omega)
  have hz5 := hs5.sz
  clear xx0 xx1 xx2 xf0 xf1 xf2 rr0 rr1 rr2 rr3 rr4
  obtain ⟨xx0, xx1, xx2, xf0, xf1, xf2⟩ := hs5.bx.cells
  go_wp2_with fail
  refine (copyOf_c A n c B 16 d E 4 f D g w5 hg5 (fun b hb => by have := hD b hb; omega) (okGD_len hokh.out)).mono ?_
  rintro e w6 ⟨A6, B6, E6, rfl, ho6, hb6⟩
  have hs6 := hs5.below hb6 hz5
  have hg6 := hg5.below hb6 (fun b hb => by have := hD b hb; omega)
  have hz6 := hb6.size
  obtain ⟨gB, rfl, hgB1, hgB2⟩ := ho6.fl.addrAt (show 0 < 16 by omega)
  obtain ⟨gE, rfl, hgE1, hgE2⟩ := ho6.la.addrAt (show 0 < 4 by omega)
  have hlo6 : w.heap.size + 1 + 1 < w5.heap.size + 1 + 1 := by omega
  have hA7 := (Below.refl w6.heap.size w6).alloc (Nat.le_refl _) (.cells #[.slice A6 n n, .slice (some ⟨gB, 0, none⟩) 16 16, .slice (some ⟨gE, 0, none⟩) 4 4] 35)
  have hbx7 := Bx3.made w6 (.slice A6 n n) (.slice (some ⟨gB, 0, none⟩) 16 16) (.slice (some ⟨gE, 0, none⟩) 4 4) 35
  have ho7 := hide (ho6.below hA7)
  have hs7 := hs6.below hA7 (by omega)
  have hg7 := hg6.below hA7 (fun b hb => by have := hD b hb; omega)
  have hnA7 := hide (fun k hk => Nat.ne_of_lt (ho6.en.lt k hk).2)
  have hz7 : (w6.alloc (.cells #[.slice A6 n n, .slice (some ⟨gB, 0, none⟩) 16 16, .slice (some ⟨gE, 0, none⟩) 4 4] 35)).heap.size = w6.heap.size + 1 := by simp
  have hz7h := hide hz7
  clear xx0 xx1 xx2 xf0 xf1 xf2 hz7
  obtain ⟨xx0, xx1, xx2, xf0, xf1, xf2⟩ := hs6.bx.cells
  obtain ⟨rr0, rr1, rr2, rr3, rr4, -⟩ := hs6.br.cells
  obtain ⟨yy0, yy1, yy2, yg0, yg1, yg2⟩ := hs6.ry.cells
  have hl0 : w.heap.size < w6.heap.size := by have := hs6.sz; omega
  have hl1 : w.heap.size + 1 < w6.heap.size := by have := hs6.sz; omega
  have hl2 : w.heap.size + 1 + 1 < w6.heap.size := by have := hs6.sz; omega
  have ho6h := hide ho6
  clear ho6
  by_cases hn : r = noA
  · have hh := hide (show doG g r = (g, 2) by unfold doG; rw [if_pos hn])
    have hT : ∀ (W : World), (binOp .eql 37 (.agg #[.int .i64 r.1, .int .i64 r.2.1, .int .i64 r.2.2.1, .int .i64 r.2.2.2.1, .int .i64 r.2.2.2.2]) (.agg #[.int .i64 0, .int .i64 0, .int .i64 0, .int .i64 0, .int .i64 0])).run Tryd.prog W = .ok (.bool true) W := fun W => (run_eq_req r noA W).trans (by rw [decide_eq_true hn])
    have hnh := hide hn
    clear hn
    go_wp2
    refine bodyPost_ret (v := .tuple #[.agg #[.slice A6 n n, .slice (some ⟨gB, 0, none⟩) 16 16, .slice (some ⟨gE, 0, none⟩) 4 4], .int .i64 2]) (by simp [results, Tryd.results15, go_sem, yy0, yy1, yy2, yg0, yg1, yg2, hl2]) rfl ?_
    rw [hh.out]
    have hP := DoPost.fin (u0 := .slice A6 n n) (u1 := .slice (some ⟨gB, 0, none⟩) 16 16) (u2 := .slice (some ⟨gE, 0, none⟩) 4 4) 2 ho6h.out hlo6 hs6.bel
    exact hP.al _
  · have hra : okA r := hrh.out.resolve_left hn
    obtain ⟨cl, hcl⟩ : ∃ cl : Nat, r.1 - 1 = (cl : Int) := ⟨(r.1 - 1).toNat, by have := hra.1.1; omega⟩
    have hcl4 : cl < g.2.2.length := by have h2 := hokh.out.n4; have := hra.1.2; omega
    obtain ⟨bE, offE, rfl, hDbE⟩ := hg6.la.addr hcl4
    have hlast := hg6.la.i64 hcl4
    have hgd := getD_at hcl4 (0 : Int)
    have htn : (r.1 - 1).toNat = cl := by omega
    have hcl4' : cl < 4 := by have h2 := hokh.out.n4; omega
    have hr1 := hra.1
    have hr2 := hra.2.1
    unfold rng at hr1 hr2
    have hrah := hide hra
    have htn' := hide htn
    have hgd' := hide hgd
    have hneH := hide hn
    have hT : ∀ (W : World), (binOp .eql 37 (.agg #[.int .i64 r.1, .int .i64 r.2.1, .int .i64 r.2.2.1, .int .i64 r.2.2.2.1, .int .i64 r.2.2.2.2]) (.agg #[.int .i64 0, .int .i64 0, .int .i64 0, .int .i64 0, .int .i64 0])).run Tryd.prog W = .ok (.bool false) W := fun W => (run_eq_req r noA W).trans (by rw [decide_eq_false hneH.out])
    have hEw := hD bE hDbE
    have hg6h := hide hg6
    have hg7h := hide hg7
    clear hra htn hgd hn hg7 hg6
    cases e1 : decide (r.2.1 ≤ g.2.2[cl])
    · have hh := hide (show doG g r = behG (lastG g r) r by
        unfold doG; rw [if_neg hneH.out, htn'.out, hgd'.out, if_neg (by simpa using e1)])
      go_wp2
      generalize w6.alloc (.cells #[.slice A6 n n, .slice (some ⟨gB, 0, none⟩) 16 16, .slice (some ⟨gE, 0, none⟩) 4 4] 35) = w7 at *
      clear xx0 xx1 xx2 xf0 xf1 xf2 rr0 rr1 rr2 rr3 rr4 yy0 yy1 yy2 yg0 yg1 yg2
      obtain ⟨xx0, xx1, xx2, xf0, xf1, xf2⟩ := hs7.bx.cells
      obtain ⟨rr0, rr1, rr2, rr3, rr4, -⟩ := hs7.br.cells
      obtain ⟨yy0, yy1, yy2, yg0, yg1, yg2⟩ := hs7.ry.cells
      obtain ⟨bb0, bb1, bb2, bf0, bf1, bf2⟩ := hbx7.cells
      have hl7 := hg7h.out.la.i64 hcl4
      refine wp_region_T (fun _ => True) [] [] [] [0, 1, 2, 3, 4, 5, 6, 7, 8, 9, 10] (by kernel_rfl) (by kernel_rfl) (by kernel_rfl) trivial ?_; simp only [pickL, List.getElem?_cons_succ, List.getElem?_cons_zero]
      have hq0 := (ho7.out.la.slAt encI_len).2.2.i64 hcl4
      simp only [Nat.zero_add] at hq0
      have hqf := ho7.out.la.frozen cl
      have hni1 : ¬ w.heap.size = gE := by omega
      have hni2 : ¬ gE = w.heap.size := by omega
      have hni3 : ¬ w.heap.size + 1 = gE := by omega
      have hni4 : ¬ gE = w.heap.size + 1 := by omega
      have hni5 : ¬ w6.heap.size = gE := by omega
      have hni6 : ¬ gE = w6.heap.size := by omega
      have hoc : GmO (w7.drew.setCell ⟨gE, cl, none⟩ (.int .i64 r.2.1)) (w5.heap.size + 1 + 1) A6 n n (some ⟨gB, 0, none⟩) 16 16 (some ⟨gE, 0, none⟩) 4 4 (lastG g r) := by
        have h1 := ho7.out.drew.la.put1 encI_len hcl4 r.2.1 0 (by omega) (.int .i64 r.2.1) rfl
        rw [Nat.mul_one, Nat.add_zero] at h1
        exact ⟨ho7.out.drew.en.keep (fun b hb => ne_set _ (fun e => ho7.out.ae b hb (by simp [Value.ownBlock, e]))), ho7.out.drew.fl.keep (fun b hb => ne_set _ (fun e => ho7.out.be b hb (by simp [Value.ownBlock, e]))), (by unfold lastG; rw [htn'.out]; exact h1), ho7.out.ab, ho7.out.ae, ho7.out.be⟩
      have hsc := (hs7.drew).other (a := ⟨gE, cl, none⟩) (by show _ ≤ gE; have := hs5.sz; omega) (.int .i64 r.2.1)
      have hbc := (hbx7.drew).keep (w' := w7.drew.setCell ⟨gE, cl, none⟩ (.int .i64 r.2.1)) (ne_set _ (by omega))
      have hoch := hide hoc
      have hbch := hide hbc
      have hsch := hide hsc
      clear hoc hbc hsc
      have hlo7 : w5.heap.size + 1 + 1 ≤ w6.heap.size := by omega
      go_wp2_with (first
        | ((with_reducible refine wpT_noL ?_ ?_); (focus (first | exact wanted_no _ _ _ rfl rfl rfl | exact wanted_un _ _ _ rfl rfl rfl)); simp only [setO, List.set_cons_succ, List.set_cons_zero]) | ((with_reducible refine wpT_q0 ?_ ?_ ?_ ?_); (focus rfl); (focus rfl); (focus rfl); intro K hK) | ((with_reducible refine wpT_i ?_ ?_); (focus (refine ⟨_, _, _, _, _, _, _, _, rfl, rfl, rfl, rfl, rfl, ?_⟩; omega)); intro K hK) | ((with_reducible refine wpT_ncw ?_ ?_ ?_); (focus (first | exact .inl rfl | exact .inr (wanted_yes _ _ _ rfl rfl rfl))); (focus exact ⟨_, _, rfl, rfl, rfl⟩); intro K hK) | ((with_reducible refine wpT_x0 ?_ ?_ ?_); (focus rfl); (focus rfl); intro K hK) | ((with_reducible refine wpT_q1 ?_ ?_ ?_ ?_); (focus exact wanted_yes _ _ _ rfl rfl rfl); (focus rfl); (focus rfl); intro K hK) | ((with_reducible refine wpT_x1 ?_ ?_ ?_); (focus exact wanted_yes _ _ _ rfl rfl rfl); (focus rfl); intro K hK) | ((with_reducible refine wpT_nil ?_); try dsimp only)
        | fail)
      refine (act_c w6.heap.size (w5.heap.size + 1 + 1) gB gE A6 n (lastG g r) r (w7.drew.setCell ⟨gE, cl, none⟩ (.int .i64 r.2.1)) hbch.out hoch.out hlo7 hnA7.out (by omega) (by omega) (hokh.out.weak.last hrah.out) hrah.out).mono ?_
      rintro e w8 ⟨A8, n8, rfl, hb8, ho8, hn8, hbl8⟩
      have hs8 := hsch.out.below hbl8 (by have := hs5.sz; omega)
      obtain ⟨yy0, yy1, yy2, yg0, yg1, yg2⟩ := hs8.ry.cells
      obtain ⟨bb0, bb1, bb2, bf0, bf1, bf2⟩ := hb8.cells
      have ho8h := hide ho8
      clear ho8
      go_wp2
      refine bodyPost_ret (v := .tuple #[.agg #[.slice A8 n8 n8, .slice (some ⟨gB, 0, none⟩) 16 16, .slice (some ⟨gE, 0, none⟩) 4 4], .int .i64 (behG (lastG g r) r).2]) (by simp [results, Tryd.results15, go_sem, yy0, yy1, yy2, yg0, yg1, yg2]) rfl ?_
      rw [hh.out]
      have hP := DoPost.fin (u0 := .slice A8 n8 n8) (u1 := .slice (some ⟨gB, 0, none⟩) 16 16) (u2 := .slice (some ⟨gE, 0, none⟩) 4 4) (behG (lastG g r) r).2 ho8h.out hlo6 hs8.bel
      (repeat (first | exact hP | refine DoPost.dr ?_))
    · have hh := hide (show doG g r = (g, 3) by
        unfold doG; rw [if_neg hneH.out, htn'.out, hgd'.out, if_pos (by simpa using e1)])
      go_wp2
      generalize w6.alloc (.cells #[.slice A6 n n, .slice (some ⟨gB, 0, none⟩) 16 16, .slice (some ⟨gE, 0, none⟩) 4 4] 35) = w7 at *
      clear xx0 xx1 xx2 xf0 xf1 xf2 rr0 rr1 rr2 rr3 rr4 yy0 yy1 yy2 yg0 yg1 yg2
      obtain ⟨xx0, xx1, xx2, xf0, xf1, xf2⟩ := hs7.bx.cells
      obtain ⟨rr0, rr1, rr2, rr3, rr4, -⟩ := hs7.br.cells
      obtain ⟨yy0, yy1, yy2, yg0, yg1, yg2⟩ := hs7.ry.cells
      obtain ⟨bb0, bb1, bb2, bf0, bf1, bf2⟩ := hbx7.cells
      have hl7 := hg7h.out.la.i64 hcl4
      refine wp_region_T (fun _ => True) [] [] [] [0, 1, 2, 3, 4, 5, 6, 7, 8, 9, 10] (by kernel_rfl) (by kernel_rfl) (by kernel_rfl) trivial ?_; simp only [pickL, List.getElem?_cons_succ, List.getElem?_cons_zero]
      go_wp2_with (first
        | ((with_reducible refine wpT_noL ?_ ?_); (focus (first | exact wanted_no _ _ _ rfl rfl rfl | exact wanted_un _ _ _ rfl rfl rfl)); simp only [setO, List.set_cons_succ, List.set_cons_zero]) | ((with_reducible refine wpT_q0 ?_ ?_ ?_ ?_); (focus rfl); (focus rfl); (focus rfl); intro K hK) | ((with_reducible refine wpT_i ?_ ?_); (focus (refine ⟨_, _, _, _, _, _, _, _, rfl, rfl, rfl, rfl, rfl, ?_⟩; omega)); intro K hK) | ((with_reducible refine wpT_ncw ?_ ?_ ?_); (focus (first | exact .inl rfl | exact .inr (wanted_yes _ _ _ rfl rfl rfl))); (focus exact ⟨_, _, rfl, rfl, rfl⟩); intro K hK) | ((with_reducible refine wpT_x0 ?_ ?_ ?_); (focus rfl); (focus rfl); intro K hK) | ((with_reducible refine wpT_q1 ?_ ?_ ?_ ?_); (focus exact wanted_yes _ _ _ rfl rfl rfl); (focus rfl); (focus rfl); intro K hK) | ((with_reducible refine wpT_x1 ?_ ?_ ?_); (focus exact wanted_yes _ _ _ rfl rfl rfl); (focus rfl); intro K hK) | ((with_reducible refine wpT_nil ?_); try dsimp only)
        | (trace_state; fail))
      refine bodyPost_ret (v := .tuple #[.agg #[.slice A6 n n, .slice (some ⟨gB, 0, none⟩) 16 16, .slice (some ⟨gE, 0, none⟩) 4 4], .int .i64 3]) (by simp [results, Tryd.results15, go_sem, yy0, yy1, yy2, yg0, yg1, yg2]) rfl ?_
      rw [hh.out]
      have hP := DoPost.fin (u0 := .slice A6 n n) (u1 := .slice (some ⟨gB, 0, none⟩) 16 16) (u2 := .slice (some ⟨gE, 0, none⟩) 4 4) 3 ho7.out hlo6 hs7.bel
      (repeat (first | exact hP | refine DoPost.dr ?_))
end Go.Proofs.YtajmfonepnkofaaDoor
