/-
  What 'IP' rests on, part 10 of 11 (texts of this seat put together: HY GR PW PXa ID GB GC GD GE GF GJ).
  Conditions: none.
-/
import Derived.Test.YtajmfonepnkofaaDoorZ9
import Derived.Lib.ItoaNum
import Derived.WalkLawsBesides
import Derived.WalkSpells
namespace Go.Proofs.YtajmfonepnkofaaDoor
open Go.RowKit Rg
set_option linter.unusedVariables false
set_option linter.unusedSimpArgs false

theorem act_c (bx lo gB gE : Nat) (A : Option Addr) (n : Nat) (g : GameT) (r : AskT) (w : World) (hbx : Bx3 w bx (.slice A n n) (.slice (some ⟨gB, 0, none⟩) 16 16) (.slice (some ⟨gE, 0, none⟩) 4 4) 35) (ho : GmO w lo A n n (some ⟨gB, 0, none⟩) 16 16 (some ⟨gE, 0, none⟩) 4 4 g)
    (hlo : lo ≤ bx) (hnA : ∀ k, (Value.slice A n n).ownBlock = some k → k ≠ bx) (hnB : gB ≠ bx) (hnE : gE ≠ bx) (hok : okG' g) (hr : okA r) :
    Calls Tryd.prog 44 #[.pointer (some ⟨bx, 0, none⟩), .agg #[.int .i64 r.1, .int .i64 r.2.1, .int .i64 r.2.2.1, .int .i64 r.2.2.2.1, .int .i64 r.2.2.2.2]] w fun e w' => ActPost bx lo gB gE w (behG g r) e w' := by
  have hops : r.2.2.1 = 1 ∨ r.2.2.1 = 2 ∨ r.2.2.1 = 3 ∨ r.2.2.1 = 4 ∨ r.2.2.1 = 5 := by have := hr; unfold okA at this; omega
  cases hfi : figI g.1 r.1 with
  | none =>
    by_cases hop : r.2.2.1 = 1
    · exact actJoin bx lo gB gE A n g r w hbx ho hlo hnA hnB hnE hok hr hfi hop
    · exact actOff bx lo gB gE A n g r w hbx ho hlo hnA hnB hnE hok hr hfi hop
  | some k =>
    rcases hops with hop | hop | hop | hop | hop
    · exact actThere bx lo gB gE A n g r w hbx ho hlo hnA hnB hnE hok hr k hfi hop
    · exact actMove bx lo gB gE A n g r w hbx ho hlo hnA hnB hnE hok hr k hfi hop
    · exact actTake bx lo gB gE A n g r w hbx ho hlo hnA hnB hnE hok hr k hfi hop
    · cases hfj : figI g.1 r.2.2.2.1 with
      | none => exact actFarNone bx lo gB gE A n g r w hbx ho hlo hnA hnB hnE hok hr k hfi (.inl hop) hfj
      | some i =>
        by_cases hik : i = k
        · exact actFarSelf bx lo gB gE A n g r w hbx ho hlo hnA hnB hnE hok hr k hfi (.inl hop) i hfj hik
        · by_cases hn : nearE (g.1[k]'(figI_lt hfi)) (g.1[i]'(figI_lt hfj))
          · exact actHit bx lo gB gE A n g r w hbx ho hlo hnA hnB hnE hok hr k hfi hop i hfj hik (fun _ _ => hn)
          · exact actFar bx lo gB gE A n g r w hbx ho hlo hnA hnB hnE hok hr k hfi (.inl hop) i hfj hik (fun _ _ => hn)
    · cases hfj : figI g.1 r.2.2.2.1 with
      | none => exact actFarNone bx lo gB gE A n g r w hbx ho hlo hnA hnB hnE hok hr k hfi (.inr hop) hfj
      | some i =>
        by_cases hik : i = k
        · exact actFarSelf bx lo gB gE A n g r w hbx ho hlo hnA hnB hnE hok hr k hfi (.inr hop) i hfj hik
        · by_cases hn : nearE (g.1[k]'(figI_lt hfi)) (g.1[i]'(figI_lt hfj))
          · exact actGive bx lo gB gE A n g r w hbx ho hlo hnA hnB hnE hok hr k hfi hop i hfj hik (fun _ _ => hn)
          · exact actFar bx lo gB gE A n g r w hbx ho hlo hnA hnB hnE hok hr k hfi (.inr hop) i hfj hik (fun _ _ => hn)

/-- What 'GameDo' leaves: a game of the call's own, and a code. -/
def DoPost (w : World) (gc : GameT × Int) (e : Ending) (w' : World) : Prop := ∃ (A : Option Addr) (n gB gE : Nat),
  e = .returned (.tuple #[.agg #[.slice A n n, .slice (some ⟨gB, 0, none⟩) 16 16, .slice (some ⟨gE, 0, none⟩) 4 4], .int .i64 gc.2]) ∧ GmO w' w.heap.size A n n (some ⟨gB, 0, none⟩) 16 16 (some ⟨gE, 0, none⟩) 4 4 gc.1 ∧ Below w.heap.size w w'
theorem DoPost.fin {w w9 : World} {A : Option Addr} {n gB gE lo : Nat} {g : GameT} (code : Int) {u0 u1 u2 : Value} (ho : GmO w9 lo A n n (some ⟨gB, 0, none⟩) 16 16 (some ⟨gE, 0, none⟩) 4 4 g) (hlo : w.heap.size + 1 + 1 < lo) (hB : Below w.heap.size w w9) :
    DoPost w (g, code) (.returned (.tuple #[.agg #[.slice A n n, .slice (some ⟨gB, 0, none⟩) 16 16, .slice (some ⟨gE, 0, none⟩) 4 4], .int .i64 code])) (((w9.setCell ⟨w.heap.size + 1 + 1, 0, none⟩ u0).setCell ⟨w.heap.size + 1 + 1, 1, none⟩ u1).setCell ⟨w.heap.size + 1 + 1, 2, none⟩ u2) := by
  have hO : Onl (w.heap.size + 1 + 1) (w.heap.size + 1 + 1) w9 (((w9.setCell ⟨w.heap.size + 1 + 1, 0, none⟩ u0).setCell ⟨w.heap.size + 1 + 1, 1, none⟩ u1).setCell ⟨w.heap.size + 1 + 1, 2, none⟩ u2) := by (repeat (first | (with_reducible exact Onl.refl _ _ _) | (with_reducible exact Onl.drewL _ _ _) | (with_reducible refine Onl.set ?_ (by simp) _) | with_reducible refine Onl.drew ?_))
  exact ⟨A, n, gB, gE, rfl, (ho.keep (fun b hb _ => hO.blk b (by omega) (by omega))).mono (by omega), hO.bel _ _ (by omega) (by omega) hB⟩
theorem DoPost.al {w w' : World} {gc : GameT × Int} {e : Ending} (h : DoPost w gc e w') (o : Obj) : DoPost w gc e (w'.alloc o) := by
  obtain ⟨A, n, gB, gE, h1, h2, h3⟩ := h
  exact ⟨A, n, gB, gE, h1, h2.below ((Below.refl _ _).alloc (Nat.le_refl _) o), h3.alloc h3.size o⟩
theorem DoPost.dr {w w' : World} {gc : GameT × Int} {e : Ending} (h : DoPost w gc e w') : DoPost w gc e w'.drew := by
  obtain ⟨A, n, gB, gE, h1, h2, h3⟩ := h
  exact ⟨A, n, gB, gE, h1, h2.drew, h3.drew⟩
set_option maxRecDepth 100000 in
set_option maxHeartbeats 2000000 in
theorem GameDo_c (A : Option Addr) (n c : Nat) (B : Option Addr) (p d : Nat) (E : Option Addr) (q f : Nat) (D : Nat → Prop) (g : GameT) (r : AskT) (w : World) (hg : GmD w D A n c B p d E q f g) (hD : ∀ b, D b → b < w.heap.size) (hok : okG g) (hr : okNA r) :
    Calls Tryd.prog 15 #[.agg #[.slice A n c, .slice B p d, .slice E q f], .agg #[.int .i64 r.1, .int .i64 r.2.1, .int .i64 r.2.2.1, .int .i64 r.2.2.2.1, .int .i64 r.2.2.2.2]] w fun e w' => DoPost w (doG g r) e w' := by
  have hs3 := Gb.made w (.slice A n c) (.slice B p d) (.slice E q f) r
  have hg3 := hg.below hs3.bel hD
  obtain ⟨xx0, xx1, xx2, xf0, xf1, xf2⟩ := hs3.bx.cells
  obtain ⟨rr0, rr1, rr2, rr3, rr4, -⟩ := hs3.br.cells
  obtain ⟨yy0, yy1, yy2, yg0, yg1, yg2⟩ := hs3.ry.cells
  have hz3 := hs3.sz
  have hp' : p = 16 := by have h1 := hg.fl.len; have h2 := hok.n16; omega
  have hq' : q = 4 := by have h1 := hg.la.len; have h2 := hok.n4; omega
  have hokN : okN r = true := (okN_iff r).2 hr
  have hokh := hide hok
  have hrh := hide hr
  subst hp'
  subst hq'
  clear hok hr hg
  go_enter Tryd.func15, Tryd.ntmps15
  go_wp2_with fail
  generalize (((w.alloc (.cells #[.slice A n c, .slice B 16 d, .slice E 4 f] 35)).alloc (.cells #[.int .i64 r.1, .int .i64 r.2.1, .int .i64 r.2.2.1, .int .i64 r.2.2.2.1, .int .i64 r.2.2.2.2] 37)).alloc (.cells #[.slice none 0 0, .slice none 0 0, .slice none 0 0] 35)) = w3 at *
  refine (GameOk_c A n c B 16 d E 4 f D g w3 hg3 (fun b hb => by have := hD b hb; omega) hokh.out).mono ?_
  rintro e w4 ⟨rfl, hb4⟩
  have hs4 := hs3.below hb4 hz3
  have hg4 := hg3.below hb4 (fun b hb => by have := hD b hb; omega)
  have hz4 := hs4.sz
  clear xx0 xx1 xx2 xf0 xf1 xf2 rr0 rr1 rr2 rr3 rr4 yy0 yy1 yy2 yg0 yg1 yg2
  obtain ⟨xx0, xx1, xx2, xf0, xf1, xf2⟩ := hs4.bx.cells
  obtain ⟨rr0, rr1, rr2, rr3, rr4, -⟩ := hs4.br.cells
  go_wp2_with fail
  refine (okOrNull_c r.1 r.2.1 r.2.2.1 r.2.2.2.1 r.2.2.2.2 w4).mono ?_
  rintro e w5 ⟨rfl, hb5⟩
  rw [show okN (r.1, r.2.1, r.2.2.1, r.2.2.2.1, r.2.2.2.2) = true from hokN]
  have hs5 := hs4.below hb5 hz4
  have hg5 := hg4.below hb5 (fun b hb => by have := hD b hb; omega)
  have hz5 := hs5.sz
  clear xx0 xx1 xx2 xf0 xf1 xf2 rr0 rr1 rr2 rr3 rr4
  obtain ⟨xx0, xx1, xx2, xf0, xf1, xf2⟩ := hs5.bx.cells
  go_wp2_with fail
  refine (copyOf_c A n c B 16 d E 4 f D g w5 hg5 (fun b hb => by have := hD b hb; omega) (okGD_len hokh.out)).mono ?_
  rintro e w6 ⟨A6, B6, E6, rfl, ho6, hb6⟩
  have hs6 := hs5.below hb6 hz5
  have hg6 := hg5.below hb6 (fun b hb => by have := hD b hb; omega)
  have hz6 := hb6.size
  obtain ⟨gB, rfl, hgB1, hgB2⟩ := ho6.fl.addrAt (show 0 < 16 by omega)
  obtain ⟨gE, rfl, hgE1, hgE2⟩ := ho6.la.addrAt (show 0 < 4 by omega)
  have hlo6 : w.heap.size + 1 + 1 < w5.heap.size + 1 + 1 := by omega
  have hA7 := (Below.refl w6.heap.size w6).alloc (Nat.le_refl _) (.cells #[.slice A6 n n, .slice (some ⟨gB, 0, none⟩) 16 16, .slice (some ⟨gE, 0, none⟩) 4 4] 35)
  have hbx7 := Bx3.made w6 (.slice A6 n n) (.slice (some ⟨gB, 0, none⟩) 16 16) (.slice (some ⟨gE, 0, none⟩) 4 4) 35
  have ho7 := hide (ho6.below hA7)
  have hs7 := hs6.below hA7 (by omega)
  have hg7 := hg6.below hA7 (fun b hb => by have := hD b hb; omega)
  have hnA7 := hide (fun k hk => Nat.ne_of_lt (ho6.en.lt k hk).2)
  have hz7 : (w6.alloc (.cells #[.slice A6 n n, .slice (some ⟨gB, 0, none⟩) 16 16, .slice (some ⟨gE, 0, none⟩) 4 4] 35)).heap.size = w6.heap.size + 1 := by simp
  have hz7h := hide hz7
  clear xx0 xx1 xx2 xf0 xf1 xf2 hz7
  obtain ⟨xx0, xx1, xx2, xf0, xf1, xf2⟩ := hs6.bx.cells
  obtain ⟨rr0, rr1, rr2, rr3, rr4, -⟩ := hs6.br.cells
  obtain ⟨yy0, yy1, yy2, yg0, yg1, yg2⟩ := hs6.ry.cells
  have hl0 : w.heap.size < w6.heap.size := by have := hs6.sz; omega
  have hl1 : w.heap.size + 1 < w6.heap.size := by have := hs6.sz; omega
  have hl2 : w.heap.size + 1 + 1 < w6.heap.size := by have := hs6.sz; omega
  have ho6h := hide ho6
  clear ho6
  by_cases hn : r = noA
  · have hh := hide (show doG g r = (g, 2) by unfold doG; rw [if_pos hn])
    have hT : ∀ (W : World), (binOp .eql 37 (.agg #[.int .i64 r.1, .int .i64 r.2.1, .int .i64 r.2.2.1, .int .i64 r.2.2.2.1, .int .i64 r.2.2.2.2]) (.agg #[.int .i64 0, .int .i64 0, .int .i64 0, .int .i64 0, .int .i64 0])).run Tryd.prog W = .ok (.bool true) W := fun W => (run_eq_req r noA W).trans (by rw [decide_eq_true hn])
    have hnh := hide hn
    clear hn
    go_wp2
    refine bodyPost_ret (v := .tuple #[.agg #[.slice A6 n n, .slice (some ⟨gB, 0, none⟩) 16 16, .slice (some ⟨gE, 0, none⟩) 4 4], .int .i64 2]) (by simp [results, Tryd.results15, go_sem, yy0, yy1, yy2, yg0, yg1, yg2, hl2]) rfl ?_
    rw [hh.out]
    have hP := DoPost.fin (u0 := .slice A6 n n) (u1 := .slice (some ⟨gB, 0, none⟩) 16 16) (u2 := .slice (some ⟨gE, 0, none⟩) 4 4) 2 ho6h.out hlo6 hs6.bel
    exact hP.al _
  · have hra : okA r := hrh.out.resolve_left hn
    obtain ⟨cl, hcl⟩ : ∃ cl : Nat, r.1 - 1 = (cl : Int) := ⟨(r.1 - 1).toNat, by have := hra.1.1; omega⟩
    have hcl4 : cl < g.2.2.length := by have h2 := hokh.out.n4; have := hra.1.2; omega
    obtain ⟨bE, offE, rfl, hDbE⟩ := hg6.la.addr hcl4
    have hlast := hg6.la.i64 hcl4
    have hgd := getD_at hcl4 (0 : Int)
    have htn : (r.1 - 1).toNat = cl := by omega
    have hcl4' : cl < 4 := by have h2 := hokh.out.n4; omega
    have hr1 := hra.1
    have hr2 := hra.2.1
    unfold rng at hr1 hr2
    have hrah := hide hra
    have htn' := hide htn
    have hgd' := hide hgd
    have hneH := hide hn
    have hT : ∀ (W : World), (binOp .eql 37 (.agg #[.int .i64 r.1, .int .i64 r.2.1, .int .i64 r.2.2.1, .int .i64 r.2.2.2.1, .int .i64 r.2.2.2.2]) (.agg #[.int .i64 0, .int .i64 0, .int .i64 0, .int .i64 0, .int .i64 0])).run Tryd.prog W = .ok (.bool false) W := fun W => (run_eq_req r noA W).trans (by rw [decide_eq_false hneH.out])
    have hEw := hD bE hDbE
    have hg6h := hide hg6
    have hg7h := hide hg7
    clear hra htn hgd hn hg7 hg6
    cases e1 : decide (r.2.1 ≤ g.2.2[cl])
    · have hh := hide (show doG g r = behG (lastG g r) r by
        unfold doG; rw [if_neg hneH.out, htn'.out, hgd'.out, if_neg (by simpa using e1)])
      go_wp2
      generalize w6.alloc (.cells #[.slice A6 n n, .slice (some ⟨gB, 0, none⟩) 16 16, .slice (some ⟨gE, 0, none⟩) 4 4] 35) = w7 at *
      clear xx0 xx1 xx2 xf0 xf1 xf2 rr0 rr1 rr2 rr3 rr4 yy0 yy1 yy2 yg0 yg1 yg2
      obtain ⟨xx0, xx1, xx2, xf0, xf1, xf2⟩ := hs7.bx.cells
      obtain ⟨rr0, rr1, rr2, rr3, rr4, -⟩ := hs7.br.cells
      obtain ⟨yy0, yy1, yy2, yg0, yg1, yg2⟩ := hs7.ry.cells
      obtain ⟨bb0, bb1, bb2, bf0, bf1, bf2⟩ := hbx7.cells
      have hl7 := hg7h.out.la.i64 hcl4
      refine wp_region_T (fun _ => True) [] [] [] [0, 1, 2, 3, 4, 5, 6, 7, 8, 9, 10] (by kernel_rfl) (by kernel_rfl) (by kernel_rfl) trivial ?_; simp only [pickL, List.getElem?_cons_succ, List.getElem?_cons_zero]
      have hq0 := (ho7.out.la.slAt encI_len).2.2.i64 hcl4
      simp only [Nat.zero_add] at hq0
      have hqf := ho7.out.la.frozen cl
      have hni1 : ¬ w.heap.size = gE := by omega
      have hni2 : ¬ gE = w.heap.size := by omega
      have hni3 : ¬ w.heap.size + 1 = gE := by omega
      have hni4 : ¬ gE = w.heap.size + 1 := by omega
      have hni5 : ¬ w6.heap.size = gE := by omega
      have hni6 : ¬ gE = w6.heap.size := by omega
      have hoc : GmO (w7.drew.setCell ⟨gE, cl, none⟩ (.int .i64 r.2.1)) (w5.heap.size + 1 + 1) A6 n n (some ⟨gB, 0, none⟩) 16 16 (some ⟨gE, 0, none⟩) 4 4 (lastG g r) := by
        have h1 := ho7.out.drew.la.put1 encI_len hcl4 r.2.1 0 (by omega) (.int .i64 r.2.1) rfl
        rw [Nat.mul_one, Nat.add_zero] at h1
        exact ⟨ho7.out.drew.en.keep (fun b hb => ne_set _ (fun e => ho7.out.ae b hb (by simp [Value.ownBlock, e]))), ho7.out.drew.fl.keep (fun b hb => ne_set _ (fun e => ho7.out.be b hb (by simp [Value.ownBlock, e]))), (by unfold lastG; rw [htn'.out]; exact h1), ho7.out.ab, ho7.out.ae, ho7.out.be⟩
      have hsc := (hs7.drew).other (a := ⟨gE, cl, none⟩) (by show _ ≤ gE; have := hs5.sz; omega) (.int .i64 r.2.1)
      have hbc := (hbx7.drew).keep (w' := w7.drew.setCell ⟨gE, cl, none⟩ (.int .i64 r.2.1)) (ne_set _ (by omega))
      have hoch := hide hoc
      have hbch := hide hbc
      have hsch := hide hsc
      clear hoc hbc hsc
      have hlo7 : w5.heap.size + 1 + 1 ≤ w6.heap.size := by omega
      go_wp2_with (first
        | ((with_reducible refine wpT_noL ?_ ?_); (focus (first | exact wanted_no _ _ _ rfl rfl rfl | exact wanted_un _ _ _ rfl rfl rfl)); simp only [setO, List.set_cons_succ, List.set_cons_zero]) | ((with_reducible refine wpT_q0 ?_ ?_ ?_ ?_); (focus rfl); (focus rfl); (focus rfl); intro K hK) | ((with_reducible refine wpT_i ?_ ?_); (focus (refine ⟨_, _, _, _, _, _, _, _, rfl, rfl, rfl, rfl, rfl, ?_⟩; omega)); intro K hK) | ((with_reducible refine wpT_ncw ?_ ?_ ?_); (focus (first | exact .inl rfl | exact .inr (wanted_yes _ _ _ rfl rfl rfl))); (focus exact ⟨_, _, rfl, rfl, rfl⟩); intro K hK) | ((with_reducible refine wpT_x0 ?_ ?_ ?_); (focus rfl); (focus rfl); intro K hK) | ((with_reducible refine wpT_q1 ?_ ?_ ?_ ?_); (focus exact wanted_yes _ _ _ rfl rfl rfl); (focus rfl); (focus rfl); intro K hK) | ((with_reducible refine wpT_x1 ?_ ?_ ?_); (focus exact wanted_yes _ _ _ rfl rfl rfl); (focus rfl); intro K hK) | ((with_reducible refine wpT_nil ?_); try dsimp only)
        | fail)
      refine (act_c w6.heap.size (w5.heap.size + 1 + 1) gB gE A6 n (lastG g r) r (w7.drew.setCell ⟨gE, cl, none⟩ (.int .i64 r.2.1)) hbch.out hoch.out hlo7 hnA7.out (by omega) (by omega) (hokh.out.weak.last hrah.out) hrah.out).mono ?_
      rintro e w8 ⟨A8, n8, rfl, hb8, ho8, hn8, hbl8⟩
      have hs8 := hsch.out.below hbl8 (by have := hs5.sz; omega)
      obtain ⟨yy0, yy1, yy2, yg0, yg1, yg2⟩ := hs8.ry.cells
      obtain ⟨bb0, bb1, bb2, bf0, bf1, bf2⟩ := hb8.cells
      have ho8h := hide ho8
      clear ho8
      go_wp2
      refine bodyPost_ret (v := .tuple #[.agg #[.slice A8 n8 n8, .slice (some ⟨gB, 0, none⟩) 16 16, .slice (some ⟨gE, 0, none⟩) 4 4], .int .i64 (behG (lastG g r) r).2]) (by simp [results, Tryd.results15, go_sem, yy0, yy1, yy2, yg0, yg1, yg2]) rfl ?_
      rw [hh.out]
      have hP := DoPost.fin (u0 := .slice A8 n8 n8) (u1 := .slice (some ⟨gB, 0, none⟩) 16 16) (u2 := .slice (some ⟨gE, 0, none⟩) 4 4) (behG (lastG g r) r).2 ho8h.out hlo6 hs8.bel
      (repeat (first | exact hP | refine DoPost.dr ?_))
    · have hh := hide (show doG g r = (g, 3) by
        unfold doG; rw [if_neg hneH.out, htn'.out, hgd'.out, if_pos (by simpa using e1)])
      go_wp2
      generalize w6.alloc (.cells #[.slice A6 n n, .slice (some ⟨gB, 0, none⟩) 16 16, .slice (some ⟨gE, 0, none⟩) 4 4] 35) = w7 at *
      clear xx0 xx1 xx2 xf0 xf1 xf2 rr0 rr1 rr2 rr3 rr4 yy0 yy1 yy2 yg0 yg1 yg2
      obtain ⟨xx0, xx1, xx2, xf0, xf1, xf2⟩ := hs7.bx.cells
      obtain ⟨rr0, rr1, rr2, rr3, rr4, -⟩ := hs7.br.cells
      obtain ⟨yy0, yy1, yy2, yg0, yg1, yg2⟩ := hs7.ry.cells
      obtain ⟨bb0, bb1, bb2, bf0, bf1, bf2⟩ := hbx7.cells
      have hl7 := hg7h.out.la.i64 hcl4
      refine wp_region_T (fun _ => True) [] [] [] [0, 1, 2, 3, 4, 5, 6, 7, 8, 9, 10] (by kernel_rfl) (by kernel_rfl) (by kernel_rfl) trivial ?_; simp only [pickL, List.getElem?_cons_succ, List.getElem?_cons_zero]
      go_wp2_with (first
        | ((with_reducible refine wpT_noL ?_ ?_); (focus (first | exact wanted_no _ _ _ rfl rfl rfl | exact wanted_un _ _ _ rfl rfl rfl)); simp only [setO, List.set_cons_succ, List.set_cons_zero]) | ((with_reducible refine wpT_q0 ?_ ?_ ?_ ?_); (focus rfl); (focus rfl); (focus rfl); intro K hK) | ((with_reducible refine wpT_i ?_ ?_); (focus (refine ⟨_, _, _, _, _, _, _, _, rfl, rfl, rfl, rfl, rfl, ?_⟩; omega)); intro K hK) | ((with_reducible refine wpT_ncw ?_ ?_ ?_); (focus (first | exact .inl rfl | exact .inr (wanted_yes _ _ _ rfl rfl rfl))); (focus exact ⟨_, _, rfl, rfl, rfl⟩); intro K hK) | ((with_reducible refine wpT_x0 ?_ ?_ ?_); (focus rfl); (focus rfl); intro K hK) | ((with_reducible refine wpT_q1 ?_ ?_ ?_ ?_); (focus exact wanted_yes _ _ _ rfl rfl rfl); (focus rfl); (focus rfl); intro K hK) | ((with_reducible refine wpT_x1 ?_ ?_ ?_); (focus exact wanted_yes _ _ _ rfl rfl rfl); (focus rfl); intro K hK) | ((with_reducible refine wpT_nil ?_); try dsimp only)
        | (trace_state; fail))
      refine bodyPost_ret (v := .tuple #[.agg #[.slice A6 n n, .slice (some ⟨gB, 0, none⟩) 16 16, .slice (some ⟨gE, 0, none⟩) 4 4], .int .i64 3]) (by simp [results, Tryd.results15, go_sem, yy0, yy1, yy2, yg0, yg1, yg2]) rfl ?_
      rw [hh.out]
      have hP := DoPost.fin (u0 := .slice A6 n n) (u1 := .slice (some ⟨gB, 0, none⟩) 16 16) (u2 := .slice (some ⟨gE, 0, none⟩) 4 4) 3 ho7.out hlo6 hs7.bel
      (repeat (first | exact hP | refine DoPost.dr ?_))
end Go.Proofs.YtajmfonepnkofaaDoor
namespace Go.Proofs.YtajmfonepnkofaaDoor
open Go.RowKit Rg
set_option linter.unusedVariables false
set_option linter.unusedSimpArgs false

abbrev ReplyT := Int × Int × Int × Int
def encReply (t : ReplyT) : List Value := [.int .i64 t.1, .int .i64 t.2.1, .int .i64 t.2.2.1, .int .i64 t.2.2.2]
theorem encReply_len (t : ReplyT) : (encReply t).length = 4 := rfl
theorem encReply_one (t : ReplyT) : ∀ u ∈ encReply t, u.oneCell' = true := by
  intro u hu; simp [encReply] at hu; rcases hu with rfl | rfl | rfl | rfl <;> rfl
theorem Sl.getReply {w : World} {lo hi b off k : Nat} {xs : List ReplyT} (h : Sl encReply 4 w lo hi (some ⟨b, off, none⟩) xs) (hk : k < xs.length) :
    w.cell? ⟨b, off + k * 4, none⟩ = some (.int .i64 xs[k].1) ∧ w.cell? ⟨b, off + k * 4 + 1, none⟩ = some (.int .i64 xs[k].2.1) ∧ w.cell? ⟨b, off + k * 4 + 2, none⟩ = some (.int .i64 xs[k].2.2.1) ∧ w.cell? ⟨b, off + k * 4 + 3, none⟩ = some (.int .i64 xs[k].2.2.2) :=
  ⟨h.at_ hk 0 _ rfl, h.at_ hk 1 _ rfl, h.at_ hk 2 _ rfl, h.at_ hk 3 _ rfl⟩
theorem infoReply : (Tryd.prog.info? 30).map (fun i => (i.zero, i.size, i.bytes)) = some (some (.agg #[.int .i64 0, .int .i64 0, .int .i64 0, .int .i64 0]), 4, 32) := by kernel_rfl
theorem Own.someReply {w : World} {lo g n c k : Nat} {e : TypeId} {xs : List ReplyT} (h : Own encReply 4 e w lo (.slice (some ⟨g, 0, none⟩) n c) xs) (hk : k < n) :
    ∃ z0 z1 z2 z3 : Int, w.cell? ⟨g, k * 4, none⟩ = some (.int .i64 z0) ∧ w.cell? ⟨g, k * 4 + 1, none⟩ = some (.int .i64 z1) ∧ w.cell? ⟨g, k * 4 + 2, none⟩ = some (.int .i64 z2) ∧ w.cell? ⟨g, k * 4 + 3, none⟩ = some (.int .i64 z3) := by
  obtain ⟨rfl, _, hs⟩ := h.slAt encReply_len
  have := hs.getReply hk
  simp only [Nat.zero_add] at this
  exact ⟨_, _, _, _, this⟩

theorem eqReply_c (t u : ReplyT) (w : World) : Calls Tryd.prog 10 #[.agg #[.int .i64 t.1, .int .i64 t.2.1, .int .i64 t.2.2.1, .int .i64 t.2.2.2], .agg #[.int .i64 u.1, .int .i64 u.2.1, .int .i64 u.2.2.1, .int .i64 u.2.2.2]] w fun e w' => e = .returned (.bool (decide (t = u))) ∧ Below w.heap.size w w' := by
  have hz : decide (t = u) = (decide (t.1 = u.1) && decide (t.2.1 = u.2.1) && decide (t.2.2.1 = u.2.2.1) && decide (t.2.2.2 = u.2.2.2)) := by
    rw [Bool.eq_iff_iff]
    simp only [Bool.and_eq_true, decide_eq_true_eq]
    exact ⟨fun h => by subst h; simp, fun h => Prod.ext h.1.1.1 (Prod.ext h.1.1.2 (Prod.ext h.1.2 h.2))⟩
  rw [hz]
  clear hz
  go_enter Tryd.func10, Tryd.ntmps10
  go_wp2
  all_goals
    go_ret
    simp only [bne_iff_ne, bne_eq_false_iff_eq, ne_eq] at *
    refine ⟨congrArg (fun b => Ending.returned (.bool b)) ?_, (((Below.refl _ _).alloc (Nat.le_refl _) _).alloc (by simp) _)⟩
    simp [*]

/-- What 'markReplyS' writes, from k on. -/
def marksReply (k : Int) (n : Nat) : List ReplyT := (List.range n).map fun (i : Nat) => (k + 4 * (i : Int), k + 4 * (i : Int) + 1, k + 4 * (i : Int) + 2, k + 4 * (i : Int) + 3)
theorem marksReply_len (k : Int) (n : Nat) : (marksReply k n).length = n := by simp [marksReply]
theorem marksReply_get (k : Int) (n i : Nat) (h : i < (marksReply k n).length) : (marksReply k n)[i] = (k + 4 * (i : Int), k + 4 * (i : Int) + 1, k + 4 * (i : Int) + 2, k + 4 * (i : Int) + 3) := by simp [marksReply]
theorem marksReply_succ (k : Int) (n : Nat) : marksReply k (n + 1) = marksReply k n ++ [(k + 4 * (n : Int), k + 4 * (n : Int) + 1, k + 4 * (n : Int) + 2, k + 4 * (n : Int) + 3)] := by
  simp [marksReply, List.range_succ]
theorem marksReply_set (k : Int) (j : Nat) (xs : List ReplyT) (h : j < xs.length) : (marksReply k j ++ xs.drop j).set j (k + 4 * (j : Int), k + 4 * (j : Int) + 1, k + 4 * (j : Int) + 2, k + 4 * (j : Int) + 3) = marksReply k (j + 1) ++ xs.drop (j + 1) := by
  rw [List.set_append_right _ _ (by rw [marksReply_len]; omega), marksReply_len, Nat.sub_self, List.drop_eq_getElem_cons h, List.set_cons_zero, marksReply_succ, List.append_assoc]
  rfl
theorem clone1Reply_c (A : Option Addr) (n c lo hi : Nat) (xs : List ReplyT) (w : World) (hn : n = xs.length) (hb : n ≤ 1048576) (hs : Sl encReply 4 w lo hi A xs) (hhi : hi ≤ w.heap.size) :
    Calls Tryd.prog 67 #[.slice A n c] w fun e w' => ∃ v, e = .returned v ∧ Own encReply 4 30 w' w.heap.size v xs ∧ Below w.heap.size w w' := by
  have hn' := hide hn
  clear hn
  cases A with
  | none =>
    have hx : xs = [] := by
      by_cases h : xs = []
      · exact h
      · obtain ⟨_, _, h1, _⟩ := hs h; cases h1
    subst hx
    obtain rfl : n = 0 := hn'.out
    have he := fun (w : World) (c : Nat) => Lib.run_eql_slice_nil (P := Tryd.prog) w 45 30 none 0 c 0 0 Tryd.underlying45
    go_enter Tryd.func67, Tryd.ntmps67
    go_wp2
    go_ret
    exact ⟨_, rfl, Own.nil_ _ _ _ _ _, Below.refl _ _⟩
  | some ad =>
    have he := fun (w : World) (c : Nat) => Lib.run_eql_slice_nil (P := Tryd.prog) w 45 30 (some ad) n c 0 0 Tryd.underlying45
    go_enter Tryd.func67, Tryd.ntmps67
    go_wp2_with (at_builtin; refine wpList_app encReply_len (by omega) encReply_one rfl _ _ 45 rfl 30 _ 32 Tryd.underlying45 infoReply rfl w.heap.size _ [] rfl (own_empty encReply 4 _ w) lo hi _ xs _ _ rfl hn'.out ?h1 ?h2 ?h3 ?_)
    case h1 => exact hs.below ((Below.refl hi w).alloc hhi _) (Nat.le_refl _)
    case h2 => have := hn'.out; simp [maxLen]; omega
    case h3 => simp
    intro v' w1 ho hg hb1
    go_wp2
    go_ret
    exact ⟨_, rfl, ho, (Below.refl _ _).trans (((Below.refl _ _).alloc (Nat.le_refl _) _).trans hb1)⟩

theorem clipReply_c (A : Option Addr) (n c : Nat) (w : World) (h0 : n ≤ c) (h1 : c ≤ maxLen) (hA : A = none → n = 0) (hA2 : ∀ a, A = some a → ∃ g, a = ⟨g, 0, none⟩) :
    Calls Tryd.prog 66 #[.slice A n c] w fun e w' => e = .returned (.slice A n n) ∧ w = w' := by
  unfold maxLen at h1
  cases A with
  | none =>
    obtain rfl := hA rfl
    go_enter Tryd.func66, Tryd.ntmps66
    go_wp2
    go_ret
    exact ⟨rfl, rfl⟩
  | some a =>
    obtain ⟨g, rfl⟩ := hA2 a rfl
    clear hA hA2
    go_enter Tryd.func66, Tryd.ntmps66
    go_wp2
    go_ret
    exact ⟨rfl, rfl⟩

theorem cloneReply_c (A : Option Addr) (n c lo hi : Nat) (xs : List ReplyT) (w : World) (hn : n = xs.length) (hb : n ≤ 1048576) (hs : Sl encReply 4 w lo hi A xs) (hhi : hi ≤ w.heap.size) :
    Calls Tryd.prog 41 #[.slice A n c] w fun e w' => ∃ A', e = .returned (.slice A' n n) ∧ Own encReply 4 30 w' w.heap.size (.slice A' n n) xs ∧ Below w.heap.size w w' := by
  have hn' := hide hn
  clear hn
  go_enter Tryd.func41, Tryd.ntmps41
  go_wp2_with fail
  refine (clone1Reply_c A n c lo hi xs w hn'.out hb hs hhi).mono ?_
  rintro e w1 ⟨v, rfl, ho, hb1⟩
  obtain ⟨A', c', rfl, h1, h2, h3⟩ := ho.form
  have hz := ho.clip
  rw [← hn'.out] at h1 hz ho ⊢
  have hcl := clipReply_c A' n c' w1 h1 h2 (by
    rintro rfl
    rcases ho with ⟨h4, h5⟩ | ⟨g, cap, cur, he, _⟩
    · injection h4
    · injection he with he; cases he) (by
    intro a ha
    rcases h3 with h3 | ⟨g, h3, _⟩
    · rw [h3] at ha; cases ha
    · rw [h3] at ha; injection ha with ha; exact ⟨g, ha.symm⟩)
  clear h3 h1 h2
  go_wp2_with fail
  refine hcl.mono ?_
  rintro e w2 ⟨rfl, rfl⟩
  go_wp2
  go_ret
  exact ⟨A', rfl, hz, hb1⟩
end Go.Proofs.YtajmfonepnkofaaDoor
namespace Go.Proofs.YtajmfonepnkofaaDoor

/-- One bit of the sum. -/
def crc1 (c : Nat) : Nat := if c % 2 = 1 then (c / 2) ^^^ 3988292384 else c / 2
def crcK : Nat → Nat → Nat
  | 0, c => c
  | k + 1, c => crcK k (crc1 c)
def crcB (c b : Nat) : Nat := crcK 8 (c ^^^ b)
def crcF (c : Nat) (bs : List UInt8) : Nat := bs.foldl (fun c b => crcB c b.toNat) c
def crcN (bs : List UInt8) : Nat := crcF 4294967295 bs ^^^ 4294967295

theorem crc1_lt {c : Nat} (h : c < 4294967296) : crc1 c < 4294967296 := by
  unfold crc1
  split
  · exact Nat.xor_lt_two_pow (n := 32) (by omega) (by omega)
  · omega
theorem crcK_lt : ∀ (k : Nat) {c : Nat}, c < 4294967296 → crcK k c < 4294967296
  | 0, _, h => h
  | k + 1, _, h => crcK_lt k (crc1_lt h)
theorem crcB_lt {c b : Nat} (h : c < 4294967296) (hb : b < 256) : crcB c b < 4294967296 :=
  crcK_lt 8 (Nat.xor_lt_two_pow (n := 32) h (by omega))
theorem crcF_lt : ∀ (bs : List UInt8) {c : Nat}, c < 4294967296 → crcF c bs < 4294967296
  | [], _, h => h
  | b :: bs, _, h => crcF_lt bs (crcB_lt h b.toNat_lt)
theorem crcN_lt (bs : List UInt8) : crcN bs < 4294967296 :=
  Nat.xor_lt_two_pow (n := 32) (crcF_lt bs (by omega)) (by omega)
theorem xor_cancel {a b k : Nat} (h : a ^^^ k = b ^^^ k) : a = b := by
  have := congrArg (· ^^^ k) h
  simpa [Nat.xor_assoc] using this
theorem xor_cancel_left {a b k : Nat} (h : k ^^^ a = k ^^^ b) : a = b := xor_cancel (k := k) (by rw [Nat.xor_comm a, Nat.xor_comm b]; exact h)
theorem crc1_inj {c d : Nat} (hc : c < 4294967296) (hd : d < 4294967296) (h : crc1 c = crc1 d) : c = d := by
  have big : ∀ {x y : Nat}, x < 2147483648 → y < 2147483648 → x ^^^ 3988292384 ≠ y := by
    intro x y hx hy e
    have h1 : x ^^^ y = 3988292384 := by
      rw [← e, ← Nat.xor_assoc]; simp
    have h2 : x ^^^ y < 2 ^ 31 := Nat.xor_lt_two_pow (by omega) (by omega)
    omega
  unfold crc1 at h
  split at h <;> split at h
  · have := xor_cancel h; omega
  · exact absurd h (big (by omega) (by omega))
  · exact absurd h.symm (big (by omega) (by omega))
  · omega
theorem crcK_inj : ∀ (k : Nat) {c d : Nat}, c < 4294967296 → d < 4294967296 → crcK k c = crcK k d → c = d
  | 0, _, _, _, _, h => h
  | k + 1, _, _, hc, hd, h => crc1_inj hc hd (crcK_inj k (crc1_lt hc) (crc1_lt hd) h)
theorem crcB_inj {c d a b : Nat} (hc : c < 4294967296) (hd : d < 4294967296) (ha : a < 256) (hb : b < 256) (h : crcB c a = crcB d b) : c ^^^ a = d ^^^ b :=
  crcK_inj 8 (Nat.xor_lt_two_pow (n := 32) hc (by omega)) (Nat.xor_lt_two_pow (n := 32) hd (by omega)) h
theorem crcF_inj : ∀ (bs : List UInt8) {c d : Nat}, c < 4294967296 → d < 4294967296 → crcF c bs = crcF d bs → c = d
  | [], _, _, _, _, h => h
  | b :: bs, _, _, hc, hd, h => xor_cancel (crcB_inj hc hd b.toNat_lt b.toNat_lt (crcF_inj bs (crcB_lt hc b.toNat_lt) (crcB_lt hd b.toNat_lt) h))
theorem crcF_append (c : Nat) (xs ys : List UInt8) : crcF c (xs ++ ys) = crcF (crcF c xs) ys := by simp [crcF, List.foldl_append]
/-- A text that differs in one byte has another sum. -/
theorem crcN_flip (p q : List UInt8) {x y : UInt8} (h : x ≠ y) : crcN (p ++ x :: q) ≠ crcN (p ++ y :: q) := by
  intro e
  have e := xor_cancel e
  rw [crcF_append, crcF_append] at e
  have hp : crcF 4294967295 p < 4294967296 := crcF_lt p (by omega)
  have e2 : crcF (crcB (crcF 4294967295 p) x.toNat) q = crcF (crcB (crcF 4294967295 p) y.toNat) q := e
  have e3 := crcF_inj q (crcB_lt hp x.toNat_lt) (crcB_lt hp y.toNat_lt) e2
  have e4 := xor_cancel_left (crcB_inj hp hp x.toNat_lt y.toNat_lt e3)
  exact h (UInt8.toNat_inj.1 e4)

/-- The sum of a piece, and of two sums. -/
def leafB (i : Int) (s : List UInt8) : List UInt8 := [108, 101, 97, 102, 32] ++ Go.Lib.itoa i ++ [32] ++ s
def nodeB (a b : Int) : List UInt8 := [110, 111, 100, 101, 32] ++ Go.Lib.itoa a ++ [32] ++ Go.Lib.itoa b
def leafS (i : Int) (s : List UInt8) : Int := (crcN (leafB i s) : Int)
def nodeS (a b : Int) : Int := (crcN (nodeB a b) : Int)
theorem leafS_flip (i : Int) (p q : List UInt8) {x y : UInt8} (h : x ≠ y) : leafS i (p ++ x :: q) ≠ leafS i (p ++ y :: q) := by
  intro e
  have e1 : crcN (leafB i (p ++ x :: q)) = crcN (leafB i (p ++ y :: q)) := by unfold leafS at e; exact_mod_cast e
  unfold leafB at e1
  rw [← List.append_assoc, ← List.append_assoc] at e1
  exact crcN_flip _ q h e1
/-- A number that a sum may be. -/
def Sum (a : Int) : Prop := 0 ≤ a ∧ a < 4294967296
theorem leafS_sum (i : Int) (s : List UInt8) : Sum (leafS i s) := by have := crcN_lt (leafB i s); unfold leafS Sum; omega
theorem nodeS_sum (a b : Int) : Sum (nodeS a b) := by have := crcN_lt (nodeB a b); unfold nodeS Sum; omega

/-- The sums above sums. -/
def up : List Int → List Int
  | [] => []
  | [a] => [a]
  | a :: b :: r => nodeS a b :: up r
theorem up_length : ∀ (L : List Int), (up L).length = (L.length + 1) / 2
  | [] => rfl
  | [_] => by simp [up]
  | _ :: _ :: r => by simp only [up, List.length_cons, up_length r]; omega
theorem up_get : ∀ (L : List Int) (i : Nat) (h : i < (up L).length), (up L)[i] = if h2 : 2 * i + 1 < L.length then nodeS L[2 * i] L[2 * i + 1] else L[2 * i]'(by rw [up_length] at h; omega)
  | [], i, h => by simp [up] at h
  | [a], i, h => by
    have : i = 0 := by simp [up] at h; omega
    subst this
    simp [up]
  | a :: b :: r, 0, h => by simp [up]
  | a :: b :: r, i + 1, h => by
    have h' : i < (up r).length := by simpa [up] using h
    have := up_get r i h'
    simp only [up, List.getElem_cons_succ, this, List.length_cons]
    have e1 : 2 * (i + 1) = (2 * i + 1) + 1 := by omega
    by_cases hc : 2 * i + 1 < r.length
    · rw [dif_pos hc, dif_pos (by omega)]
      simp only [e1, List.getElem_cons_succ]
    · rw [dif_neg hc, dif_neg (by omega)]
      simp only [e1, List.getElem_cons_succ]
theorem up_sum {L : List Int} (h : ∀ a ∈ L, Sum a) : ∀ a ∈ up L, Sum a := by
  intro a ha
  obtain ⟨i, hi, rfl⟩ := List.mem_iff_getElem.1 ha
  rw [up_get]
  split
  · exact nodeS_sum _ _
  · exact h _ (List.getElem_mem _)
theorem up_short {L : List Int} (h : ¬ L.length ≤ 1) : (up L).length < L.length := by rw [up_length]; omega

def rootS (L : List Int) : Int := if h : L.length ≤ 1 then L.headD 0 else rootS (up L)
termination_by L.length
decreasing_by exact up_short h
theorem rootS_one {L : List Int} (h : L.length ≤ 1) : rootS L = L.headD 0 := by rw [rootS, dif_pos h]
theorem rootS_up {L : List Int} (h : ¬ L.length ≤ 1) : rootS L = rootS (up L) := by rw [rootS, dif_neg h]
/-- All levels. -/
def lev (L : List Int) : List (List Int) := if h : L.length ≤ 1 then [L] else L :: lev (up L)
termination_by L.length
decreasing_by exact up_short h
theorem lev_one {L : List Int} (h : L.length ≤ 1) : lev L = [L] := by rw [lev, dif_pos h]
theorem lev_up {L : List Int} (h : ¬ L.length ≤ 1) : lev L = L :: lev (up L) := by rw [lev, dif_neg h]
/-- The other of two. -/
def oth (i : Nat) : Nat := if i % 2 = 0 then i + 1 else i - 1
theorem oth_xor (i : Nat) : i ^^^ 1 = oth i := by
  unfold oth
  apply Nat.eq_of_testBit_eq
  intro j
  by_cases e : i % 2 = 0
  · rw [if_pos e]
    cases j with
    | zero =>
      have e1 : (i + 1) % 2 = 1 := by omega
      rw [Nat.testBit_xor]
      simp [Nat.testBit_zero, e, e1]
    | succ j =>
      rw [Nat.testBit_xor, Nat.testBit_succ, Nat.testBit_succ, Nat.testBit_succ, show (i + 1) / 2 = i / 2 by omega]; simp
  · rw [if_neg e]
    have e0 : i % 2 = 1 := by omega
    cases j with
    | zero =>
      have e1 : (i - 1) % 2 = 0 := by omega
      rw [Nat.testBit_xor]
      simp [Nat.testBit_zero, e0, e1]
    | succ j =>
      rw [Nat.testBit_xor, Nat.testBit_succ, Nat.testBit_succ, Nat.testBit_succ, show (i - 1) / 2 = i / 2 by omega]; simp
/-- The sums beside a way up. -/
def besides (L : List Int) (i : Nat) : List Int :=
  if h : L.length ≤ 1 then [] else (if h2 : oth i < L.length then [L[oth i]] else []) ++ besides (up L) (i / 2)
termination_by L.length
decreasing_by exact up_short h
theorem besides_one {L : List Int} {i : Nat} (h : L.length ≤ 1) : besides L i = [] := by rw [besides, dif_pos h]
theorem besides_up {L : List Int} {i : Nat} (h : ¬ L.length ≤ 1) : besides L i = (if h2 : oth i < L.length then [L[oth i]] else []) ++ besides (up L) (i / 2) := by rw [besides, dif_neg h]
/-- What a sum and the sums beside its way make. -/
def chk (n i : Nat) (s : Int) (p : List Int) : Option Int :=
  if h : n ≤ 1 then (if p = [] then some s else none)
  else if oth i < n then
    match p with
    | [] => none
    | x :: p => chk ((n + 1) / 2) (i / 2) (if i % 2 = 0 then nodeS s x else nodeS x s) p
  else chk ((n + 1) / 2) (i / 2) s p
termination_by n
theorem chk_one {n i : Nat} {s : Int} {p : List Int} (h : n ≤ 1) : chk n i s p = if p = [] then some s else none := by rw [chk.eq_def, dif_pos h]
theorem chk_pass {n i : Nat} {s : Int} {p : List Int} (h : ¬ n ≤ 1) (h2 : ¬ oth i < n) : chk n i s p = chk ((n + 1) / 2) (i / 2) s p := by rw [chk.eq_def, dif_neg h, if_neg h2]
theorem chk_nil {n i : Nat} {s : Int} (h : ¬ n ≤ 1) (h2 : oth i < n) : chk n i s [] = none := by rw [chk.eq_def, dif_neg h, if_pos h2]
theorem chk_cons {n i : Nat} {s x : Int} {p : List Int} (h : ¬ n ≤ 1) (h2 : oth i < n) : chk n i s (x :: p) = chk ((n + 1) / 2) (i / 2) (if i % 2 = 0 then nodeS s x else nodeS x s) p := by rw [chk.eq_def, dif_neg h, if_pos h2]
/-- How many sums a way wants. -/
def wants (n i : Nat) : Nat := if h : n ≤ 1 then 0 else (if oth i < n then 1 else 0) + wants ((n + 1) / 2) (i / 2)
termination_by n
theorem wants_one {n i : Nat} (h : n ≤ 1) : wants n i = 0 := by rw [wants, dif_pos h]
theorem wants_up {n i : Nat} (h : ¬ n ≤ 1) : wants n i = (if oth i < n then 1 else 0) + wants ((n + 1) / 2) (i / 2) := by rw [wants, dif_neg h]
theorem chk_len : ∀ (n : Nat) (i : Nat) (s : Int) (p : List Int) (r : Int), chk n i s p = some r → p.length = wants n i := by
  intro n
  induction n using Nat.strongRecOn with
  | _ n ih =>
    intro i s p r h
    by_cases h1 : n ≤ 1
    · rw [chk_one h1] at h
      rw [wants_one h1]
      split at h
      · rename_i hp; rw [hp]; rfl
      · cases h
    · rw [wants_up h1]
      by_cases h2 : oth i < n
      · cases p with
        | nil => rw [chk_nil h1 h2] at h; cases h
        | cons x p =>
          rw [chk_cons h1 h2] at h
          have := ih _ (by omega) _ _ _ _ h
          rw [if_pos h2, List.length_cons]; omega
      · rw [chk_pass h1 h2] at h
        have := ih _ (by omega) _ _ _ _ h
        rw [if_neg h2]; omega
theorem besides_len : ∀ (n : Nat) (L : List Int) (i : Nat), L.length = n → (besides L i).length = wants n i := by
  intro n
  induction n using Nat.strongRecOn with
  | _ n ih =>
    intro L i hn
    subst hn
    by_cases h1 : L.length ≤ 1
    · rw [besides_one h1, wants_one h1]; rfl
    · rw [besides_up h1, wants_up h1, List.length_append, ih _ (up_short h1) (up L) (i / 2) rfl, up_length]
      split <;> simp
/-- Each piece is proved by the sums beside its way. -/
theorem chk_besides : ∀ (n : Nat) (L : List Int) (i : Nat) (h : i < L.length), L.length = n → chk n i L[i] (besides L i) = some (rootS L) := by
  intro n
  induction n using Nat.strongRecOn with
  | _ n ih =>
    intro L i h hn
    subst hn
    by_cases h1 : L.length ≤ 1
    · rw [besides_one h1, chk_one h1, rootS_one h1, if_pos rfl]
      match L, h, h1 with
      | [a], h, _ =>
        have : i = 0 := by simp at h; omega
        subst this; rfl
    · have hlen := up_length L
      have hi2 : i / 2 < (up L).length := by omega
      have hg := up_get L (i / 2) hi2
      have hr := ih _ (up_short h1) (up L) (i / 2) hi2 rfl
      rw [rootS_up h1, besides_up h1, ← hr]
      by_cases h2 : oth i < L.length
      · rw [dif_pos h2, List.singleton_append, chk_cons h1 h2, ← hlen]
        congr 1
        rw [hg]
        by_cases he : i % 2 = 0
        · have ho : oth i = i + 1 := by unfold oth; rw [if_pos he]
          rw [if_pos he, dif_pos (by omega)]
          congr 1
          · congr 1; omega
          · simp only [ho]; congr 1; omega
        · have ho : oth i = i - 1 := by unfold oth; rw [if_neg he]
          rw [if_neg he, dif_pos (by omega)]
          congr 1
          · simp only [ho]; congr 1; omega
          · congr 1; omega
      · have he : i % 2 = 0 := by
          rcases Nat.mod_two_eq_zero_or_one i with e | e
          · exact e
          · unfold oth at h2; rw [if_neg (by omega)] at h2; omega
        have ho : oth i = i + 1 := by unfold oth; rw [if_pos he]
        rw [dif_neg h2, List.nil_append, chk_pass h1 h2, ← hlen]
        congr 1
        rw [hg, dif_neg (by omega)]
        congr 1; omega
/-- Two pieces or more: each way wants a sum. -/
theorem wants_pos : ∀ (n i : Nat), 2 ≤ n → i < n → 1 ≤ wants n i := by
  intro n
  induction n using Nat.strongRecOn with
  | _ n ih =>
    intro i h hi
    rw [wants_up (by omega)]
    by_cases h2 : oth i < n
    · rw [if_pos h2]; omega
    · have he : i % 2 = 0 ∧ i + 1 ≥ n := by
        unfold oth at h2
        split at h2 <;> omega
      have := ih ((n + 1) / 2) (by omega) (i / 2) (by omega) (by omega)
      omega
/-- The sums of pieces. -/
def leavesFrom : Nat → List (List UInt8) → List Int
  | _, [] => []
  | k, s :: r => leafS (k : Int) s :: leavesFrom (k + 1) r
def leaves (xs : List (List UInt8)) : List Int := leavesFrom 0 xs
theorem leavesFrom_length : ∀ (k : Nat) (xs : List (List UInt8)), (leavesFrom k xs).length = xs.length
  | _, [] => rfl
  | k, _ :: r => by simp [leavesFrom, leavesFrom_length (k + 1) r]
theorem leaves_length (xs : List (List UInt8)) : (leaves xs).length = xs.length := leavesFrom_length 0 xs
theorem leavesFrom_get : ∀ (k : Nat) (xs : List (List UInt8)) (i : Nat) (h : i < (leavesFrom k xs).length), (leavesFrom k xs)[i] = leafS ((k + i : Nat) : Int) (xs[i]'(by rw [leavesFrom_length] at h; exact h))
  | k, [], i, h => by simp [leavesFrom] at h
  | k, s :: r, 0, h => rfl
  | k, s :: r, i + 1, h => by
    have := leavesFrom_get (k + 1) r i (by simpa [leavesFrom] using h)
    simp only [leavesFrom, List.getElem_cons_succ, this]
    congr 2; omega
theorem leaves_get (xs : List (List UInt8)) (i : Nat) (h : i < (leaves xs).length) : (leaves xs)[i] = leafS (i : Int) (xs[i]'(by rw [leaves_length] at h; exact h)) := by
  refine (leavesFrom_get 0 xs i h).trans ?_
  rw [Nat.zero_add]
theorem leavesFrom_snoc : ∀ (k : Nat) (xs : List (List UInt8)) (s : List UInt8), leavesFrom k (xs ++ [s]) = leavesFrom k xs ++ [leafS ((k + xs.length : Nat) : Int) s]
  | k, [], s => by simp [leavesFrom]
  | k, x :: r, s => by
    simp only [List.cons_append, leavesFrom, leavesFrom_snoc (k + 1) r s, List.length_cons]
    congr 4; omega
theorem leaves_snoc (xs : List (List UInt8)) (s : List UInt8) : leaves (xs ++ [s]) = leaves xs ++ [leafS (xs.length : Int) s] := by
  have := leavesFrom_snoc 0 xs s
  simpa [leaves] using this
theorem leaves_sum (xs : List (List UInt8)) : ∀ a ∈ leaves xs, Sum a := by
  intro a ha
  obtain ⟨i, hi, rfl⟩ := List.mem_iff_getElem.1 ha
  rw [leaves_get]
  exact leafS_sum _ _
theorem rootS_sum : ∀ (n : Nat) (L : List Int), L.length = n → 1 ≤ n → (∀ a ∈ L, Sum a) → Sum (rootS L) := by
  intro n
  induction n using Nat.strongRecOn with
  | _ n ih =>
    intro L hn h1 hs
    subst hn
    by_cases h : L.length ≤ 1
    · rw [rootS_one h]
      match L, h, h1 with
      | [a], _, _ => exact hs a (by simp)
    · rw [rootS_up h]
      exact ih _ (up_short h) (up L) rfl (by rw [up_length]; omega) (up_sum hs)
theorem besides_sum : ∀ (n : Nat) (L : List Int) (i : Nat), L.length = n → (∀ a ∈ L, Sum a) → ∀ a ∈ besides L i, Sum a := by
  intro n
  induction n using Nat.strongRecOn with
  | _ n ih =>
    intro L i hn hs a ha
    subst hn
    by_cases h : L.length ≤ 1
    · rw [besides_one h] at ha; simp at ha
    · rw [besides_up h, List.mem_append] at ha
      rcases ha with ha | ha
      · split at ha
        · simp at ha; rw [ha]; exact hs _ (List.getElem_mem _)
        · simp at ha
      · exact ih _ (up_short h) (up L) (i / 2) rfl (up_sum hs) a ha
/-- The ways of the first two pieces differ in their first sum alone. -/
theorem besides_pair {L : List Int} (h : 2 ≤ L.length) : ∃ r, besides L 0 = L[1] :: r ∧ besides L 1 = L[0] :: r := by
  have h1 : ¬ L.length ≤ 1 := by omega
  refine ⟨besides (up L) 0, ?_, ?_⟩
  · rw [besides_up h1, dif_pos (by simp [oth]; omega)]; simp [oth]
  · rw [besides_up h1, dif_pos (by simp [oth]; omega)]; simp [oth]
end Go.Proofs.YtajmfonepnkofaaDoor
namespace Go.Proofs.YtajmfonepnkofaaDoor
open Go.RowKit Rg
set_option linter.unusedVariables false
set_option linter.unusedSimpArgs false

theorem str_get (s : ByteArray) (k : Nat) (h : k < s.size) : s.data.toList.take (k + 1) = s.data.toList.take k ++ [s[k]] := by
  have hl : k < s.data.toList.length := by simpa using h
  rw [List.take_succ_eq_append_getElem hl]
  rfl
theorem crc_snoc (c : Nat) (s : ByteArray) (k : Nat) (h : k < s.size) : crcF c (s.data.toList.take (k + 1)) = crcB (crcF c (s.data.toList.take k)) s[k].toNat := by
  rw [str_get s k h, crcF_append]
  rfl
theorem wrap_u32_small (n : Nat) (h : n < 4294967296) : IntKind.u32.wrap (n : Int) = (n : Int) := by
  have e : (n : Int) % 4294967296 = (n : Int) := by omega
  show (if false && decide ((n : Int) % 4294967296 ≥ 2147483648) then (n : Int) % 4294967296 - 4294967296 else (n : Int) % 4294967296) = (n : Int)
  rw [e]; simp
theorem bv32 (a : Nat) (h : a < 4294967296) : (BitVec.ofInt 32 (a : Int)).toNat = a := by
  rw [BitVec.ofInt_natCast, BitVec.toNat_ofNat]; exact Nat.mod_eq_of_lt (by omega)
theorem xor_u32 (a b : Nat) (ha : a < 4294967296) (hb : b < 4294967296) : bits .xor .u32 (a : Int) (b : Int) = ((a ^^^ b : Nat) : Int) := by
  have hx : a ^^^ b < 2 ^ 32 := Nat.xor_lt_two_pow (by omega) (by omega)
  show IntKind.u32.wrap ((BitVec.ofInt 32 (a : Int) ^^^ BitVec.ofInt 32 (b : Int)).toNat : Int) = _
  rw [BitVec.toNat_xor, bv32 a ha, bv32 b hb, wrap_u32_small _ (by omega)]
theorem and_u32 (a : Nat) (ha : a < 4294967296) : bits .and .u32 (a : Int) 1 = ((a % 2 : Nat) : Int) := by
  show IntKind.u32.wrap ((BitVec.ofInt 32 (a : Int) &&& BitVec.ofInt 32 ((1 : Nat) : Int)).toNat : Int) = _
  rw [BitVec.toNat_and, bv32 a ha, bv32 1 (by omega), Nat.and_one_is_mod, wrap_u32_small _ (by omega)]
set_option maxHeartbeats 1000000 in
theorem l7Crc_c (s : ByteArray) (w : World) (hs : s.size ≤ 1048576) :
    Calls Tryd.prog 25 #[.string s] w fun e w' => e = .returned (.int .i64 (crcN s.data.toList : Int)) ∧ w = w' := by
  go_enter Tryd.func25, Tryd.ntmps25
  go_wp2
  go_loop [3, 4] (fun cv i => ∃ k : Nat, k ≤ s.size ∧ i = .int .i64 k ∧ cv = .int .i64 (crcF 4294967295 (s.data.toList.take k) : Int)) (fun _ i => s.size - (intOf i).toNat)
  case atStart => exact ⟨0, Nat.zero_le _, rfl, rfl⟩
  case round =>
    obtain ⟨k, hk, rfl, rfl⟩ := hrel
    by_cases hlt : k < s.size
    · have hc := crc_snoc 4294967295 s k hlt
      have hC : crcF 4294967295 (s.data.toList.take k) < 4294967296 := crcF_lt _ (by omega)
      generalize crcF 4294967295 (s.data.toList.take k) = C at *
      have hb : s[k].toNat < 256 := s[k].toNat_lt
      have hx0 := hide (xor_i64 (C : Int) (s[k].toNat : Int) (by omega) (by omega) (by omega) (by omega))
      have hD : C ^^^ s[k].toNat < 4294967296 := Nat.xor_lt_two_pow (n := 32) hC (by omega)
      have hc' := hide hc
      clear hc
      go_wp2
      go_loop [3, 5] (fun cv i => ∃ j E : Nat, j ≤ 8 ∧ i = .int .i64 j ∧ cv = .int .i64 (E : Int) ∧ E < 4294967296 ∧ Hid (crcK (8 - j) E = crcB C s[k].toNat)) (fun _ i => 8 - (intOf i).toNat)
      case atStart => exact ⟨0, C ^^^ s[k].toNat, by omega, rfl, congrArg (Value.int .i64) hx0.out, hD, hide rfl⟩
      case round =>
        obtain ⟨j, E, hj, rfl, rfl, hE, hk8⟩ := hrel
        by_cases hj8 : j < 8
        · have e8 : 8 - j = (8 - (j + 1)) + 1 := by omega
          have hk9 := hk8.out
          rw [e8] at hk9
          have hk9' := hide hk9
          clear hk9 e8
          by_cases hodd : E % 2 = 1
          · have hx1 := hide (xor_i64 ((E / 2 : Nat) : Int) 3988292384 (by omega) (by omega) (by omega) (by omega))
            have hc1 : Hid (crc1 E = (E / 2) ^^^ 3988292384) := hide (by rw [crc1, if_pos hodd])
            go_wp2
            go_round
            case rel => exact ⟨j + 1, crc1 E, by omega, by go_num, congrArg (Value.int .i64) (hx1.out.trans (by rw [hc1.out]; rfl)), crc1_lt hE, hide hk9'.out⟩
            case measure => simp [intOf]; omega
          · have hc1 : Hid (crc1 E = E / 2) := hide (by rw [crc1, if_neg hodd])
            go_wp2
            go_round
            case rel => exact ⟨j + 1, crc1 E, by omega, by go_num, by rw [hc1.out]; rfl, crc1_lt hE, hide hk9'.out⟩
            case measure => simp [intOf]; omega
        · obtain rfl : j = 8 := by omega
          go_wp2
          go_round
          case rel => exact ⟨k + 1, by omega, by go_num, by rw [hc'.out, ← hk8.out]; rfl⟩
          case measure => simp [intOf]; omega
    · obtain rfl : k = s.size := by omega
      have hf : Hid (s.data.toList.take s.size = s.data.toList) := hide (List.take_of_length_le (by simp))
      have hC := crcF_lt s.data.toList (c := 4294967295) (by omega)
      have hx := hide (xor_i64 (crcF 4294967295 s.data.toList : Int) 4294967295 (by omega) (by omega) (by omega) (by omega))
      rw [hf.out]
      go_wp2
      go_ret
      exact ⟨congrArg (fun v => Ending.returned (.int .i64 v)) hx.out, rfl⟩

set_option maxHeartbeats 1000000 in
theorem Crc_c (s : ByteArray) (w : World) (hs : s.size ≤ 1048576) :
    Calls Tryd.prog 16 #[.string s] w fun e w' => e = .returned (.int .i64 (crcN s.data.toList : Int)) ∧ w = w' := by
  go_enter Tryd.func16, Tryd.ntmps16
  go_wp2
  go_loop [3, 4] (fun cv i => ∃ k : Nat, k ≤ s.size ∧ i = .int .i64 k ∧ cv = .int .u32 (crcF 4294967295 (s.data.toList.take k) : Int)) (fun _ i => s.size - (intOf i).toNat)
  case atStart => exact ⟨0, Nat.zero_le _, rfl, rfl⟩
  case round =>
    obtain ⟨k, hk, rfl, rfl⟩ := hrel
    by_cases hlt : k < s.size
    · have hc := crc_snoc 4294967295 s k hlt
      have hC : crcF 4294967295 (s.data.toList.take k) < 4294967296 := crcF_lt _ (by omega)
      generalize crcF 4294967295 (s.data.toList.take k) = C at *
      have hb : s[k].toNat < 256 := s[k].toNat_lt
      have hD : C ^^^ s[k].toNat < 4294967296 := Nat.xor_lt_two_pow (n := 32) hC (by omega)
      have hc' := hide hc
      clear hc
      go_wp2
      go_loop [3, 18] (fun cv i => ∃ j E : Nat, j ≤ 8 ∧ i = .int .i64 j ∧ cv = .int .u32 (E : Int) ∧ E < 4294967296 ∧ Hid (crcK (8 - j) E = crcB C s[k].toNat)) (fun _ i => 8 - (intOf i).toNat)
      case atStart => exact ⟨0, C ^^^ s[k].toNat, by omega, rfl, congrArg (Value.int .u32) (xor_u32 C s[k].toNat hC (by omega)), hD, hide rfl⟩
      case round =>
        obtain ⟨j, E, hj, rfl, rfl, hE, hk8⟩ := hrel
        by_cases hj8 : j < 8
        · have e8 : 8 - j = (8 - (j + 1)) + 1 := by omega
          have hk9 := hk8.out
          rw [e8] at hk9
          have hk9' := hide hk9
          clear hk9 e8
          by_cases hodd : E % 2 = 1
          · have hc1 : Hid (crc1 E = (E / 2) ^^^ 3988292384) := hide (by rw [crc1, if_pos hodd])
            have d1 : (bits BinOp.and IntKind.u32 (E : Int) 1 == 1) = true := by rw [and_u32 E hE, hodd]; rfl
            go_wp2
            go_round
            case rel => exact ⟨j + 1, crc1 E, by omega, by go_num, congrArg (Value.int .u32) ((xor_u32 (E / 2) 3988292384 (by omega) (by omega)).trans (by rw [hc1.out])), crc1_lt hE, hide hk9'.out⟩
            case measure => simp [intOf]; omega
          · have hc1 : Hid (crc1 E = E / 2) := hide (by rw [crc1, if_neg hodd])
            have d1 : (bits BinOp.and IntKind.u32 (E : Int) 1 == 1) = false := by rw [and_u32 E hE, show E % 2 = 0 by omega]; rfl
            go_wp2
            go_round
            case rel => exact ⟨j + 1, crc1 E, by omega, by go_num, by rw [hc1.out]; rfl, crc1_lt hE, hide hk9'.out⟩
            case measure => simp [intOf]; omega
        · obtain rfl : j = 8 := by omega
          go_wp2
          go_round
          case rel => exact ⟨k + 1, by omega, by go_num, by rw [hc'.out, ← hk8.out]; rfl⟩
          case measure => simp [intOf]; omega
    · obtain rfl : k = s.size := by omega
      have hf : Hid (s.data.toList.take s.size = s.data.toList) := hide (List.take_of_length_le (by simp))
      have hC := crcF_lt s.data.toList (c := 4294967295) (by omega)
      rw [hf.out]
      have hx := xor_u32 4294967295 (crcF 4294967295 s.data.toList) (by omega) hC
      have hx2 : Hid (wrap64 (bits BinOp.xor IntKind.u32 IntKind.u32.max (crcF 4294967295 s.data.toList : Int)) = (crcN s.data.toList : Int)) := hide (by
        have e1 : IntKind.u32.max = ((4294967295 : Nat) : Int) := rfl
        have h2 := crcN_lt s.data.toList
        rw [e1, hx, Nat.xor_comm 4294967295]
        show wrap64 ((crcN s.data.toList : Nat) : Int) = _
        unfold wrap64
        omega)
      clear hx
      go_wp2
      go_ret
      exact ⟨congrArg (fun v => Ending.returned (.int .i64 v)) hx2.out, rfl⟩
end Go.Proofs.YtajmfonepnkofaaDoor
namespace Go.Proofs.YtajmfonepnkofaaDoor
open Go.RowKit Rg
set_option linter.unusedVariables false
set_option linter.unusedSimpArgs false

/-- A box of four cells. -/
def Bx4 (w : World) (b : Nat) (v0 v1 v2 v3 : Value) (t : TypeId) : Prop := w.heap[b]? = some (.cells #[v0, v1, v2, v3] t (0, 0))
section
variable {w w' : World} {b : Nat} {v0 v1 v2 v3 : Value} {t : TypeId}
theorem Bx4.made (w : World) (v0 v1 v2 v3 : Value) (t : TypeId) : Bx4 (w.alloc (.cells #[v0, v1, v2, v3] t)) w.heap.size v0 v1 v2 v3 t := heap_alloc_new w _
theorem Bx4.lt (h : Bx4 w b v0 v1 v2 v3 t) : b < w.heap.size := lt_of_heap h
theorem Bx4.below {K : Nat} (h : Bx4 w b v0 v1 v2 v3 t) (hb : Below K w w') (hK : b < K) : Bx4 w' b v0 v1 v2 v3 t := (hb.block b hK).trans h
theorem Bx4.cells (h : Bx4 w b v0 v1 v2 v3 t) : w.cell? ⟨b, 0, none⟩ = some v0 ∧ w.cell? ⟨b, 1, none⟩ = some v1 ∧ w.cell? ⟨b, 2, none⟩ = some v2 ∧ w.cell? ⟨b, 3, none⟩ = some v3 ∧ w.frozen? ⟨b, 0, none⟩ = false ∧ w.frozen? ⟨b, 1, none⟩ = false ∧ w.frozen? ⟨b, 2, none⟩ = false ∧ w.frozen? ⟨b, 3, none⟩ = false := by
  unfold Bx4 at h
  refine ⟨?_, ?_, ?_, ?_, ?_, ?_, ?_, ?_⟩ <;> first | (simp only [World.cell?, h]; rfl) | (simp [World.frozen?, h])
end
/-- What 'ReplyOf' returns. -/
noncomputable def ansR (frm : Int) (g : GameT) (r : ReqV) : ReplyT × Bool := if inB frm 0 3 = true ∧ okB g = true ∧ okR r = true then ((frm, r.2.1, (doG g r).2, (crcN (putG (doG g r).1) : Int)), true) else ((0, 0, 0, 0), false)
def AnsP (w : World) (x : ReplyT × Bool) (e : Ending) (w' : World) : Prop := e = .returned (.tuple #[.agg #[.int .i64 x.1.1, .int .i64 x.1.2.1, .int .i64 x.1.2.2.1, .int .i64 x.1.2.2.2], .bool x.2]) ∧ Below w.heap.size w w'
theorem okR_NA {r : ReqV} (h : okR r = true) : okNA r := (okN_iff r).1 (by unfold okN; rw [h]; simp)
theorem doG_ok {g : GameT} {r : ReqV} (h : okG g) (hr : okNA r) : okG (doG g r).1 := okG.doing h hr
theorem Bx3.app {w w' : World} {b : Nat} {v0 v1 v2 : Value} {t : TypeId} (h : Bx3 w b v0 v1 v2 t) (hb : Below w.heap.size w w') : Bx3 w' b v0 v1 v2 t := h.below hb h.lt
section
variable {w5 wD : World} {g8 : Nat} {z0 z1 z2 : Value} {A : Option Addr} {n c : Nat} {B : Option Addr} {p d : Nat} {E : Option Addr} {q f : Nat} {D6 : Nat → Prop} {g : GameT}
theorem fin8 (hbz : Bx3 wD g8 z0 z1 z2 35) (h5 : Below w5.heap.size w5 wD) (hg8 : w5.heap.size ≤ g8) (hg : GmD wD D6 A n c B p d E q f g) (hD : ∀ b, D6 b → w5.heap.size ≤ b ∧ b < wD.heap.size ∧ b ≠ g8) :
    Bx3 (((wD.setCell ⟨g8, 0, none⟩ (.slice A n c)).setCell ⟨g8, 1, none⟩ (.slice B p d)).setCell ⟨g8, 2, none⟩ (.slice E q f)) g8 (.slice A n c) (.slice B p d) (.slice E q f) 35 ∧
    Below w5.heap.size w5 (((wD.setCell ⟨g8, 0, none⟩ (.slice A n c)).setCell ⟨g8, 1, none⟩ (.slice B p d)).setCell ⟨g8, 2, none⟩ (.slice E q f)) ∧
    GmD (((wD.setCell ⟨g8, 0, none⟩ (.slice A n c)).setCell ⟨g8, 1, none⟩ (.slice B p d)).setCell ⟨g8, 2, none⟩ (.slice E q f)) (fun b => w5.heap.size ≤ b ∧ b < (((wD.setCell ⟨g8, 0, none⟩ (.slice A n c)).setCell ⟨g8, 1, none⟩ (.slice B p d)).setCell ⟨g8, 2, none⟩ (.slice E q f)).heap.size) A n c B p d E q f g := by
  have hO : Onl g8 g8 wD (((wD.setCell ⟨g8, 0, none⟩ (.slice A n c)).setCell ⟨g8, 1, none⟩ (.slice B p d)).setCell ⟨g8, 2, none⟩ (.slice E q f)) := (((Onl.refl g8 g8 wD).set (p := ⟨g8, 0, none⟩) (.inl rfl) (.slice A n c)).set (p := ⟨g8, 1, none⟩) (.inl rfl) (.slice B p d)).set (p := ⟨g8, 2, none⟩) (.inl rfl) (.slice E q f)
  exact ⟨hbz.sets _ _ _, hO.bel _ _ hg8 hg8 h5, (hg.keep (fun b hb => hO.blk b (hD b hb).2.2 (hD b hb).2.2)).mono (fun b hb => ⟨(hD b hb).1, by rw [hO.size]; exact (hD b hb).2.1⟩)⟩
theorem fin9 (h5 : Below w5.heap.size w5 wD) (hg : GmD wD D6 A n c B p d E q f g) (hD : ∀ b, D6 b → w5.heap.size ≤ b ∧ b < wD.heap.size) :
    Bx3 (wD.alloc (.cells #[.slice A n c, .slice B p d, .slice E q f] 35)) wD.heap.size (.slice A n c) (.slice B p d) (.slice E q f) 35 ∧
    Below w5.heap.size w5 (wD.alloc (.cells #[.slice A n c, .slice B p d, .slice E q f] 35)) ∧
    GmD (wD.alloc (.cells #[.slice A n c, .slice B p d, .slice E q f] 35)) (fun b => w5.heap.size ≤ b ∧ b < (wD.alloc (.cells #[.slice A n c, .slice B p d, .slice E q f] 35)).heap.size) A n c B p d E q f g :=
  ⟨Bx3.made _ _ _ _ _, h5.alloc h5.size _, (hg.below ((Below.refl wD.heap.size wD).alloc (Nat.le_refl _) _) (fun b hb => (hD b hb).2)).mono (fun b hb => ⟨(hD b hb).1, by simp only [World.size_alloc]; have := (hD b hb).2; omega⟩)⟩
end
theorem leafW {P : Program} {c : Code} {Q : Exit → Act → World → Prop} {a : Act} {w : World} (S : World → Prop) (h1 : S w) (h2 : ∀ W, S W → Code.wp P c Q a W) : Code.wp P c Q a w := h2 w h1
set_option maxRecDepth 100000 in
set_option maxHeartbeats 4000000 in
theorem ReplyOf_c (frm : Int) (A : Option Addr) (n c : Nat) (B : Option Addr) (p d : Nat) (E : Option Addr) (q f : Nat) (D : Nat → Prop) (g : GameT) (r : ReqV) (w : World) (hg : GmD w D A n c B p d E q f g) (hD : ∀ b, D b → b < w.heap.size) (hbn : n ≤ 1048576) (hbp : p ≤ 1048576) (hbq : q ≤ 1048576) :
    Calls Tryd.prog 9 #[.int .i64 frm, .agg #[.slice A n c, .slice B p d, .slice E q f], .agg #[.int .i64 r.1, .int .i64 r.2.1, .int .i64 r.2.2.1, .int .i64 r.2.2.2.1, .int .i64 r.2.2.2.2]] w fun e w' => AnsP w (ansR frm g r) e w' := by
  have hAB : Below w.heap.size w (((w.alloc (.cells #[.slice A n c, .slice B p d, .slice E q f] 35)).alloc (.cells #[.int .i64 r.1, .int .i64 r.2.1, .int .i64 r.2.2.1, .int .i64 r.2.2.2.1, .int .i64 r.2.2.2.2] 37)).alloc (.cells #[.int .i64 0, .int .i64 0, .int .i64 0, .int .i64 0] 30)) := (((Below.refl w.heap.size w).alloc (Nat.le_refl _) _).alloc (by simp) _).alloc (by simp; omega) _
  have hx0 : Bx3 (((w.alloc (.cells #[.slice A n c, .slice B p d, .slice E q f] 35)).alloc (.cells #[.int .i64 r.1, .int .i64 r.2.1, .int .i64 r.2.2.1, .int .i64 r.2.2.2.1, .int .i64 r.2.2.2.2] 37)).alloc (.cells #[.int .i64 0, .int .i64 0, .int .i64 0, .int .i64 0] 30)) w.heap.size (.slice A n c) (.slice B p d) (.slice E q f) 35 := ((Bx3.made w (.slice A n c) (.slice B p d) (.slice E q f) 35).alloc _).alloc _
  have hr0 : Bx5 (((w.alloc (.cells #[.slice A n c, .slice B p d, .slice E q f] 35)).alloc (.cells #[.int .i64 r.1, .int .i64 r.2.1, .int .i64 r.2.2.1, .int .i64 r.2.2.2.1, .int .i64 r.2.2.2.2] 37)).alloc (.cells #[.int .i64 0, .int .i64 0, .int .i64 0, .int .i64 0] 30)) (w.heap.size + 1) r 37 := by
    have h2 := (Bx5.made (w.alloc (.cells #[.slice A n c, .slice B p d, .slice E q f] 35)) r 37).below ((Below.refl _ _).alloc (Nat.le_refl _) (.cells #[.int .i64 0, .int .i64 0, .int .i64 0, .int .i64 0] 30)) (by simp)
    simp only [World.size_alloc] at h2
    exact h2
  have hz0 : Bx4 (((w.alloc (.cells #[.slice A n c, .slice B p d, .slice E q f] 35)).alloc (.cells #[.int .i64 r.1, .int .i64 r.2.1, .int .i64 r.2.2.1, .int .i64 r.2.2.2.1, .int .i64 r.2.2.2.2] 37)).alloc (.cells #[.int .i64 0, .int .i64 0, .int .i64 0, .int .i64 0] 30)) (w.heap.size + 2) (.int .i64 0) (.int .i64 0) (.int .i64 0) (.int .i64 0) 30 := by
    have h2 := Bx4.made ((w.alloc (.cells #[.slice A n c, .slice B p d, .slice E q f] 35)).alloc (.cells #[.int .i64 r.1, .int .i64 r.2.1, .int .i64 r.2.2.1, .int .i64 r.2.2.2.1, .int .i64 r.2.2.2.2] 37)) (.int .i64 0) (.int .i64 0) (.int .i64 0) (.int .i64 0) 30
    simp only [World.size_alloc] at h2
    exact h2
  have hz3 : w.heap.size + 3 ≤ (((w.alloc (.cells #[.slice A n c, .slice B p d, .slice E q f] 35)).alloc (.cells #[.int .i64 r.1, .int .i64 r.2.1, .int .i64 r.2.2.1, .int .i64 r.2.2.2.1, .int .i64 r.2.2.2.2] 37)).alloc (.cells #[.int .i64 0, .int .i64 0, .int .i64 0, .int .i64 0] 30)).heap.size := by simp only [World.size_alloc]; omega
  have hg3 := hide (hg.below hAB hD)
  have hn' := hide hg.en.len
  have hp' := hide hg.fl.len
  have hq' := hide hg.la.len
  clear hg
  obtain ⟨xx0, xx1, xx2, -, -, -⟩ := hx0.cells
  obtain ⟨rr0, rr1, rr2, rr3, rr4, -⟩ := hr0.cells
  obtain ⟨yy0, yy1, yy2, yy3, yg0, yg1, yg2, yg3⟩ := hz0.cells
  have hnot : Hid (∀ (h : ¬ (inB frm 0 3 = true ∧ okB g = true ∧ okR r = true)), ansR frm g r = ((0, 0, 0, 0), false)) := hide (fun h => if_neg h)
  go_enter Tryd.func9, Tryd.ntmps9
  go_wp2_with fail
  generalize (((w.alloc (.cells #[.slice A n c, .slice B p d, .slice E q f] 35)).alloc (.cells #[.int .i64 r.1, .int .i64 r.2.1, .int .i64 r.2.2.1, .int .i64 r.2.2.2.1, .int .i64 r.2.2.2.2] 37)).alloc (.cells #[.int .i64 0, .int .i64 0, .int .i64 0, .int .i64 0] 30)) = w3 at *
  cases i1 : inB frm 0 3
  · have hres := hide (hnot.out (fun h => by rw [i1] at h; cases h.1))
    go_wp2_with (first
      | (go_at_call 29; refine (isKeeper_c _ _).mono ?_; rintro e _ ⟨rfl, rfl⟩; rw [i1])
      | fail)
    refine bodyPost_ret (v := .tuple #[.agg #[.int .i64 0, .int .i64 0, .int .i64 0, .int .i64 0], .bool false]) (by simp [results, Tryd.results9, go_sem, yy0, yy1, yy2, yy3, yg0, yg1, yg2, yg3]) rfl ?_
    rw [hres.out]
    exact ⟨rfl, by first | exact hAB | exact (((hAB.setCell (p := ⟨w.heap.size + 2, 0, none⟩) (by simp) _).setCell (p := ⟨w.heap.size + 2, 1, none⟩) (by simp) _).setCell (p := ⟨w.heap.size + 2, 2, none⟩) (by simp) _).setCell (p := ⟨w.heap.size + 2, 3, none⟩) (by simp) _⟩
  · cases i2 : okB g
    · have hres := hide (hnot.out (fun h => by rw [i2] at h; cases h.2.1))
      go_wp2_with (first
        | (go_at_call 29; refine (isKeeper_c _ _).mono ?_; rintro e _ ⟨rfl, rfl⟩; rw [i1])
        | (go_at_call 30; refine (GameOkA_c A n c B p d E q f D g w3 hg3.out (fun b hb => by have := hD b hb; omega) hbn hbp hbq).mono ?_; rintro e w4 ⟨rfl, hb4⟩; rw [i2]; have hz4 := hb4.size; have hB4 := hAB.trans (hb4.mono (by omega)); have hz04 := hz0.below hb4 hz0.lt; clear yy0 yy1 yy2 yy3 yg0 yg1 yg2 yg3; obtain ⟨yy0, yy1, yy2, yy3, yg0, yg1, yg2, yg3⟩ := hz04.cells)
        | fail)
      refine bodyPost_ret (v := .tuple #[.agg #[.int .i64 0, .int .i64 0, .int .i64 0, .int .i64 0], .bool false]) (by simp [results, Tryd.results9, go_sem, yy0, yy1, yy2, yy3, yg0, yg1, yg2, yg3]) rfl ?_
      rw [hres.out]
      exact ⟨rfl, by first | exact hB4 | exact (((hB4.setCell (p := ⟨w.heap.size + 2, 0, none⟩) (by simp) _).setCell (p := ⟨w.heap.size + 2, 1, none⟩) (by simp) _).setCell (p := ⟨w.heap.size + 2, 2, none⟩) (by simp) _).setCell (p := ⟨w.heap.size + 2, 3, none⟩) (by simp) _⟩
    · cases i3 : okR r
      · have hres := hide (hnot.out (fun h => by rw [i3] at h; cases h.2.2))
        go_wp2_with (first
          | (go_at_call 29; refine (isKeeper_c _ _).mono ?_; rintro e _ ⟨rfl, rfl⟩; rw [i1])
          | (go_at_call 30; refine (GameOkA_c A n c B p d E q f D g w3 hg3.out (fun b hb => by have := hD b hb; omega) hbn hbp hbq).mono ?_; rintro e w4 ⟨rfl, hb4⟩; rw [i2]; have hz4 := hb4.size; have hB4 := hAB.trans (hb4.mono (by omega)); have hr4 := hr0.below hb4 hr0.lt; clear rr0 rr1 rr2 rr3 rr4; obtain ⟨rr0, rr1, rr2, rr3, rr4, -⟩ := hr4.cells)
          | (go_at_call 31; refine (ReqOk_c r.1 r.2.1 r.2.2.1 r.2.2.2.1 r.2.2.2.2 w4).mono ?_; rintro e w5 ⟨rfl, hb5⟩; rw [show okR (r.1, r.2.1, r.2.2.1, r.2.2.2.1, r.2.2.2.2) = false from i3]; have hz5 := hb5.size; have hB5 := hB4.trans (hb5.mono (by omega)); have hz05 := (hz0.below hb4 hz0.lt).below hb5 (by have := hz0.lt; omega); clear yy0 yy1 yy2 yy3 yg0 yg1 yg2 yg3; obtain ⟨yy0, yy1, yy2, yy3, yg0, yg1, yg2, yg3⟩ := hz05.cells)
          | fail)
        refine bodyPost_ret (v := .tuple #[.agg #[.int .i64 0, .int .i64 0, .int .i64 0, .int .i64 0], .bool false]) (by simp [results, Tryd.results9, go_sem, yy0, yy1, yy2, yy3, yg0, yg1, yg2, yg3]) rfl ?_
        rw [hres.out]
        exact ⟨rfl, by first | exact hB5 | exact (((hB5.setCell (p := ⟨w.heap.size + 2, 0, none⟩) (by simp) _).setCell (p := ⟨w.heap.size + 2, 1, none⟩) (by simp) _).setCell (p := ⟨w.heap.size + 2, 2, none⟩) (by simp) _).setCell (p := ⟨w.heap.size + 2, 3, none⟩) (by simp) _⟩
      · have hres := hide (show ansR frm g r = ((frm, r.2.1, (doG g r).2, (crcN (putG (doG g r).1) : Int)), true) from if_pos ⟨i1, i2, i3⟩)
        have hok := hide ((okB_iff g).1 i2)
        have hna := hide (okR_NA i3)
        have hok2 := hide (doG_ok hok.out hna.out)
        have hsz := hide (show (asS (putG (doG g r).1)).size ≤ 1048576 by rw [asS_size]; have := putG_len hok2.out; omega)
        have hnd := hide hg3.out
        go_wp2_with (first
          | (go_at_call 29; refine (isKeeper_c _ _).mono ?_; rintro e _ ⟨rfl, rfl⟩; rw [i1])
          | (go_at_call 30; refine (GameOkA_c A n c B p d E q f D g w3 hg3.out (fun b hb => by have := hD b hb; omega) hbn hbp hbq).mono ?_; rintro e w4 ⟨rfl, hb4⟩; rw [i2]; have hz4 := hb4.size; have hB4 := hAB.trans (hb4.mono (by omega)); have hr4 := hr0.below hb4 hr0.lt; clear rr0 rr1 rr2 rr3 rr4; obtain ⟨rr0, rr1, rr2, rr3, rr4, -⟩ := hr4.cells)
          | (go_at_call 31; refine (ReqOk_c r.1 r.2.1 r.2.2.1 r.2.2.2.1 r.2.2.2.2 w4).mono ?_; rintro e w5 ⟨rfl, hb5⟩; rw [show okR (r.1, r.2.1, r.2.2.1, r.2.2.2.1, r.2.2.2.2) = true from i3]; have hz5 := hb5.size; have hB5 := hB4.trans (hb5.mono (by omega)); have h35 := hb4.trans (hb5.mono hz4); have hz05 := hz0.below h35 hz0.lt; have hx5 := hx0.below h35 hx0.lt; have hr5 := hr0.below h35 hr0.lt; have hg5 := hide (hg3.out.below h35 (fun b hb => by have := hD b hb; omega)); clear yy0 yy1 yy2 yy3 yg0 yg1 yg2 yg3 xx0 xx1 xx2 rr0 rr1 rr2 rr3 rr4; obtain ⟨yy0, yy1, yy2, yy3, yg0, yg1, yg2, yg3⟩ := hz05.cells; obtain ⟨xx0, xx1, xx2, -, -, -⟩ := hx5.cells; obtain ⟨rr0, rr1, rr2, rr3, rr4, -⟩ := hr5.cells)
          | fail)
        clear i1 i2 i3
        have hly5 := hz05.lt
        refine (GameDo_c A n c B p d E q f D g r w5 hg5.out (fun b hb => by have := hD b hb; omega) hok.out hna.out).mono ?_
        rintro e w6 ⟨A6, n6, gB6, gE6, rfl, ho6, hb6⟩
        have hz6 := hb6.size
        have hB6 := hB5.trans (hb6.mono (by omega))
        have hA7 := (Below.refl w6.heap.size w6).alloc (Nat.le_refl _) (.cells #[.slice A6 n6 n6, .slice (some ⟨gB6, 0, none⟩) 16 16, .slice (some ⟨gE6, 0, none⟩) 4 4] 35)
        have ht8 := Bx3.made w6 (.slice A6 n6 n6) (.slice (some ⟨gB6, 0, none⟩) 16 16) (.slice (some ⟨gE6, 0, none⟩) 4 4) 35
        have h58 := hb6.trans (hA7.mono hz6)
        have hz8 := h58.size
        have hB8 := hB6.trans (hA7.mono (by omega))
        have hz08 := hz05.below h58 hz05.lt
        have hr8 := hr5.below h58 hr5.lt
        have hg8 := hide (ho6.below hA7).gmD
        have hsz8 : (w6.alloc (.cells #[.slice A6 n6 n6, .slice (some ⟨gB6, 0, none⟩) 16 16, .slice (some ⟨gE6, 0, none⟩) 4 4] 35)).heap.size = w6.heap.size + 1 := by simp
        clear yy0 yy1 yy2 yy3 yg0 yg1 yg2 yg3 xx0 xx1 xx2 rr0 rr1 rr2 rr3 rr4 ho6
        obtain ⟨yy0, yy1, yy2, yy3, yg0, yg1, yg2, yg3⟩ := hz08.cells
        obtain ⟨rr0, rr1, rr2, rr3, rr4, -⟩ := hr8.cells
        obtain ⟨tt0, tt1, tt2, -, -, -⟩ := ht8.cells
        go_wp2
        generalize w6.alloc (.cells #[.slice A6 n6 n6, .slice (some ⟨gB6, 0, none⟩) 16 16, .slice (some ⟨gE6, 0, none⟩) 4 4] 35) = w8 at *
        have hlr8 := hr8.lt
        have hlt8 := ht8.lt
        have hly8 := hz08.lt
        have hst : Stays (w.heap.size + 1) (some (.cells #[.int .i64 r.1, .int .i64 r.2.1, .int .i64 r.2.2.1, .int .i64 r.2.2.2.1, .int .i64 r.2.2.2.2] 37 (0, 0))) w8 := ⟨hr8⟩
        refine wp_region_T (Stays _ _) [37] [] [32] [0, 1, 2, 3, 4, 5, 6, 7, 8, 9] (by kernel_rfl) (by kernel_rfl) (by kernel_rfl) (Stays.drew hst) ?_; simp only [pickL, List.getElem?_cons_succ, List.getElem?_cons_zero]
        go_wp2_with (first
          | (go_at_call 16; have hq := hb9; refine (Crc_c (asS (putG (doG g r).1)) w9 hsz.out).mono ?_; rintro e w10 ⟨rfl, rfl⟩; rw [asS_list]; have hK := hK)
          | (go_at_call 17; refine (GamePut_c A6 n6 n6 (some ⟨gB6, 0, none⟩) 16 16 (some ⟨gE6, 0, none⟩) 4 4 _ (doG g r).1 _ (hg8.out.below (K := w8.heap.size) (Below.drew (Below.refl _ _)) (fun b hb => hb.2)) (fun b hb => hb.2) hok2.out).mono ?_; rintro e w9 ⟨rfl, hb9'⟩; have hb9 : Below w8.heap.size w8 w9 := Below.appR (Below.drew (Below.refl _ _)) hb9'; have hz9 := hb9.size; have hst9 : Stays (w.heap.size + 1) (some (.cells #[.int .i64 r.1, .int .i64 r.2.1, .int .i64 r.2.2.1, .int .i64 r.2.2.2.1, .int .i64 r.2.2.2.2] 37 (0, 0))) w9 := ⟨(hb9.block _ hlr8).trans hst.heap⟩; have hz09 := hz08.below hb9 hz08.lt; clear yy0 yy1 yy2 yy3 yg0 yg1 yg2 yg3; obtain ⟨yy0, yy1, yy2, yy3, yg0, yg1, yg2, yg3⟩ := hz09.cells; have hK := hK)
          | ((with_reducible refine Stays.and_ ?_ ?_); (focus (repeat (first | (with_reducible assumption) | (with_reducible refine Stays.drew ?_) | ((with_reducible refine Stays.cell ?_ ?_); rotate_left; (focus (first | (with_reducible assumption) | (simp; done) | (simp; omega))))))); intro hS) | ((with_reducible refine wpT_q0 ?_ ?_ ?_ ?_); (focus rfl); (focus rfl); (focus rfl); intro K hK) | ((with_reducible apply wpT_k); (focus rfl); (focus rfl); (focus rfl); (focus rfl); (focus (first | assumption | exact Stays.drew (by assumption))); (focus rfl); (focus go_simp); intro K hK) | ((with_reducible refine wpT_xs0 ?_ ?_ ?_); (focus rfl); (focus rfl); intro K hK) | ((with_reducible refine wpT_noL ?_ ?_); (focus (first | exact wanted_no _ _ _ rfl rfl rfl | exact wanted_un _ _ _ rfl rfl rfl)); simp only [setO, List.set_cons_succ, List.set_cons_zero]) | ((with_reducible refine wpT_q1 ?_ ?_ ?_ ?_); (focus exact wanted_yes _ _ _ rfl rfl rfl); (focus rfl); (focus rfl); intro K hK) | ((with_reducible refine wpT_xs1 ?_ ?_ ?_); (focus exact wanted_yes _ _ _ rfl rfl rfl); (focus rfl); intro K hK) | ((with_reducible refine wpT_nil ?_); try dsimp only)
          | fail)
        refine bodyPost_ret (v := .tuple #[.agg #[.int .i64 frm, .int .i64 r.2.1, .int .i64 (doG g r).2, .int .i64 (crcN (putG (doG g r).1) : Int)], .bool true]) (by simp [results, Tryd.results9, go_sem, yy0, yy1, yy2, yy3, yg0, yg1, yg2, yg3]) rfl ?_
        rw [hres.out]
        have hB9 := hB8.trans (hb9.mono (by omega))
        exact ⟨rfl, by first | exact hB9 | exact (((hB9.setCell (p := ⟨w.heap.size + 2, 0, none⟩) (by simp) _).setCell (p := ⟨w.heap.size + 2, 1, none⟩) (by simp) _).setCell (p := ⟨w.heap.size + 2, 2, none⟩) (by simp) _).setCell (p := ⟨w.heap.size + 2, 3, none⟩) (by simp) _⟩
set_option maxRecDepth 100000 in
set_option maxHeartbeats 4000000 in
theorem ReplyOfS_c (frm : Int) (A : Option Addr) (n c : Nat) (B : Option Addr) (p d : Nat) (E : Option Addr) (q f : Nat) (D : Nat → Prop) (g : GameT) (r : ReqV) (w : World) (hg : GmD w D A n c B p d E q f g) (hD : ∀ b, D b → b < w.heap.size) (hbn : n ≤ 1048576) (hbp : p ≤ 1048576) (hbq : q ≤ 1048576) :
    Calls Tryd.prog 6 #[.int .i64 frm, .agg #[.slice A n c, .slice B p d, .slice E q f], .agg #[.int .i64 r.1, .int .i64 r.2.1, .int .i64 r.2.2.1, .int .i64 r.2.2.2.1, .int .i64 r.2.2.2.2]] w fun e w' => AnsP w (ansR frm g r) e w' := by
  have hAB : Below w.heap.size w (((w.alloc (.cells #[.slice A n c, .slice B p d, .slice E q f] 35)).alloc (.cells #[.int .i64 r.1, .int .i64 r.2.1, .int .i64 r.2.2.1, .int .i64 r.2.2.2.1, .int .i64 r.2.2.2.2] 37)).alloc (.cells #[.int .i64 0, .int .i64 0, .int .i64 0, .int .i64 0] 30)) := (((Below.refl w.heap.size w).alloc (Nat.le_refl _) _).alloc (by simp) _).alloc (by simp; omega) _
  have hx0 : Bx3 (((w.alloc (.cells #[.slice A n c, .slice B p d, .slice E q f] 35)).alloc (.cells #[.int .i64 r.1, .int .i64 r.2.1, .int .i64 r.2.2.1, .int .i64 r.2.2.2.1, .int .i64 r.2.2.2.2] 37)).alloc (.cells #[.int .i64 0, .int .i64 0, .int .i64 0, .int .i64 0] 30)) w.heap.size (.slice A n c) (.slice B p d) (.slice E q f) 35 := ((Bx3.made w (.slice A n c) (.slice B p d) (.slice E q f) 35).alloc _).alloc _
  have hr0 : Bx5 (((w.alloc (.cells #[.slice A n c, .slice B p d, .slice E q f] 35)).alloc (.cells #[.int .i64 r.1, .int .i64 r.2.1, .int .i64 r.2.2.1, .int .i64 r.2.2.2.1, .int .i64 r.2.2.2.2] 37)).alloc (.cells #[.int .i64 0, .int .i64 0, .int .i64 0, .int .i64 0] 30)) (w.heap.size + 1) r 37 := by
    have h2 := (Bx5.made (w.alloc (.cells #[.slice A n c, .slice B p d, .slice E q f] 35)) r 37).below ((Below.refl _ _).alloc (Nat.le_refl _) (.cells #[.int .i64 0, .int .i64 0, .int .i64 0, .int .i64 0] 30)) (by simp)
    simp only [World.size_alloc] at h2
    exact h2
  have hz0 : Bx4 (((w.alloc (.cells #[.slice A n c, .slice B p d, .slice E q f] 35)).alloc (.cells #[.int .i64 r.1, .int .i64 r.2.1, .int .i64 r.2.2.1, .int .i64 r.2.2.2.1, .int .i64 r.2.2.2.2] 37)).alloc (.cells #[.int .i64 0, .int .i64 0, .int .i64 0, .int .i64 0] 30)) (w.heap.size + 2) (.int .i64 0) (.int .i64 0) (.int .i64 0) (.int .i64 0) 30 := by
    have h2 := Bx4.made ((w.alloc (.cells #[.slice A n c, .slice B p d, .slice E q f] 35)).alloc (.cells #[.int .i64 r.1, .int .i64 r.2.1, .int .i64 r.2.2.1, .int .i64 r.2.2.2.1, .int .i64 r.2.2.2.2] 37)) (.int .i64 0) (.int .i64 0) (.int .i64 0) (.int .i64 0) 30
    simp only [World.size_alloc] at h2
    exact h2
  have hz3 : w.heap.size + 3 ≤ (((w.alloc (.cells #[.slice A n c, .slice B p d, .slice E q f] 35)).alloc (.cells #[.int .i64 r.1, .int .i64 r.2.1, .int .i64 r.2.2.1, .int .i64 r.2.2.2.1, .int .i64 r.2.2.2.2] 37)).alloc (.cells #[.int .i64 0, .int .i64 0, .int .i64 0, .int .i64 0] 30)).heap.size := by simp only [World.size_alloc]; omega
  have hg3 := hide (hg.below hAB hD)
  have hn' := hide hg.en.len
  have hp' := hide hg.fl.len
  have hq' := hide hg.la.len
  clear hg
  obtain ⟨xx0, xx1, xx2, -, -, -⟩ := hx0.cells
  obtain ⟨rr0, rr1, rr2, rr3, rr4, -⟩ := hr0.cells
  obtain ⟨yy0, yy1, yy2, yy3, yg0, yg1, yg2, yg3⟩ := hz0.cells
  have hnot : Hid (∀ (h : ¬ (inB frm 0 3 = true ∧ okB g = true ∧ okR r = true)), ansR frm g r = ((0, 0, 0, 0), false)) := hide (fun h => if_neg h)
  go_enter Tryd.func6, Tryd.ntmps6
  go_wp2_with fail
  generalize (((w.alloc (.cells #[.slice A n c, .slice B p d, .slice E q f] 35)).alloc (.cells #[.int .i64 r.1, .int .i64 r.2.1, .int .i64 r.2.2.1, .int .i64 r.2.2.2.1, .int .i64 r.2.2.2.2] 37)).alloc (.cells #[.int .i64 0, .int .i64 0, .int .i64 0, .int .i64 0] 30)) = w3 at *
  cases i1 : inB frm 0 3
  · have hres := hide (hnot.out (fun h => by rw [i1] at h; cases h.1))
    go_wp2_with (first
      | (go_at_call 20; refine (l1In_c _ _ _ _).mono ?_; rintro e _ ⟨rfl, rfl⟩; rw [i1])
      | fail)
    refine bodyPost_ret (v := .tuple #[.agg #[.int .i64 0, .int .i64 0, .int .i64 0, .int .i64 0], .bool false]) (by simp [results, Tryd.results6, go_sem, yy0, yy1, yy2, yy3, yg0, yg1, yg2, yg3]) rfl ?_
    rw [hres.out]
    exact ⟨rfl, by first | exact hAB | exact (((hAB.setCell (p := ⟨w.heap.size + 2, 0, none⟩) (by simp) _).setCell (p := ⟨w.heap.size + 2, 1, none⟩) (by simp) _).setCell (p := ⟨w.heap.size + 2, 2, none⟩) (by simp) _).setCell (p := ⟨w.heap.size + 2, 3, none⟩) (by simp) _⟩
  · cases i2 : okB g
    · have hres := hide (hnot.out (fun h => by rw [i2] at h; cases h.2.1))
      go_wp2_with (first
        | (go_at_call 20; refine (l1In_c _ _ _ _).mono ?_; rintro e _ ⟨rfl, rfl⟩; rw [i1])
        | (go_at_call 21; refine (l2Ok_c A n c B p d E q f D g w3 hg3.out (fun b hb => by have := hD b hb; omega) hbn hbp hbq).mono ?_; rintro e w4 ⟨rfl, hb4⟩; rw [i2]; have hz4 := hb4.size; have hB4 := hAB.trans (hb4.mono (by omega)); have hz04 := hz0.below hb4 hz0.lt; clear yy0 yy1 yy2 yy3 yg0 yg1 yg2 yg3; obtain ⟨yy0, yy1, yy2, yy3, yg0, yg1, yg2, yg3⟩ := hz04.cells)
        | fail)
      refine bodyPost_ret (v := .tuple #[.agg #[.int .i64 0, .int .i64 0, .int .i64 0, .int .i64 0], .bool false]) (by simp [results, Tryd.results6, go_sem, yy0, yy1, yy2, yy3, yg0, yg1, yg2, yg3]) rfl ?_
      rw [hres.out]
      exact ⟨rfl, by first | exact hB4 | exact (((hB4.setCell (p := ⟨w.heap.size + 2, 0, none⟩) (by simp) _).setCell (p := ⟨w.heap.size + 2, 1, none⟩) (by simp) _).setCell (p := ⟨w.heap.size + 2, 2, none⟩) (by simp) _).setCell (p := ⟨w.heap.size + 2, 3, none⟩) (by simp) _⟩
    · cases i3 : okR r
      · have hres := hide (hnot.out (fun h => by rw [i3] at h; cases h.2.2))
        go_wp2_with (first
          | (go_at_call 20; refine (l1In_c _ _ _ _).mono ?_; rintro e _ ⟨rfl, rfl⟩; rw [i1])
          | (go_at_call 21; refine (l2Ok_c A n c B p d E q f D g w3 hg3.out (fun b hb => by have := hD b hb; omega) hbn hbp hbq).mono ?_; rintro e w4 ⟨rfl, hb4⟩; rw [i2]; have hz4 := hb4.size; have hB4 := hAB.trans (hb4.mono (by omega)); have hr4 := hr0.below hb4 hr0.lt; clear rr0 rr1 rr2 rr3 rr4; obtain ⟨rr0, rr1, rr2, rr3, rr4, -⟩ := hr4.cells)
          | (go_at_call 22; refine (l1Ok_c r.1 r.2.1 r.2.2.1 r.2.2.2.1 r.2.2.2.2 w4).mono ?_; rintro e w5 ⟨rfl, hb5⟩; rw [show okR (r.1, r.2.1, r.2.2.1, r.2.2.2.1, r.2.2.2.2) = false from i3]; have hz5 := hb5.size; have hB5 := hB4.trans (hb5.mono (by omega)); have hz05 := (hz0.below hb4 hz0.lt).below hb5 (by have := hz0.lt; omega); clear yy0 yy1 yy2 yy3 yg0 yg1 yg2 yg3; obtain ⟨yy0, yy1, yy2, yy3, yg0, yg1, yg2, yg3⟩ := hz05.cells)
          | fail)
        refine bodyPost_ret (v := .tuple #[.agg #[.int .i64 0, .int .i64 0, .int .i64 0, .int .i64 0], .bool false]) (by simp [results, Tryd.results6, go_sem, yy0, yy1, yy2, yy3, yg0, yg1, yg2, yg3]) rfl ?_
        rw [hres.out]
        exact ⟨rfl, by first | exact hB5 | exact (((hB5.setCell (p := ⟨w.heap.size + 2, 0, none⟩) (by simp) _).setCell (p := ⟨w.heap.size + 2, 1, none⟩) (by simp) _).setCell (p := ⟨w.heap.size + 2, 2, none⟩) (by simp) _).setCell (p := ⟨w.heap.size + 2, 3, none⟩) (by simp) _⟩
      · have hres := hide (show ansR frm g r = ((frm, r.2.1, (doG g r).2, (crcN (putG (doG g r).1) : Int)), true) from if_pos ⟨i1, i2, i3⟩)
        have hok := hide ((okB_iff g).1 i2)
        have hna := hide (okR_NA i3)
        have hok2 := hide (doG_ok hok.out hna.out)
        have hsz := hide (show (asS (putG (doG g r).1)).size ≤ 1048576 by rw [asS_size]; have := putG_len hok2.out; omega)
        have hnd := hide hg3.out
        go_wp2_with (first
          | (go_at_call 20; refine (l1In_c _ _ _ _).mono ?_; rintro e _ ⟨rfl, rfl⟩; rw [i1])
          | (go_at_call 21; refine (l2Ok_c A n c B p d E q f D g w3 hg3.out (fun b hb => by have := hD b hb; omega) hbn hbp hbq).mono ?_; rintro e w4 ⟨rfl, hb4⟩; rw [i2]; have hz4 := hb4.size; have hB4 := hAB.trans (hb4.mono (by omega)); have hr4 := hr0.below hb4 hr0.lt; clear rr0 rr1 rr2 rr3 rr4; obtain ⟨rr0, rr1, rr2, rr3, rr4, -⟩ := hr4.cells)
          | (go_at_call 22; refine (l1Ok_c r.1 r.2.1 r.2.2.1 r.2.2.2.1 r.2.2.2.2 w4).mono ?_; rintro e w5 ⟨rfl, hb5⟩; rw [show okR (r.1, r.2.1, r.2.2.1, r.2.2.2.1, r.2.2.2.2) = true from i3]; have hz5 := hb5.size; have hB5 := hB4.trans (hb5.mono (by omega)); have h35 := hb4.trans (hb5.mono hz4); have hz05 := hz0.below h35 hz0.lt; have hx5 := hx0.below h35 hx0.lt; have hr5 := hr0.below h35 hr0.lt; have hg5 := hide (hg3.out.below h35 (fun b hb => by have := hD b hb; omega)); clear yy0 yy1 yy2 yy3 yg0 yg1 yg2 yg3 xx0 xx1 xx2 rr0 rr1 rr2 rr3 rr4; obtain ⟨yy0, yy1, yy2, yy3, yg0, yg1, yg2, yg3⟩ := hz05.cells; obtain ⟨xx0, xx1, xx2, -, -, -⟩ := hx5.cells; obtain ⟨rr0, rr1, rr2, rr3, rr4, -⟩ := hr5.cells)
          | fail)
        clear i1 i2 i3
        have hly5 := hz05.lt
        have hK5 : w5.heap.size ≤ w5.heap.size := Nat.le_refl _
        have hlx5 := hx5.lt
        have hlr5 := hr5.lt
        go_wp2
        refine wp_region_O (SinceB (w5.heap.size) _) [] [] [25, 27] (Ord.seg [0, 2] (Ord.both 1 7 (Ord.seg [] (Ord.both 3 7 (Ord.seg [4, 5, 6, 7, 8, 9] Ord.done) (Ord.seg [3, 4, 5, 6, 8, 9] Ord.done))) (Ord.seg [1, 3, 4, 5, 6, 8, 9] Ord.done))) (by kernel_rfl) (by kernel_rfl) (by kernel_rfl) (SinceB.drew _ _) ?_
        go_wp2_with (first
          | (go_at_call 23; have hq := hbC; refine (l2Do_c A4 n4 c4 B4 p4 d4 E4 q4 f4 _ g r _ (hgC.below (K := wC.heap.size) (by focus (repeat (first | (with_reducible exact Below.refl _ _) | (with_reducible refine Below.allocR ?_ _)))) (fun b hb => hb.elim (fun h => h.elim) (fun h => h.2))) (fun b hb => by first | exact hb.elim (fun h => h.elim) (fun h => h.2) | (have := hb.elim (fun h => h.elim) (fun h => h.2); simp only [World.size_alloc]; omega)) hok.out.weak hna.out).mono ?_; rintro e wD ⟨A6, n6, c6, B6, p6, d6, E6, q6, f6, rfl, hgD, hbD⟩; have hSD : SinceB (w5.heap.size) w5 wD := (by (focus (repeat (first | (with_reducible exact SinceB.refl _ _) | (with_reducible refine SinceB.drewR ?_) | (with_reducible refine SinceB.allocK ?_ hK5 _) | (with_reducible refine SinceB.app ?_ hbD hK5) | (with_reducible refine SinceB.app ?_ hbC hK5))))); have h5D : Below w5.heap.size w5 wD := (by (focus (repeat (first | (with_reducible exact Below.refl _ _) | (with_reducible refine Below.drew ?_) | (with_reducible refine Below.allocR ?_ _) | (with_reducible refine Below.appR ?_ hbD) | (with_reducible refine Below.appR ?_ hbC))))); have hzD := h5D.size; have hzDD := hbD.size; (first | (have hbz := ((Bx3.newE (v0 := .slice none 0 0) (v1 := .slice none 0 0) (v2 := .slice none 0 0) (t := 35) (w := w5.drew) (b := w5.heap.size) rfl).app hbC).app hbD; obtain ⟨tt0, tt1, tt2, tg0, tg1, tg2⟩ := hbz.cells) | (have hbz := (Bx3.newE (v0 := .slice none 0 0) (v1 := .slice none 0 0) (v2 := .slice none 0 0) (t := 35) (w := wC) (b := wC.heap.size) rfl).app hbD; obtain ⟨tt0, tt1, tt2, tg0, tg1, tg2⟩ := hbz.cells) | skip); (try simp only [World.size_alloc, World.size_drew] at hzDD); have hK := hK)
          | (go_at_call 24; refine (l2Copy_c A n c B p d E q f D g _ (hg5.out.below (K := w5.heap.size) (by (focus (repeat (first | (with_reducible exact Below.refl _ _) | (with_reducible refine Below.drew ?_) | (with_reducible refine Below.allocR ?_ _) | (with_reducible refine Below.appR ?_ hbD) | (with_reducible refine Below.appR ?_ hbC))))) (fun b hb => by have := hD b hb; omega)) (fun b hb => by have := hD b hb; (try simp only [World.size_alloc, World.size_drew]); omega) (okGD_len hok.out)).mono ?_; rintro e wC ⟨A4, n4, c4, B4, p4, d4, E4, q4, f4, rfl, hgC, hbC⟩; have hSC : SinceB (w5.heap.size) w5 wC := (by (focus (repeat (first | (with_reducible exact SinceB.refl _ _) | (with_reducible refine SinceB.drewR ?_) | (with_reducible refine SinceB.allocK ?_ hK5 _) | (with_reducible refine SinceB.app ?_ hbD hK5) | (with_reducible refine SinceB.app ?_ hbC hK5))))); have h5C : Below w5.heap.size w5 wC := (by (focus (repeat (first | (with_reducible exact Below.refl _ _) | (with_reducible refine Below.drew ?_) | (with_reducible refine Below.allocR ?_ _) | (with_reducible refine Below.appR ?_ hbD) | (with_reducible refine Below.appR ?_ hbC))))); have hzC := h5C.size; have hzCC := hbC.size; have hK := hK)
          | ((with_reducible refine wpO_seg ?_); simp only [pickL, List.toList_toArray, List.getElem?_cons_succ, List.getElem?_cons_zero]) | ((with_reducible refine wpO_both ?_ ?_) <;> simp only [pickL, List.toList_toArray, List.getElem?_cons_succ, List.getElem?_cons_zero]) | ((with_reducible refine wpO_three ?_ ?_ ?_) <;> simp only [pickL, List.toList_toArray, List.getElem?_cons_succ, List.getElem?_cons_zero]) | ((with_reducible refine wpO_done ?_); try dsimp only) | (with_reducible refine SinceB.and_ ?_ ?_; (focus (repeat (first | (with_reducible exact SinceB.refl _ _) | (with_reducible assumption) | (with_reducible refine SinceB.drewR ?_) | ((with_reducible refine SinceB.alloc ?_ ?_ _); rotate_left; (focus (first | (with_reducible assumption) | (simp; done) | (simp; omega) | omega))) | ((with_reducible refine SinceB.set ?_ ?_ _); rotate_left; (focus (first | omega | (simp; done) | (simp; omega))))))); intro hS) | ((with_reducible refine wpT_noL ?_ ?_); (focus (first | exact wanted_no _ _ _ rfl rfl rfl | exact wanted_un _ _ _ rfl rfl rfl)); simp only [setO, List.set_cons_succ, List.set_cons_zero]) | ((with_reducible refine wpT_q0 ?_ ?_ ?_ ?_); (focus rfl); (focus rfl); (focus rfl); intro K hK) | ((with_reducible refine wpT_i ?_ ?_); (focus (refine ⟨_, _, _, _, _, _, _, _, rfl, rfl, rfl, rfl, rfl, ?_⟩; omega)); intro K hK) | ((with_reducible refine wpT_ncw ?_ ?_ ?_); (focus (first | exact .inl rfl | exact .inr (wanted_yes _ _ _ rfl rfl rfl))); (focus exact ⟨_, _, rfl, rfl, rfl⟩); intro K hK) | ((with_reducible apply wpT_lB); (focus rfl); (focus rfl); (focus rfl); (focus rfl); (focus (first | exact SinceB.drew _ _ | (with_reducible assumption))); (focus (simp <;> omega)); (focus go_simp); intro K hK) | ((with_reducible apply wpT_lwB); (focus exact wanted_yes _ _ _ rfl rfl rfl); (focus rfl); (focus rfl); (focus rfl); (focus (first | exact SinceB.drew _ _ | (with_reducible assumption))); (focus (simp <;> omega)); (focus go_simp); intro K hK) | ((with_reducible refine wpT_xs0 ?_ ?_ ?_); (focus rfl); (focus rfl); intro K hK) | ((with_reducible refine wpT_q1 ?_ ?_ ?_ ?_); (focus exact wanted_yes _ _ _ rfl rfl rfl); (focus rfl); (focus rfl); intro K hK) | ((with_reducible refine wpT_xs1 ?_ ?_ ?_); (focus exact wanted_yes _ _ _ rfl rfl rfl); (focus rfl); intro K hK) | ((with_reducible refine wpT_nil ?_); try dsimp only)
          | fail)
        all_goals (try (refine leafW (fun W => Bx3 W wC.heap.size (.slice A6 n6 c6) (.slice B6 p6 d6) (.slice E6 q6 f6) 35 ∧ Below w5.heap.size w5 W ∧ GmD W (fun b => w5.heap.size ≤ b ∧ b < W.heap.size) A6 n6 c6 B6 p6 d6 E6 q6 f6 (doG g r).1) (fin8 hbz h5D (by omega) hgD (fun b hb => by rcases hb with (hb | hb) | hb; exact hb.elim; (have hb1 := hb.1; have hb2 := hb.2; have hzq := hzC; have hzq2 := h5D.size; have hzq3 := hbD.size; have hzq4 := hbC.size; (try simp only [World.size_drew, World.size_alloc] at hb1); (try simp only [World.size_drew, World.size_alloc] at hzq3); (try simp only [World.size_drew, World.size_alloc] at hzq4); omega); (have hb1 := hb.1; have hb2 := hb.2; have hzq := hzC; have hzq2 := h5D.size; have hzq3 := hbD.size; have hzq4 := hbC.size; (try simp only [World.size_drew, World.size_alloc] at hb1); (try simp only [World.size_drew, World.size_alloc] at hzq3); (try simp only [World.size_drew, World.size_alloc] at hzq4); omega))) ?_))
        all_goals (try (refine leafW (fun W => Bx3 W wD.heap.size (.slice A6 n6 c6) (.slice B6 p6 d6) (.slice E6 q6 f6) 35 ∧ Below w5.heap.size w5 W ∧ GmD W (fun b => w5.heap.size ≤ b ∧ b < W.heap.size) A6 n6 c6 B6 p6 d6 E6 q6 f6 (doG g r).1) (fin9 h5D hgD (fun b hb => by rcases hb with (hb | hb) | hb; exact hb.elim; (have hb1 := hb.1; have hb2 := hb.2; have hzq := hzC; have hzq2 := h5D.size; have hzq3 := hbD.size; have hzq4 := hbC.size; (try simp only [World.size_drew, World.size_alloc] at hb1); (try simp only [World.size_drew, World.size_alloc] at hzq3); (try simp only [World.size_drew, World.size_alloc] at hzq4); omega); (have hb1 := hb.1; have hb2 := hb.2; have hzq := hzC; have hzq2 := h5D.size; have hzq3 := hbD.size; have hzq4 := hbC.size; (try simp only [World.size_drew, World.size_alloc] at hb1); (try simp only [World.size_drew, World.size_alloc] at hzq3); (try simp only [World.size_drew, World.size_alloc] at hzq4); omega))) ?_))
        all_goals (try (refine leafW (fun W => Bx3 W w5.heap.size (.slice A6 n6 c6) (.slice B6 p6 d6) (.slice E6 q6 f6) 35 ∧ Below w5.heap.size w5 W ∧ GmD W (fun b => w5.heap.size ≤ b ∧ b < W.heap.size) A6 n6 c6 B6 p6 d6 E6 q6 f6 (doG g r).1) (fin8 hbz h5D (by omega) hgD (fun b hb => by rcases hb with (hb | hb) | hb; exact hb.elim; (have hb1 := hb.1; have hb2 := hb.2; have hzq := hzC; have hzq2 := h5D.size; have hzq3 := hbD.size; have hzq4 := hbC.size; (try simp only [World.size_drew, World.size_alloc] at hb1); (try simp only [World.size_drew, World.size_alloc] at hzq3); (try simp only [World.size_drew, World.size_alloc] at hzq4); omega); (have hb1 := hb.1; have hb2 := hb.2; have hzq := hzC; have hzq2 := h5D.size; have hzq3 := hbD.size; have hzq4 := hbC.size; (try simp only [World.size_drew, World.size_alloc] at hb1); (try simp only [World.size_drew, World.size_alloc] at hzq3); (try simp only [World.size_drew, World.size_alloc] at hzq4); omega))) ?_))
        all_goals
          rintro w8 ⟨ht8, h58, hg8'⟩
          have hg8 := hide hg8'
          have hB8 := hB5.trans (h58.mono (by omega))
          have hz8 := h58.size
          have hz08 := hz05.below h58 hz05.lt
          have hr8 := hr5.below h58 hr5.lt
          clear yy0 yy1 yy2 yy3 yg0 yg1 yg2 yg3 xx0 xx1 xx2 rr0 rr1 rr2 rr3 rr4 hg8' hgD hgC
          obtain ⟨yy0, yy1, yy2, yy3, yg0, yg1, yg2, yg3⟩ := hz08.cells
          obtain ⟨rr0, rr1, rr2, rr3, rr4, -⟩ := hr8.cells
          obtain ⟨tt0, tt1, tt2, -, -, -⟩ := ht8.cells
          have hlr8 := hr8.lt
          have hlt8 := ht8.lt
          have hly8 := hz08.lt
          have hst : Stays (w.heap.size + 1) (some (.cells #[.int .i64 r.1, .int .i64 r.2.1, .int .i64 r.2.2.1, .int .i64 r.2.2.2.1, .int .i64 r.2.2.2.2] 37 (0, 0))) w8 := ⟨hr8⟩
          refine wp_region_T (Stays _ _) [37] [] [33] [0, 1, 2, 3, 4, 5, 6, 7, 8, 9] (by kernel_rfl) (by kernel_rfl) (by kernel_rfl) (Stays.drew hst) ?_; simp only [pickL, List.getElem?_cons_succ, List.getElem?_cons_zero]
          go_wp2_with (first
            | (go_at_call 25; have hq := hb9; refine (l7Crc_c (asS (putG (doG g r).1)) w9 hsz.out).mono ?_; rintro e w10 ⟨rfl, rfl⟩; rw [asS_list]; have hK := hK)
            | (go_at_call 26; refine (l2Put_c A6 n6 c6 B6 p6 d6 E6 q6 f6 _ (doG g r).1 _ (hg8.out.below (K := w8.heap.size) (Below.drew (Below.refl _ _)) (fun b hb => hb.2)) (fun b hb => hb.2) hok2.out).mono ?_; rintro e w9 ⟨rfl, hb9'⟩; have hb9 : Below w8.heap.size w8 w9 := Below.appR (Below.drew (Below.refl _ _)) hb9'; have hz9 := hb9.size; have hst9 : Stays (w.heap.size + 1) (some (.cells #[.int .i64 r.1, .int .i64 r.2.1, .int .i64 r.2.2.1, .int .i64 r.2.2.2.1, .int .i64 r.2.2.2.2] 37 (0, 0))) w9 := ⟨(hb9.block _ hlr8).trans hst.heap⟩; have hz09 := hz08.below hb9 hz08.lt; clear yy0 yy1 yy2 yy3 yg0 yg1 yg2 yg3; obtain ⟨yy0, yy1, yy2, yy3, yg0, yg1, yg2, yg3⟩ := hz09.cells; have hK := hK)
            | ((with_reducible refine Stays.and_ ?_ ?_); (focus (repeat (first | (with_reducible assumption) | (with_reducible refine Stays.drew ?_) | ((with_reducible refine Stays.cell ?_ ?_); rotate_left; (focus (first | (with_reducible assumption) | (simp; done) | (simp; omega))))))); intro hS) | ((with_reducible refine wpT_q0 ?_ ?_ ?_ ?_); (focus rfl); (focus rfl); (focus rfl); intro K hK) | ((with_reducible apply wpT_k); (focus rfl); (focus rfl); (focus rfl); (focus rfl); (focus (first | assumption | exact Stays.drew (by assumption))); (focus rfl); (focus go_simp); intro K hK) | ((with_reducible refine wpT_xs0 ?_ ?_ ?_); (focus rfl); (focus rfl); intro K hK) | ((with_reducible refine wpT_noL ?_ ?_); (focus (first | exact wanted_no _ _ _ rfl rfl rfl | exact wanted_un _ _ _ rfl rfl rfl)); simp only [setO, List.set_cons_succ, List.set_cons_zero]) | ((with_reducible refine wpT_q1 ?_ ?_ ?_ ?_); (focus exact wanted_yes _ _ _ rfl rfl rfl); (focus rfl); (focus rfl); intro K hK) | ((with_reducible refine wpT_xs1 ?_ ?_ ?_); (focus exact wanted_yes _ _ _ rfl rfl rfl); (focus rfl); intro K hK) | ((with_reducible refine wpT_nil ?_); try dsimp only)
            | fail)
          refine bodyPost_ret (v := .tuple #[.agg #[.int .i64 frm, .int .i64 r.2.1, .int .i64 (doG g r).2, .int .i64 (crcN (putG (doG g r).1) : Int)], .bool true]) (by simp [results, Tryd.results6, go_sem, yy0, yy1, yy2, yy3, yg0, yg1, yg2, yg3]) rfl ?_
          rw [hres.out]
          have hB9 := hB8.trans (hb9.mono (by omega))
          exact ⟨rfl, by first | exact hB9 | exact (((hB9.setCell (p := ⟨w.heap.size + 2, 0, none⟩) (by simp) _).setCell (p := ⟨w.heap.size + 2, 1, none⟩) (by simp) _).setCell (p := ⟨w.heap.size + 2, 2, none⟩) (by simp) _).setCell (p := ⟨w.heap.size + 2, 3, none⟩) (by simp) _⟩
end Go.Proofs.YtajmfonepnkofaaDoor
namespace Go.Proofs.YtajmfonepnkofaaDoor
open Go.RowKit Rg
set_option linter.unusedVariables false
set_option linter.unusedSimpArgs false

def okRp (t : ReplyT) : Bool := inB t.1 0 3 && (inB t.2.1 1 30 && (inB t.2.2.1 0 8 && inB t.2.2.2 0 4294967295))
theorem replyOk_c (t : ReplyT) (w : World) : Calls Tryd.prog 63 #[.agg #[.int .i64 t.1, .int .i64 t.2.1, .int .i64 t.2.2.1, .int .i64 t.2.2.2]] w fun e w' => e = .returned (.bool (okRp t)) ∧ Below w.heap.size w w' := by
  cases h1 : inB t.1 0 3 <;> cases h2 : inB t.2.1 1 30 <;> cases h3 : inB t.2.2.1 0 8
  all_goals
    have h1' := h1
    have h2' := h2
    have h3' := h3
    go_enter Tryd.func63, Tryd.ntmps63
    go_wp2_with (first
      | (go_at_call 54; refine (in_c _ _ _ _).mono ?_; rintro e w' ⟨rfl, rfl⟩)
      | (go_at_call 29; refine (isKeeper_c _ _).mono ?_; rintro e w' ⟨rfl, rfl⟩))
    go_ret
    exact ⟨by simp [okRp, h1', h2', h3'], ((Below.refl _ _).alloc (Nat.le_refl _) _)⟩
theorem sameFrom_c (x : ReplyT) (f : Int) (b : Nat) (w : World) (hf : w.cell? ⟨b, 0, none⟩ = some (.int .i64 f)) (hbw : b < w.heap.size) : Calls Tryd.prog 65 #[.agg #[.int .i64 x.1, .int .i64 x.2.1, .int .i64 x.2.2.1, .int .i64 x.2.2.2], .pointer (some ⟨b, 0, none⟩)] w fun e w' => e = .returned (.bool (x.1 == f)) ∧ Below w.heap.size w w' := by
  have hne : b ≠ w.heap.size := by omega
  have hf2 : (w.alloc (.cells #[.int .i64 x.1, .int .i64 x.2.1, .int .i64 x.2.2.1, .int .i64 x.2.2.2] 30)).cell? ⟨b, 0, none⟩ = some (.int .i64 f) := keepc ((Below.refl _ _).alloc (Nat.le_refl _) _) hf
  go_enter Tryd.func65, Tryd.ntmps65
  go_wp2
  go_ret
  exact ⟨rfl, ((Below.refl _ _).alloc (Nat.le_refl _) _)⟩
/-- Somebody answered already. -/
def hasFrom (f : Int) (xs : List ReplyT) : Bool := xs.any fun x => x.1 == f
theorem indexFrom_c (A : Option Addr) (n c lo hi : Nat) (xs : List ReplyT) (f : Int) (b : Nat) (w : World) (hn : n = xs.length) (hb : n ≤ 1048576) (hs : Sl encReply 4 w lo hi A xs) (hhi : hi ≤ w.heap.size) (hf : w.cell? ⟨b, 0, none⟩ = some (.int .i64 f)) (hbw : b < w.heap.size) :
    Calls Tryd.prog 84 #[.slice A n c, .func (.func 65) #[] #[.pointer (some ⟨b, 0, none⟩)]] w fun e w' => ∃ i : Int, e = .returned (.int .i64 i) ∧ (i = -1 ∧ hasFrom f xs = false ∨ 0 ≤ i ∧ hasFrom f xs = true) ∧ Below w.heap.size w w' := by
  have hn' := hide hn
  clear hn
  go_enter Tryd.func84, Tryd.ntmps84
  go_wp2
  go_loopw [8, 5] (fun i _ wr => ∃ k : Nat, k ≤ n ∧ i = .int .i64 k ∧ Hid (∀ j (h : j < xs.length), j < k → ¬ xs[j].1 = f) ∧ Below w.heap.size w wr) (fun i _ _ => n - (intOf i).toNat)
  case atStart => exact ⟨0, Nat.zero_le _, rfl, fun j h h' => absurd h' (by omega), Below.refl _ _⟩
  case round =>
    obtain ⟨k, hk, rfl, hno, hbr⟩ := hrel
    by_cases hlt : k < n
    · have hlx : k < xs.length := by have := hn'.out; omega
      obtain ⟨b', off, rfl, hlo, hbh⟩ := hs.addr hlx
      obtain ⟨a1, a2, a3, a4⟩ := (hs.below hbr hhi).getReply hlx
      have hfr := keepc hbr hf
      have hbr' : b < wr.heap.size := by have := hbr.size; omega
      go_wp2_with fail
      refine (sameFrom_c xs[k] f b wr hfr hbr').mono ?_
      rintro e w1 ⟨rfl, hb1⟩
      cases he : (xs[k].1 == f)
      · have he' := hide he
        go_wp2
        go_roundw
        case rel => exact ⟨k + 1, by omega, by go_num, fun j hj hjk h => by
          by_cases h2 : j < k
          · exact hno.out j hj h2 h
          · obtain rfl : j = k := by omega
            have := he'.out
            simp [h] at this, hbr.trans (hb1.mono hbr.size)⟩
        case measure => simp [intOf]; omega
      · have he' : Hid (hasFrom f xs = true) := hide (List.any_eq_true.2 ⟨xs[k], List.getElem_mem hlx, he⟩)
        go_wp2
        go_ret
        exact ⟨k, rfl, .inr ⟨by omega, he'.out⟩, hbr.trans (hb1.mono hbr.size)⟩
    · obtain rfl : k = n := by omega
      go_wp2
      go_ret
      refine ⟨-1, rfl, .inl ⟨rfl, ?_⟩, hbr⟩
      simp only [hasFrom, List.any_eq_false]
      intro x hx
      obtain ⟨j, hj, rfl⟩ := List.mem_iff_getElem.1 hx
      simpa using hno.out j hj (by have := hn'.out; omega)
theorem containsFrom_c (A : Option Addr) (n c lo hi : Nat) (xs : List ReplyT) (f : Int) (b : Nat) (w : World) (hn : n = xs.length) (hb : n ≤ 1048576) (hs : Sl encReply 4 w lo hi A xs) (hhi : hi ≤ w.heap.size) (hf : w.cell? ⟨b, 0, none⟩ = some (.int .i64 f)) (hbw : b < w.heap.size) :
    Calls Tryd.prog 64 #[.slice A n c, .func (.func 65) #[] #[.pointer (some ⟨b, 0, none⟩)]] w fun e w' => e = .returned (.bool (hasFrom f xs)) ∧ Below w.heap.size w w' := by
  have hn' := hide hn
  clear hn
  go_enter Tryd.func64, Tryd.ntmps64
  go_wp2_with fail
  refine (indexFrom_c A n c lo hi xs f b w hn'.out hb hs hhi hf hbw).mono ?_
  rintro e w1 ⟨i, rfl, hi, hb1⟩
  rcases hi with ⟨rfl, h⟩ | ⟨h1, h⟩
  · have h' := hide h
    go_wp2
    go_ret
    exact ⟨by rw [h'.out]; rfl, hb1⟩
  · have h' := hide h
    have d1 : decide (0 ≤ i) = true := by simpa using h1
    go_wp2
    go_ret
    exact ⟨by rw [h'.out]; simp [h1], hb1⟩
/-- Whether an answer fits. -/
def fitsL (r : ReqV) (xs : List ReplyT) (t : ReplyT) : Bool := okRp t && (t.2.1 == r.2.1 && !hasFrom t.1 xs)
theorem fits_c (r : ReqV) (A : Option Addr) (n c lo hi : Nat) (xs : List ReplyT) (t : ReplyT) (w : World) (hn : n = xs.length) (hb : n ≤ 1048576) (hs : Sl encReply 4 w lo hi A xs) (hhi : hi ≤ w.heap.size) :
    Calls Tryd.prog 40 #[.agg #[.int .i64 r.1, .int .i64 r.2.1, .int .i64 r.2.2.1, .int .i64 r.2.2.2.1, .int .i64 r.2.2.2.2, .slice A n c], .agg #[.int .i64 t.1, .int .i64 t.2.1, .int .i64 t.2.2.1, .int .i64 t.2.2.2]] w fun e w' => e = .returned (.bool (fitsL r xs t)) ∧ Below w.heap.size w w' := by
  have hn' := hide hn
  clear hn
  have hb0 : Below w.heap.size w ((w.alloc (.cells #[.int .i64 r.1, .int .i64 r.2.1, .int .i64 r.2.2.1, .int .i64 r.2.2.2.1, .int .i64 r.2.2.2.2, .slice A n c] 47)).alloc (.cells #[.int .i64 t.1, .int .i64 t.2.1, .int .i64 t.2.2.1, .int .i64 t.2.2.2] 30)) := ((Below.refl _ _).alloc (Nat.le_refl _) _).alloc (by simp) _
  cases e1 : okRp t <;> cases e2 : (t.2.1 == r.2.1)
  all_goals
    have e1' := hide e1
    have e2' := hide e2
    go_enter Tryd.func40, Tryd.ntmps40
    go_wp2_with fail
    refine (replyOk_c t _).mono ?_
    rintro e w1 ⟨rfl, hb1⟩
    have hB1 := hb0.trans (hb1.mono hb0.size)
    have x1 : w1.cell? ⟨w.heap.size, 1, none⟩ = some (.int .i64 r.2.1) := keepc hb1 (by simp)
    have x5 : w1.cell? ⟨w.heap.size, 5, none⟩ = some (.slice A n c) := keepc hb1 (by simp)
    have y0 : w1.cell? ⟨w.heap.size + 1, 0, none⟩ = some (.int .i64 t.1) := keepc hb1 (by simp)
    have y1 : w1.cell? ⟨w.heap.size + 1, 1, none⟩ = some (.int .i64 t.2.1) := keepc hb1 (by simp)
    have hl : w.heap.size + 1 < w1.heap.size := lt_of_cell y0
    rw [e1]
    go_wp2_with fail
    try (refine (containsFrom_c A n c lo hi xs t.1 (w.heap.size + 1) w1 hn'.out hb (hs.below hB1 hhi) (Nat.le_trans hhi hB1.size) y0 hl).mono ?_; rintro e w2 ⟨rfl, hb2⟩; have hB1 := hB1.trans (hb2.mono hB1.size); go_wp2)
    go_ret
    exact ⟨by simp [fitsL, e1'.out, e2'.out], hB1⟩
end Go.Proofs.YtajmfonepnkofaaDoor
namespace Go.Proofs.YtajmfonepnkofaaDoor
open Go.RowKit Rg
set_option linter.unusedVariables false
set_option linter.unusedSimpArgs false

def goodR (r : ReqV) (xs : List ReplyT) (i : Nat) : Prop := ∃ h : i < xs.length, fitsL r (xs.take i) xs[i] = true
def okPl (r : ReqV) (xs : List ReplyT) : Prop := (∀ i, i < xs.length → goodR r xs i) ∧ okR r = true
instance (r : ReqV) (xs : List ReplyT) (i : Nat) : Decidable (goodR r xs i) := by unfold goodR; infer_instance
instance (r : ReqV) (xs : List ReplyT) : Decidable (okPl r xs) := by unfold okPl; infer_instance
theorem not_okPl {r : ReqV} {xs : List ReplyT} {i : Nat} (hi : i < xs.length) (h : ¬ goodR r xs i) : decide (okPl r xs) = false := by
  simp only [decide_eq_false_iff_not]
  exact fun hq => h (hq.1 i hi)
theorem goodR_all {r : ReqV} {xs : List ReplyT} {k : Nat} (h : ∀ i, i < k → goodR r xs i) (hk : goodR r xs k) : ∀ i, i < k + 1 → goodR r xs i := fun i hi => by
  by_cases h2 : i < k
  · exact h i h2
  · obtain rfl : i = k := by omega
    exact hk

abbrev plV (r : ReqV) (A : Option Addr) (n c : Nat) : Value := .agg #[.int .i64 r.1, .int .i64 r.2.1, .int .i64 r.2.2.1, .int .i64 r.2.2.2.1, .int .i64 r.2.2.2.2, .slice A n c]
set_option maxHeartbeats 2000000 in
theorem PlayerOk_c (r : ReqV) (A : Option Addr) (n c lo hi : Nat) (xs : List ReplyT) (w : World) (hn : n = xs.length) (hb : n ≤ 1048576) (hc : n ≤ c) (hc2 : c ≤ maxLen) (hs : Sl encReply 4 w lo hi A xs) (hhi : hi ≤ w.heap.size) :
    Calls Tryd.prog 38 #[.agg #[.int .i64 r.1, .int .i64 r.2.1, .int .i64 r.2.2.1, .int .i64 r.2.2.2.1, .int .i64 r.2.2.2.2, .slice A n c]] w fun e w' => e = .returned (.bool (decide (okPl r xs))) ∧ Below w.heap.size w w' := by
  have hn' := hide hn
  clear hn
  unfold maxLen at hc2
  have hb0 : Below w.heap.size w (w.alloc (.cells #[.int .i64 r.1, .int .i64 r.2.1, .int .i64 r.2.2.1, .int .i64 r.2.2.2.1, .int .i64 r.2.2.2.2, .slice A n c] 47)) := (Below.refl _ _).alloc (Nat.le_refl _) _
  have x0 : (w.alloc (.cells #[.int .i64 r.1, .int .i64 r.2.1, .int .i64 r.2.2.1, .int .i64 r.2.2.2.1, .int .i64 r.2.2.2.2, .slice A n c] 47)).cell? ⟨w.heap.size, 0, none⟩ = some (.int .i64 r.1) := by simp
  have x1 : (w.alloc (.cells #[.int .i64 r.1, .int .i64 r.2.1, .int .i64 r.2.2.1, .int .i64 r.2.2.2.1, .int .i64 r.2.2.2.2, .slice A n c] 47)).cell? ⟨w.heap.size, 1, none⟩ = some (.int .i64 r.2.1) := by simp
  have x2 : (w.alloc (.cells #[.int .i64 r.1, .int .i64 r.2.1, .int .i64 r.2.2.1, .int .i64 r.2.2.2.1, .int .i64 r.2.2.2.2, .slice A n c] 47)).cell? ⟨w.heap.size, 2, none⟩ = some (.int .i64 r.2.2.1) := by simp
  have x3 : (w.alloc (.cells #[.int .i64 r.1, .int .i64 r.2.1, .int .i64 r.2.2.1, .int .i64 r.2.2.2.1, .int .i64 r.2.2.2.2, .slice A n c] 47)).cell? ⟨w.heap.size, 3, none⟩ = some (.int .i64 r.2.2.2.1) := by simp
  have x4 : (w.alloc (.cells #[.int .i64 r.1, .int .i64 r.2.1, .int .i64 r.2.2.1, .int .i64 r.2.2.2.1, .int .i64 r.2.2.2.2, .slice A n c] 47)).cell? ⟨w.heap.size, 4, none⟩ = some (.int .i64 r.2.2.2.2) := by simp
  have x5 : (w.alloc (.cells #[.int .i64 r.1, .int .i64 r.2.1, .int .i64 r.2.2.1, .int .i64 r.2.2.2.1, .int .i64 r.2.2.2.2, .slice A n c] 47)).cell? ⟨w.heap.size, 5, none⟩ = some (.slice A n c) := by simp
  have hl0 : w.heap.size < (w.alloc (.cells #[.int .i64 r.1, .int .i64 r.2.1, .int .i64 r.2.2.1, .int .i64 r.2.2.2.1, .int .i64 r.2.2.2.2, .slice A n c] 47)).heap.size := by simp
  go_enter Tryd.func38, Tryd.ntmps38
  go_wp2_with fail
  generalize w.alloc (.cells #[.int .i64 r.1, .int .i64 r.2.1, .int .i64 r.2.2.1, .int .i64 r.2.2.2.1, .int .i64 r.2.2.2.2, .slice A n c] 47) = w0 at *
  go_loopw [8, 3, 4] (fun i _ _ wr => ∃ k : Nat, k ≤ n ∧ i = .int .i64 k ∧ Hid (∀ i, i < k → goodR r xs i) ∧ Below w0.heap.size w0 wr) (fun i _ _ _ => n - (intOf i).toNat)
  case atStart => exact ⟨0, Nat.zero_le _, rfl, fun i h => absurd h (by omega), Below.refl _ _⟩
  case round =>
    obtain ⟨k, hk, rfl, hgo, hbr⟩ := hrel
    have hBr := hb0.trans (hbr.mono hb0.size)
    have x0 := keepc hbr x0
    have x1 := keepc hbr x1
    have x2 := keepc hbr x2
    have x3 := keepc hbr x3
    have x4 := keepc hbr x4
    have x5 := keepc hbr x5
    have hlr : w.heap.size < wr.heap.size := by have := hbr.size; omega
    by_cases hlt : k < n
    · have hlx : k < xs.length := by have := hn'.out; omega
      have hsr := hs.below hBr hhi
      obtain ⟨b, off, rfl, hlo, hbh⟩ := hs.addr hlx
      obtain ⟨a1, a2, a3, a4⟩ := hsr.getReply hlx
      have hbl : b < wr.heap.size := by omega
      have hA := (Below.refl wr.heap.size wr).alloc (Nat.le_refl _) (.cells #[.int .i64 xs[k].1, .int .i64 xs[k].2.1, .int .i64 xs[k].2.2.1, .int .i64 xs[k].2.2.2] 30)
      have hB1 := hBr.trans (hA.mono hBr.size)
      have hbr1 := hbr.trans (hA.mono hbr.size)
      have hs1 : Sl encReply 4 (wr.alloc (.cells #[.int .i64 xs[k].1, .int .i64 xs[k].2.1, .int .i64 xs[k].2.2.1, .int .i64 xs[k].2.2.2] 30)).drew lo hi (some ⟨b, off, none⟩) (xs.take k) := (hsr.take_ k).below hA.drew (Nat.le_trans hhi hBr.size)
      have y0 : (wr.alloc (.cells #[.int .i64 xs[k].1, .int .i64 xs[k].2.1, .int .i64 xs[k].2.2.1, .int .i64 xs[k].2.2.2] 30)).cell? ⟨wr.heap.size, 0, none⟩ = some (.int .i64 xs[k].1) := by simp
      have y1 : (wr.alloc (.cells #[.int .i64 xs[k].1, .int .i64 xs[k].2.1, .int .i64 xs[k].2.2.1, .int .i64 xs[k].2.2.2] 30)).cell? ⟨wr.heap.size, 1, none⟩ = some (.int .i64 xs[k].2.1) := by simp
      have y2 : (wr.alloc (.cells #[.int .i64 xs[k].1, .int .i64 xs[k].2.1, .int .i64 xs[k].2.2.1, .int .i64 xs[k].2.2.2] 30)).cell? ⟨wr.heap.size, 2, none⟩ = some (.int .i64 xs[k].2.2.1) := by simp
      have y3 : (wr.alloc (.cells #[.int .i64 xs[k].1, .int .i64 xs[k].2.1, .int .i64 xs[k].2.2.1, .int .i64 xs[k].2.2.2] 30)).cell? ⟨wr.heap.size, 3, none⟩ = some (.int .i64 xs[k].2.2.2) := by simp
      have x0 := keepc hA x0
      have x1 := keepc hA x1
      have x2 := keepc hA x2
      have x3 := keepc hA x3
      have x4 := keepc hA x4
      have x5 := keepc hA x5
      have hl1 : w.heap.size < (wr.alloc (.cells #[.int .i64 xs[k].1, .int .i64 xs[k].2.1, .int .i64 xs[k].2.2.1, .int .i64 xs[k].2.2.2] 30)).heap.size := by simp; omega
      have hl2 : wr.heap.size < (wr.alloc (.cells #[.int .i64 xs[k].1, .int .i64 xs[k].2.1, .int .i64 xs[k].2.2.1, .int .i64 xs[k].2.2.2] 30)).heap.size := by simp
      have hfc := fun W (h : Sl encReply 4 W lo hi (some ⟨b, off, none⟩) (xs.take k)) h2 => fits_c r (some ⟨b, off, none⟩) k c lo hi (xs.take k) xs[k] W (by have := hn'.out; simp; omega) (by omega) h h2
      have hhi1 : hi ≤ (wr.alloc (.cells #[.int .i64 xs[k].1, .int .i64 xs[k].2.1, .int .i64 xs[k].2.2.1, .int .i64 xs[k].2.2.2] 30)).drew.heap.size := by simp; have := hBr.size; omega
      cases hf : fitsL r (xs.take k) xs[k]
      · have hno := hide (not_okPl (r := r) hlx (fun ⟨_, h⟩ => by rw [hf] at h; cases h))
        simp only [hf] at hfc
        have hfc' := hide hfc
        clear hfc
        go_wp2
        generalize wr.alloc (.cells #[.int .i64 xs[k].1, .int .i64 xs[k].2.1, .int .i64 xs[k].2.2.1, .int .i64 xs[k].2.2.2] 30) = w1 at *
        refine wp_region_T (fun _ => True) [] [] [] [0, 1, 2, 3, 4, 5, 6, 7, 8, 9] (by kernel_rfl) (by kernel_rfl) (by kernel_rfl) trivial ?_; simp only [pickL, List.getElem?_cons_succ, List.getElem?_cons_zero]
        go_wp2_with (first
          | ((with_reducible refine wpT_q0 ?_ ?_ ?_ ?_); (focus rfl); (focus rfl); (focus rfl); intro K hK) | ((with_reducible refine wpT_x0 ?_ ?_ ?_); (focus rfl); (focus rfl); intro K hK) | ((with_reducible refine wpT_noL ?_ ?_); (focus (first | exact wanted_no _ _ _ rfl rfl rfl | exact wanted_un _ _ _ rfl rfl rfl)); simp only [setO, List.set_cons_succ, List.set_cons_zero]) | ((with_reducible refine wpT_q1 ?_ ?_ ?_ ?_); (focus exact wanted_yes _ _ _ rfl rfl rfl); (focus rfl); (focus rfl); intro K hK) | ((with_reducible refine wpT_x1 ?_ ?_ ?_); (focus exact wanted_yes _ _ _ rfl rfl rfl); (focus rfl); intro K hK) | ((with_reducible refine wpT_nil ?_); try dsimp only)
          | (go_at_call 40; refine (hfc'.out _ hs1 hhi1).mono ?_; rintro e w2 ⟨rfl, hb2⟩))
        go_ret
        exact ⟨by rw [hno.out]; rfl, hB1.drew.trans (hb2.mono hB1.size)⟩
      · have hyes : Hid (goodR r xs k) := hide ⟨hlx, hf⟩
        simp only [hf] at hfc
        have hfc' := hide hfc
        clear hfc
        go_wp2
        generalize wr.alloc (.cells #[.int .i64 xs[k].1, .int .i64 xs[k].2.1, .int .i64 xs[k].2.2.1, .int .i64 xs[k].2.2.2] 30) = w1 at *
        refine wp_region_T (fun _ => True) [] [] [] [0, 1, 2, 3, 4, 5, 6, 7, 8, 9] (by kernel_rfl) (by kernel_rfl) (by kernel_rfl) trivial ?_; simp only [pickL, List.getElem?_cons_succ, List.getElem?_cons_zero]
        go_wp2_with (first
          | ((with_reducible refine wpT_q0 ?_ ?_ ?_ ?_); (focus rfl); (focus rfl); (focus rfl); intro K hK) | ((with_reducible refine wpT_x0 ?_ ?_ ?_); (focus rfl); (focus rfl); intro K hK) | ((with_reducible refine wpT_noL ?_ ?_); (focus (first | exact wanted_no _ _ _ rfl rfl rfl | exact wanted_un _ _ _ rfl rfl rfl)); simp only [setO, List.set_cons_succ, List.set_cons_zero]) | ((with_reducible refine wpT_q1 ?_ ?_ ?_ ?_); (focus exact wanted_yes _ _ _ rfl rfl rfl); (focus rfl); (focus rfl); intro K hK) | ((with_reducible refine wpT_x1 ?_ ?_ ?_); (focus exact wanted_yes _ _ _ rfl rfl rfl); (focus rfl); intro K hK) | ((with_reducible refine wpT_nil ?_); try dsimp only)
          | (go_at_call 40; refine (hfc'.out _ hs1 hhi1).mono ?_; rintro e w2 ⟨rfl, hb2⟩))
        go_roundw
        case rel => exact ⟨k + 1, by omega, by go_num, hide (goodR_all hgo.out hyes.out), hbr1.drew.trans (hb2.mono hbr1.size)⟩
        case measure => simp [intOf]; omega
    · obtain rfl : k = n := by omega
      go_wp2_with fail
      refine (ReqOk_c r.1 r.2.1 r.2.2.1 r.2.2.2.1 r.2.2.2.2 wr).mono ?_
      rintro e w2 ⟨rfl, hb2⟩
      have hd : Hid (decide (okPl r xs) = okR r) := hide (by
        have h1 : ∀ i, i < xs.length → goodR r xs i := fun i hi => hgo.out i (by have := hn'.out; omega)
        rw [Bool.eq_iff_iff, decide_eq_true_eq]
        exact ⟨fun h => h.2, fun h => ⟨h1, h⟩⟩)
      go_wp2
      go_ret
      exact ⟨by rw [hd.out]; rfl, hBr.trans (hb2.mono hBr.size)⟩
end Go.Proofs.YtajmfonepnkofaaDoor
namespace Go.Proofs.YtajmfonepnkofaaDoor
open Go.RowKit Rg
set_option linter.unusedVariables false
set_option linter.unusedSimpArgs false

theorem hasFrom_take {xs : List ReplyT} {f : Int} {k : Nat} (h : ∀ j (h : j < xs.length), j < k → ¬ xs[j].1 = f) : hasFrom f (xs.take k) = false := by
  simp only [hasFrom, List.any_eq_false]
  intro x hx
  obtain ⟨j, hj, rfl⟩ := List.mem_iff_getElem.1 hx
  simp at hj ⊢
  exact h j (by omega) (by omega)
theorem hasFrom_yes {xs : List ReplyT} {f : Int} {k j : Nat} (hj : j < xs.length) (hjk : j < k) (h : xs[j].1 = f) : hasFrom f (xs.take k) = true :=
  List.any_eq_true.2 ⟨xs[j], List.mem_iff_getElem.2 ⟨j, by simp; omega, by simp⟩, by simp [h]⟩
end Go.Proofs.YtajmfonepnkofaaDoor
namespace Go.Proofs.YtajmfonepnkofaaDoor
open Go.RowKit Rg
set_option linter.unusedVariables false
set_option linter.unusedSimpArgs false

theorem keepf {w w' : World} (hb : Below w.heap.size w w') {b j : Nat} (hl : b < w.heap.size) (h : w.frozen? ⟨b, j, none⟩ = false) : w'.frozen? ⟨b, j, none⟩ = false := by
  have e := hb.block b hl
  simp only [World.frozen?, e] at h ⊢
  exact h
theorem heap3 (w : World) (a b c : Obj) : (((w.alloc a).alloc b).alloc c).heap[w.heap.size]? = some a ∧ (((w.alloc a).alloc b).alloc c).heap[w.heap.size + 1]? = some b ∧ (((w.alloc a).alloc b).alloc c).heap[w.heap.size + 1 + 1]? = some c ∧ (((w.alloc a).alloc b).alloc c).heap.size = w.heap.size + 1 + 1 + 1 := by
  have s1 : (w.alloc a).heap.size = w.heap.size + 1 := by simp
  have s2 : ((w.alloc a).alloc b).heap.size = w.heap.size + 1 + 1 := by simp
  have k1 := heap_alloc_new w a
  have k2 := heap_alloc_new (w.alloc a) b
  have k3 := heap_alloc_new ((w.alloc a).alloc b) c
  have b2 := (Below.refl (w.alloc a).heap.size (w.alloc a)).alloc (Nat.le_refl _) b
  have b3 := (Below.refl ((w.alloc a).alloc b).heap.size ((w.alloc a).alloc b)).alloc (Nat.le_refl _) c
  rw [s1] at k2 b2
  rw [s2] at k3 b3
  exact ⟨(b3.block _ (by omega)).trans ((b2.block _ (by omega)).trans k1), (b3.block _ (by omega)).trans k2, k3, by simp⟩
end Go.Proofs.YtajmfonepnkofaaDoor
namespace Go.Proofs.YtajmfonepnkofaaDoor
open Go.RowKit Rg
set_option linter.unusedVariables false
set_option linter.unusedSimpArgs false

theorem heap2 (w : World) (a b : Obj) : ((w.alloc a).alloc b).heap[w.heap.size]? = some a ∧ ((w.alloc a).alloc b).heap[w.heap.size + 1]? = some b ∧ ((w.alloc a).alloc b).heap.size = w.heap.size + 1 + 1 := by
  have s1 : (w.alloc a).heap.size = w.heap.size + 1 := by simp
  have k1 := heap_alloc_new w a
  have k2 := heap_alloc_new (w.alloc a) b
  have b2 := (Below.refl (w.alloc a).heap.size (w.alloc a)).alloc (Nat.le_refl _) b
  rw [s1] at k2 b2
  exact ⟨(b2.block _ (by omega)).trans k1, k2, by simp⟩
end Go.Proofs.YtajmfonepnkofaaDoor
namespace Go.Proofs.YtajmfonepnkofaaDoor
open Go.RowKit Rg
set_option linter.unusedVariables false
set_option linter.unusedSimpArgs false

theorem keepB {w w' : World} {B : Nat} (hb : Below B w w') {p : Addr} {v : Value} (hl : p.block < B) (h : w.cell? p = some v) : w'.cell? p = some v := (World.cell?_of_block (hb.block p.block hl)).trans h
theorem keepfB {w w' : World} {B : Nat} (hb : Below B w w') {b j : Nat} (hl : b < B) (h : w.frozen? ⟨b, j, none⟩ = false) : w'.frozen? ⟨b, j, none⟩ = false := by
  have e := hb.block b hl
  simp only [World.frozen?, e] at h ⊢
  exact h
/-- A box of a player is written: what stands elsewhere stays. -/
theorem set6_keep {w : World} {b k : Nat} (a0 a1 a2 a3 a4 a5 : Value) (h : k ≠ b) : ((((((w.setCell ⟨b, 0, none⟩ (a0)).setCell ⟨b, 1, none⟩ (a1)).setCell ⟨b, 2, none⟩ (a2)).setCell ⟨b, 3, none⟩ (a3)).setCell ⟨b, 4, none⟩ (a4)).setCell ⟨b, 5, none⟩ (a5)).heap[k]? = w.heap[k]? :=
  (Below.heap_setCell _ ⟨b, 5, none⟩ _ k h).trans ((Below.heap_setCell _ ⟨b, 4, none⟩ _ k h).trans ((Below.heap_setCell _ ⟨b, 3, none⟩ _ k h).trans ((Below.heap_setCell _ ⟨b, 2, none⟩ _ k h).trans ((Below.heap_setCell _ ⟨b, 1, none⟩ _ k h).trans (Below.heap_setCell _ ⟨b, 0, none⟩ _ k h)))))
theorem set6_below {a w : World} {B b : Nat} (a0 a1 a2 a3 a4 a5 : Value) (h : B ≤ b) (hb : Below B a w) : Below B a ((((((w.setCell ⟨b, 0, none⟩ (a0)).setCell ⟨b, 1, none⟩ (a1)).setCell ⟨b, 2, none⟩ (a2)).setCell ⟨b, 3, none⟩ (a3)).setCell ⟨b, 4, none⟩ (a4)).setCell ⟨b, 5, none⟩ (a5)) :=
  (((((hb.setCell (by simpa using h) _).setCell (by simpa using h) _).setCell (by simpa using h) _).setCell (by simpa using h) _).setCell (by simpa using h) _).setCell (by simpa using h) _
set_option maxRecDepth 100000 in
set_option maxHeartbeats 2000000 in
theorem copyOfP_c (r : ReqV) (A : Option Addr) (n c lo hi : Nat) (xs : List ReplyT) (w : World) (hn : n = xs.length) (hb : n ≤ 1048576) (hs : Sl encReply 4 w lo hi A xs) (hhi : hi ≤ w.heap.size) :
    Calls Tryd.prog 39 #[.agg #[.int .i64 r.1, .int .i64 r.2.1, .int .i64 r.2.2.1, .int .i64 r.2.2.2.1, .int .i64 r.2.2.2.2, .slice A n c]] w fun e w' => ∃ A' c', e = .returned (.agg #[.int .i64 r.1, .int .i64 r.2.1, .int .i64 r.2.2.1, .int .i64 r.2.2.2.1, .int .i64 r.2.2.2.2, .slice A' xs.length c']) ∧ Own encReply 4 30 w' w.heap.size (.slice A' xs.length c') xs ∧ Below w.heap.size w w' := by
  have hn' := hide hn
  clear hn
  have hb0 : Below w.heap.size w ((w.alloc (.cells #[.int .i64 r.1, .int .i64 r.2.1, .int .i64 r.2.2.1, .int .i64 r.2.2.2.1, .int .i64 r.2.2.2.2, .slice A n c] 47)).alloc (.cells #[.int .i64 0, .int .i64 0, .int .i64 0, .int .i64 0, .int .i64 0, .slice none 0 0] 47)) := ((Below.refl _ _).alloc (Nat.le_refl _) _).alloc (by simp) _
  obtain ⟨g1, g2, g4⟩ := heap2 w (.cells #[.int .i64 r.1, .int .i64 r.2.1, .int .i64 r.2.2.1, .int .i64 r.2.2.2.1, .int .i64 r.2.2.2.2, .slice A n c] 47) (.cells #[.int .i64 0, .int .i64 0, .int .i64 0, .int .i64 0, .int .i64 0, .slice none 0 0] 47)
  have x0 : ((w.alloc (.cells #[.int .i64 r.1, .int .i64 r.2.1, .int .i64 r.2.2.1, .int .i64 r.2.2.2.1, .int .i64 r.2.2.2.2, .slice A n c] 47)).alloc (.cells #[.int .i64 0, .int .i64 0, .int .i64 0, .int .i64 0, .int .i64 0, .slice none 0 0] 47)).cell? ⟨w.heap.size, 0, none⟩ = some (.int .i64 r.1) := by simp only [World.cell?, g1]; rfl
  have x1 : ((w.alloc (.cells #[.int .i64 r.1, .int .i64 r.2.1, .int .i64 r.2.2.1, .int .i64 r.2.2.2.1, .int .i64 r.2.2.2.2, .slice A n c] 47)).alloc (.cells #[.int .i64 0, .int .i64 0, .int .i64 0, .int .i64 0, .int .i64 0, .slice none 0 0] 47)).cell? ⟨w.heap.size, 1, none⟩ = some (.int .i64 r.2.1) := by simp only [World.cell?, g1]; rfl
  have x2 : ((w.alloc (.cells #[.int .i64 r.1, .int .i64 r.2.1, .int .i64 r.2.2.1, .int .i64 r.2.2.2.1, .int .i64 r.2.2.2.2, .slice A n c] 47)).alloc (.cells #[.int .i64 0, .int .i64 0, .int .i64 0, .int .i64 0, .int .i64 0, .slice none 0 0] 47)).cell? ⟨w.heap.size, 2, none⟩ = some (.int .i64 r.2.2.1) := by simp only [World.cell?, g1]; rfl
  have x3 : ((w.alloc (.cells #[.int .i64 r.1, .int .i64 r.2.1, .int .i64 r.2.2.1, .int .i64 r.2.2.2.1, .int .i64 r.2.2.2.2, .slice A n c] 47)).alloc (.cells #[.int .i64 0, .int .i64 0, .int .i64 0, .int .i64 0, .int .i64 0, .slice none 0 0] 47)).cell? ⟨w.heap.size, 3, none⟩ = some (.int .i64 r.2.2.2.1) := by simp only [World.cell?, g1]; rfl
  have x4 : ((w.alloc (.cells #[.int .i64 r.1, .int .i64 r.2.1, .int .i64 r.2.2.1, .int .i64 r.2.2.2.1, .int .i64 r.2.2.2.2, .slice A n c] 47)).alloc (.cells #[.int .i64 0, .int .i64 0, .int .i64 0, .int .i64 0, .int .i64 0, .slice none 0 0] 47)).cell? ⟨w.heap.size, 4, none⟩ = some (.int .i64 r.2.2.2.2) := by simp only [World.cell?, g1]; rfl
  have x5 : ((w.alloc (.cells #[.int .i64 r.1, .int .i64 r.2.1, .int .i64 r.2.2.1, .int .i64 r.2.2.2.1, .int .i64 r.2.2.2.2, .slice A n c] 47)).alloc (.cells #[.int .i64 0, .int .i64 0, .int .i64 0, .int .i64 0, .int .i64 0, .slice none 0 0] 47)).cell? ⟨w.heap.size, 5, none⟩ = some (.slice A n c) := by simp only [World.cell?, g1]; rfl
  have qz0 : ((w.alloc (.cells #[.int .i64 r.1, .int .i64 r.2.1, .int .i64 r.2.2.1, .int .i64 r.2.2.2.1, .int .i64 r.2.2.2.2, .slice A n c] 47)).alloc (.cells #[.int .i64 0, .int .i64 0, .int .i64 0, .int .i64 0, .int .i64 0, .slice none 0 0] 47)).cell? ⟨w.heap.size + 1, 0, none⟩ = some (.int .i64 0) := by simp only [World.cell?, g2]; rfl
  have qz1 : ((w.alloc (.cells #[.int .i64 r.1, .int .i64 r.2.1, .int .i64 r.2.2.1, .int .i64 r.2.2.2.1, .int .i64 r.2.2.2.2, .slice A n c] 47)).alloc (.cells #[.int .i64 0, .int .i64 0, .int .i64 0, .int .i64 0, .int .i64 0, .slice none 0 0] 47)).cell? ⟨w.heap.size + 1, 1, none⟩ = some (.int .i64 0) := by simp only [World.cell?, g2]; rfl
  have qz2 : ((w.alloc (.cells #[.int .i64 r.1, .int .i64 r.2.1, .int .i64 r.2.2.1, .int .i64 r.2.2.2.1, .int .i64 r.2.2.2.2, .slice A n c] 47)).alloc (.cells #[.int .i64 0, .int .i64 0, .int .i64 0, .int .i64 0, .int .i64 0, .slice none 0 0] 47)).cell? ⟨w.heap.size + 1, 2, none⟩ = some (.int .i64 0) := by simp only [World.cell?, g2]; rfl
  have qz3 : ((w.alloc (.cells #[.int .i64 r.1, .int .i64 r.2.1, .int .i64 r.2.2.1, .int .i64 r.2.2.2.1, .int .i64 r.2.2.2.2, .slice A n c] 47)).alloc (.cells #[.int .i64 0, .int .i64 0, .int .i64 0, .int .i64 0, .int .i64 0, .slice none 0 0] 47)).cell? ⟨w.heap.size + 1, 3, none⟩ = some (.int .i64 0) := by simp only [World.cell?, g2]; rfl
  have qz4 : ((w.alloc (.cells #[.int .i64 r.1, .int .i64 r.2.1, .int .i64 r.2.2.1, .int .i64 r.2.2.2.1, .int .i64 r.2.2.2.2, .slice A n c] 47)).alloc (.cells #[.int .i64 0, .int .i64 0, .int .i64 0, .int .i64 0, .int .i64 0, .slice none 0 0] 47)).cell? ⟨w.heap.size + 1, 4, none⟩ = some (.int .i64 0) := by simp only [World.cell?, g2]; rfl
  have qz5 : ((w.alloc (.cells #[.int .i64 r.1, .int .i64 r.2.1, .int .i64 r.2.2.1, .int .i64 r.2.2.2.1, .int .i64 r.2.2.2.2, .slice A n c] 47)).alloc (.cells #[.int .i64 0, .int .i64 0, .int .i64 0, .int .i64 0, .int .i64 0, .slice none 0 0] 47)).cell? ⟨w.heap.size + 1, 5, none⟩ = some (.slice none 0 0) := by simp only [World.cell?, g2]; rfl
  have fz0 : ((w.alloc (.cells #[.int .i64 r.1, .int .i64 r.2.1, .int .i64 r.2.2.1, .int .i64 r.2.2.2.1, .int .i64 r.2.2.2.2, .slice A n c] 47)).alloc (.cells #[.int .i64 0, .int .i64 0, .int .i64 0, .int .i64 0, .int .i64 0, .slice none 0 0] 47)).frozen? ⟨w.heap.size + 1, 0, none⟩ = false := by simp only [World.frozen?, g2]; simp
  have fz1 : ((w.alloc (.cells #[.int .i64 r.1, .int .i64 r.2.1, .int .i64 r.2.2.1, .int .i64 r.2.2.2.1, .int .i64 r.2.2.2.2, .slice A n c] 47)).alloc (.cells #[.int .i64 0, .int .i64 0, .int .i64 0, .int .i64 0, .int .i64 0, .slice none 0 0] 47)).frozen? ⟨w.heap.size + 1, 1, none⟩ = false := by simp only [World.frozen?, g2]; simp
  have fz2 : ((w.alloc (.cells #[.int .i64 r.1, .int .i64 r.2.1, .int .i64 r.2.2.1, .int .i64 r.2.2.2.1, .int .i64 r.2.2.2.2, .slice A n c] 47)).alloc (.cells #[.int .i64 0, .int .i64 0, .int .i64 0, .int .i64 0, .int .i64 0, .slice none 0 0] 47)).frozen? ⟨w.heap.size + 1, 2, none⟩ = false := by simp only [World.frozen?, g2]; simp
  have fz3 : ((w.alloc (.cells #[.int .i64 r.1, .int .i64 r.2.1, .int .i64 r.2.2.1, .int .i64 r.2.2.2.1, .int .i64 r.2.2.2.2, .slice A n c] 47)).alloc (.cells #[.int .i64 0, .int .i64 0, .int .i64 0, .int .i64 0, .int .i64 0, .slice none 0 0] 47)).frozen? ⟨w.heap.size + 1, 3, none⟩ = false := by simp only [World.frozen?, g2]; simp
  have fz4 : ((w.alloc (.cells #[.int .i64 r.1, .int .i64 r.2.1, .int .i64 r.2.2.1, .int .i64 r.2.2.2.1, .int .i64 r.2.2.2.2, .slice A n c] 47)).alloc (.cells #[.int .i64 0, .int .i64 0, .int .i64 0, .int .i64 0, .int .i64 0, .slice none 0 0] 47)).frozen? ⟨w.heap.size + 1, 4, none⟩ = false := by simp only [World.frozen?, g2]; simp
  have fz5 : ((w.alloc (.cells #[.int .i64 r.1, .int .i64 r.2.1, .int .i64 r.2.2.1, .int .i64 r.2.2.2.1, .int .i64 r.2.2.2.2, .slice A n c] 47)).alloc (.cells #[.int .i64 0, .int .i64 0, .int .i64 0, .int .i64 0, .int .i64 0, .slice none 0 0] 47)).frozen? ⟨w.heap.size + 1, 5, none⟩ = false := by simp only [World.frozen?, g2]; simp
  have hl0 : w.heap.size + 1 < ((w.alloc (.cells #[.int .i64 r.1, .int .i64 r.2.1, .int .i64 r.2.2.1, .int .i64 r.2.2.2.1, .int .i64 r.2.2.2.2, .slice A n c] 47)).alloc (.cells #[.int .i64 0, .int .i64 0, .int .i64 0, .int .i64 0, .int .i64 0, .slice none 0 0] 47)).heap.size := by rw [g4]; omega
  clear g1 g2 g4
  go_enter Tryd.func39, Tryd.ntmps39
  go_wp2
  generalize ((w.alloc (.cells #[.int .i64 r.1, .int .i64 r.2.1, .int .i64 r.2.2.1, .int .i64 r.2.2.2.1, .int .i64 r.2.2.2.2, .slice A n c] 47)).alloc (.cells #[.int .i64 0, .int .i64 0, .int .i64 0, .int .i64 0, .int .i64 0, .slice none 0 0] 47)) = w0 at *
  have hl0' : w.heap.size < w0.heap.size := by omega
  have hs0 : Sl encReply 4 w0.drew lo hi A xs := hs.below hb0.drew hhi
  have hh0 : hi ≤ w0.drew.heap.size := Nat.le_trans hhi hb0.size
  have hst : Stays w.heap.size w0.heap[w.heap.size]? w0 := ⟨rfl⟩
  refine wp_region_T (Stays _ _) [47] [] [4] [0, 1, 2, 3, 4, 5, 6] (by kernel_rfl) (by kernel_rfl) (by kernel_rfl) (Stays.drew hst) ?_; simp only [pickL, List.getElem?_cons_succ, List.getElem?_cons_zero]
  go_wp2_with (first
    | ((with_reducible refine Stays.and_ ?_ ?_); (focus (repeat (first | (with_reducible assumption) | (with_reducible refine Stays.drew ?_) | ((with_reducible refine Stays.cell ?_ ?_); rotate_left; (focus (first | (with_reducible assumption) | (simp; done) | (simp; omega))))))); intro hS) | ((with_reducible refine wpT_q0 ?_ ?_ ?_ ?_); (focus rfl); (focus rfl); (focus rfl); intro K hK) | ((with_reducible apply wpT_k); (focus rfl); (focus rfl); (focus rfl); (focus rfl); (focus (first | assumption | exact Stays.drew (by assumption))); (focus rfl); (focus go_simp); intro K hK) | ((with_reducible refine wpT_xs0 ?_ ?_ ?_); (focus rfl); (focus rfl); intro K hK) | ((with_reducible refine wpT_noL ?_ ?_); (focus (first | exact wanted_no _ _ _ rfl rfl rfl | exact wanted_un _ _ _ rfl rfl rfl)); simp only [setO, List.set_cons_succ, List.set_cons_zero]) | ((with_reducible refine wpT_q1 ?_ ?_ ?_ ?_); (focus exact wanted_yes _ _ _ rfl rfl rfl); (focus rfl); (focus rfl); intro K hK) | ((with_reducible refine wpT_xs1 ?_ ?_ ?_); (focus exact wanted_yes _ _ _ rfl rfl rfl); (focus rfl); intro K hK) | ((with_reducible refine wpT_nil ?_); try dsimp only)
    | (go_at_call 41; refine (cloneReply_c A n c lo hi xs w0.drew hn'.out hb hs0 hh0).mono ?_; rintro e w3 ⟨A3, rfl, ho3, hb3⟩; have hB3 := hb0.drew.trans (hb3.mono hb0.size); have hst3 : Stays w.heap.size w0.heap[w.heap.size]? w3 := ⟨hb3.block _ hl0'⟩; have hl3 : w.heap.size + 1 < w0.drew.heap.size := hl0; have x0 := keepc (w := w0.drew) hb3 x0; have x1 := keepc (w := w0.drew) hb3 x1; have x2 := keepc (w := w0.drew) hb3 x2; have x3 := keepc (w := w0.drew) hb3 x3; have x4 := keepc (w := w0.drew) hb3 x4; have x5 := keepc (w := w0.drew) hb3 x5; have qz0 := keepc (w := w0.drew) hb3 qz0; have qz1 := keepc (w := w0.drew) hb3 qz1; have qz2 := keepc (w := w0.drew) hb3 qz2; have qz3 := keepc (w := w0.drew) hb3 qz3; have qz4 := keepc (w := w0.drew) hb3 qz4; have qz5 := keepc (w := w0.drew) hb3 qz5; have fz0 := keepf (w := w0.drew) hb3 (hl3) fz0; have fz1 := keepf (w := w0.drew) hb3 (hl3) fz1; have fz2 := keepf (w := w0.drew) hb3 (hl3) fz2; have fz3 := keepf (w := w0.drew) hb3 (hl3) fz3; have fz4 := keepf (w := w0.drew) hb3 (hl3) fz4; have fz5 := keepf (w := w0.drew) hb3 (hl3) fz5))
  refine bodyPost_ret (v := .agg #[.int .i64 r.1, .int .i64 r.2.1, .int .i64 r.2.2.1, .int .i64 r.2.2.2.1, .int .i64 r.2.2.2.2, .slice A3 n n]) (by simp [results, Tryd.results39, go_sem, qz0, qz1, qz2, qz3, qz4, qz5]) rfl ⟨A3, n, by rw [← hn'.out], ?_, set6_below _ _ _ _ _ _ (by omega) hB3⟩
  rw [← hn'.out]
  exact (ho3.mono hb0.size).keep (fun k hk => set6_keep _ _ _ _ _ _ (by have := (ho3.lt k hk).1; have e9 : w0.drew.heap.size = w0.heap.size := rfl; omega))
end Go.Proofs.YtajmfonepnkofaaDoor
