/-
  What 'FVd' rests on (texts of this seat put together: TX16).
  Conditions: none.
-/
import Derived.Test.YtopmbnnjhoinkaaVV30
namespace Go.Proofs.Ytopmbnnjhoinkaa
open Go Go.RowKit Rg
set_option linter.unusedVariables false
set_option linter.unusedSimpArgs false
set_option maxHeartbeats 1000000
section
variable {T D : Nat} {c0 : Cx} {w0 : World} {rs cs us vs : List Value} {bad : Int} {A : Option Addr} {d : Nat} {B : Option Addr} {p q : Nat} {C : Option Addr} {m f : Nat}
set_option maxRecDepth 100000 in
set_option maxHeartbeats 4000000 in
theorem l6Say_t (hT : TW T D c0 w0) (h1 : SlV c0 tR (.slice A 4 d)) (h2 : SlV c0 tM (.slice B p q)) (hp : p ≤ 100) (hb : BareS w0 B p) (h3 : SlV c0 tM (.slice C m f)) (hm : m ≤ 10000000) (hc0 : BareS w0 C m) :
    Calls Try.prog 82 #[.agg (List.toArray [.int .i64 bad, .slice A 4 d, .slice B p q]), .slice C m f] w0 fun e w' => PWb [.int .i64 bad, .slice A 4 d, .slice B p q] T D c0 w0 e w' := by
  have hS : St ⟨c0, w0, none⟩ 0 (T) (D) c0 [] [] w0 := (St.start hT (fun g hg => by cases hg)).raise (by omega) (by omega)
  go_enter Try.func82, Try.ntmps82
  go_wp2_with (first
    | ((refine no_implicit_lambda% (hdE ?_)); intro K hK; (first
      | ((with_reducible refine at_dst 2 ?_ ?_); (focus rfl); (refine no_implicit_lambda% (aB ?_)); (try clear hc ht hv); clear hS; intro b2 w hS hc ht hv)
      | ((with_reducible refine at_dst 4 ?_ ?_); (focus rfl); (refine no_implicit_lambda% (alzW ?_)); (try clear hc ht hv); clear hS; intro b4 w hS hc ht hv)
      | ((with_reducible refine at_dst 8 ?_ ?_); (focus rfl); ((refine no_implicit_lambda% (r0zMbareP ?_)); (try clear hc ht hv); clear hS; intro c b w hS hx; (try replace hus := hus.mono hx.le); (try clear hx); intro hc ht hv))
      | ((with_reducible refine at_dst 31 ?_ ?_); (focus rfl); ((refine no_implicit_lambda% (r1zMbareP ?_)); (try clear hc ht hv); clear hS; intro c b w hS hx; (try replace hus := hus.mono hx.le); (try clear hx); intro hc ht hv))
      | ((with_reducible refine at_dst 11 ?_ ?_); (focus rfl); ((refine no_implicit_lambda% (apzMb ?_)); (try clear hc ht hv); clear hS; intro c A11 d11 w hS hx; (try replace hus := hus.mono hx.le); (try clear hx); intro hc ht hv))
      | ((with_reducible refine at_dst 32 ?_ ?_); (focus rfl); ((refine no_implicit_lambda% (apzMb ?_)); (try clear hc ht hv); clear hS; intro c A32 d32 w hS hx; (try replace hus := hus.mono hx.le); (try clear hx); intro hc ht hv))
      | ((refine no_implicit_lambda% (sazW ?_)); (try clear hc ht hv); clear hS; intro w hS hc ht hv)
      | ((refine no_implicit_lambda% (stS ?_)); (try clear hc ht hv); clear hS; intro w hS hc ht hv)))
    | (go_at_call 77; refine (l3Has_t hS.tw slA tyA).mono ?_; rintro e w ⟨bq, rfl, hb⟩; replace hS := hS.past hb; clear hb; (try clear hc ht hv); (try dsimp only); (refine no_implicit_lambda% (fct ?_)); intro hc ht hv; cases bq)
    | (go_at_call 66; refine (l3Copy_t hS.tw tyA).mono ?_; rintro e w ⟨c, us, rfl, hus, hx, hT', hb, hbare⟩; replace hS := hS.below hx hT' (by omega) (by omega) hb; clear hx hT' hb; (try clear hc ht hv); (obtain ⟨_, _, _, _, _, _, _, _, _, _, _, rfl, _, _, _, _, _⟩ := hus.msg); (try dsimp only); (refine no_implicit_lambda% (fct ?_)); intro hc ht hv)
    | fail)
  go_loopw [6, 7] (fun sv iv wr => ∃ (i k : Nat) (c : Cx) (A' : Option Addr) (d' : Nat), i ≤ m ∧ k ≤ 100 + i ∧ iv = .int .i64 (i : Int) ∧ sv = .slice A' k d' ∧ St ⟨c0, w0, none⟩ 0 T D c [(b4, tW, [.int .i64 0, .slice none 0 0, .slice none 0 0]), (b2, tW, [.int .i64 bad, .slice A 4 d, .slice B p q])] [(tM, bareP, .slice A' k d')] wr) (fun _ iv _ => m - (intOf iv).toNat)
  case atStart => exact ⟨0, p, c, _, _, Nat.zero_le _, by omega, rfl, rfl, hS⟩
  case round =>
    (try clear hc ht hv); clear hS
    obtain ⟨i, k, c, A', d', hi, hk, rfl, rfl, hS⟩ := hrel
    by_cases hlti : i < m
    · obtain ⟨g, off, rfl⟩ := h3.addr hlti
      obtain ⟨kd, fr, mv, sq, mr, Ac, nc, dc, Av, nv, dv, a0, a1, a2, a3, a4, a5, a6, a7, a8, a9, a10, u1, u2, u3, u4, u5⟩ := hT.msgAt h3 hlti
      have hbz := hT.bareAt h3 hc0 hlti a0 a1 a2 a3 a4 a5 a6 a7 a8 a9 a10
      (try clear hc ht hv); (refine no_implicit_lambda% (fct ?_)); intro hc ht hv; (refine no_implicit_lambda% (fx2eb15 ?_)); intro e0 e1 e2 e3 e4 e5 e6 e7 e8 e9 e10 e12 e14
      go_wp2_with (first
    | ((refine no_implicit_lambda% (hdE ?_)); intro K hK; (first
      | ((with_reducible refine at_dst 2 ?_ ?_); (focus rfl); (refine no_implicit_lambda% (aB ?_)); (try clear hc ht hv); (try clear e0 e1 e2 e3 e4 e5 e6 e7 e8 e9 e10 e12 e14); clear hS; intro b2 w hS hc ht hv; (refine no_implicit_lambda% (fx2eb15 ?_)); intro e0 e1 e2 e3 e4 e5 e6 e7 e8 e9 e10 e12 e14)
      | ((with_reducible refine at_dst 4 ?_ ?_); (focus rfl); (refine no_implicit_lambda% (alzW ?_)); (try clear hc ht hv); (try clear e0 e1 e2 e3 e4 e5 e6 e7 e8 e9 e10 e12 e14); clear hS; intro b4 w hS hc ht hv; (refine no_implicit_lambda% (fx2eb15 ?_)); intro e0 e1 e2 e3 e4 e5 e6 e7 e8 e9 e10 e12 e14)
      | ((with_reducible refine at_dst 8 ?_ ?_); (focus rfl); ((refine no_implicit_lambda% (r0zMbareP ?_)); (try clear hc ht hv); (try clear e0 e1 e2 e3 e4 e5 e6 e7 e8 e9 e10 e12 e14); clear hS; intro c b w hS hx; (try replace hus := hus.mono hx.le); (try clear hx); intro hc ht hv; (refine no_implicit_lambda% (fx2eb15 ?_)); intro e0 e1 e2 e3 e4 e5 e6 e7 e8 e9 e10 e12 e14))
      | ((with_reducible refine at_dst 31 ?_ ?_); (focus rfl); ((refine no_implicit_lambda% (r1zMbareP ?_)); (try clear hc ht hv); (try clear e0 e1 e2 e3 e4 e5 e6 e7 e8 e9 e10 e12 e14); clear hS; intro c b w hS hx; (try replace hus := hus.mono hx.le); (try clear hx); intro hc ht hv; (refine no_implicit_lambda% (fx2eb15 ?_)); intro e0 e1 e2 e3 e4 e5 e6 e7 e8 e9 e10 e12 e14))
      | ((with_reducible refine at_dst 11 ?_ ?_); (focus rfl); ((refine no_implicit_lambda% (apzMb ?_)); (try clear hc ht hv); (try clear e0 e1 e2 e3 e4 e5 e6 e7 e8 e9 e10 e12 e14); clear hS; intro c A11 d11 w hS hx; (try replace hus := hus.mono hx.le); (try clear hx); intro hc ht hv; (refine no_implicit_lambda% (fx2eb15 ?_)); intro e0 e1 e2 e3 e4 e5 e6 e7 e8 e9 e10 e12 e14))
      | ((with_reducible refine at_dst 32 ?_ ?_); (focus rfl); ((refine no_implicit_lambda% (apzMb ?_)); (try clear hc ht hv); (try clear e0 e1 e2 e3 e4 e5 e6 e7 e8 e9 e10 e12 e14); clear hS; intro c A32 d32 w hS hx; (try replace hus := hus.mono hx.le); (try clear hx); intro hc ht hv; (refine no_implicit_lambda% (fx2eb15 ?_)); intro e0 e1 e2 e3 e4 e5 e6 e7 e8 e9 e10 e12 e14))
      | ((refine no_implicit_lambda% (sazW ?_)); (try clear hc ht hv); (try clear e0 e1 e2 e3 e4 e5 e6 e7 e8 e9 e10 e12 e14); clear hS; intro w hS hc ht hv; (refine no_implicit_lambda% (fx2eb15 ?_)); intro e0 e1 e2 e3 e4 e5 e6 e7 e8 e9 e10 e12 e14)
      | ((refine no_implicit_lambda% (stS ?_)); (try clear hc ht hv); (try clear e0 e1 e2 e3 e4 e5 e6 e7 e8 e9 e10 e12 e14); clear hS; intro w hS hc ht hv; (refine no_implicit_lambda% (fx2eb15 ?_)); intro e0 e1 e2 e3 e4 e5 e6 e7 e8 e9 e10 e12 e14)))
    | (go_at_call 77; refine (l3Has_t hS.tw slA tyA).mono ?_; rintro e w ⟨bq, rfl, hb⟩; replace hS := hS.past hb; clear hb; (try clear hc ht hv); (try clear e0 e1 e2 e3 e4 e5 e6 e7 e8 e9 e10 e12 e14); (try dsimp only); (refine no_implicit_lambda% (fct ?_)); intro hc ht hv; (refine no_implicit_lambda% (fx2eb15 ?_)); intro e0 e1 e2 e3 e4 e5 e6 e7 e8 e9 e10 e12 e14; cases bq)
    | (go_at_call 66; refine (l3Copy_t hS.tw tyA).mono ?_; rintro e w ⟨c, us, rfl, hus, hx, hT', hb, hbare⟩; replace hS := hS.below hx hT' (by omega) (by omega) hb; clear hx hT' hb; (try clear hc ht hv); (try clear e0 e1 e2 e3 e4 e5 e6 e7 e8 e9 e10 e12 e14); (obtain ⟨_, _, _, _, _, _, _, _, _, _, _, rfl, _, _, _, _, _⟩ := hus.msg); (try dsimp only); (refine no_implicit_lambda% (fct ?_)); intro hc ht hv; (refine no_implicit_lambda% (fx2eb15 ?_)); intro e0 e1 e2 e3 e4 e5 e6 e7 e8 e9 e10 e12 e14)
    | fail)
      all_goals
        go_roundw
        case rel => first | exact ⟨i + 1, k, c, _, _, by omega, by omega, by go_num, rfl, hS⟩ | exact ⟨i + 1, k + 1, c, _, _, by omega, by omega, by go_num, rfl, hS.tailV⟩
        case measure => simp [intOf]; omega
    · obtain rfl : i = m := by omega
      by_cases hk1 : k ≤ 100
      · have d1 : decide ((100 : Int) < (k : Int)) = false := by simp; omega
        (try clear hc ht hv); (refine no_implicit_lambda% (fct ?_)); intro hc ht hv
        go_wp2_with (first
    | ((refine no_implicit_lambda% (hdE ?_)); intro K hK; (first
      | ((with_reducible refine at_dst 2 ?_ ?_); (focus rfl); (refine no_implicit_lambda% (aB ?_)); (try clear hc ht hv); clear hS; intro b2 w hS hc ht hv)
      | ((with_reducible refine at_dst 4 ?_ ?_); (focus rfl); (refine no_implicit_lambda% (alzW ?_)); (try clear hc ht hv); clear hS; intro b4 w hS hc ht hv)
      | ((with_reducible refine at_dst 8 ?_ ?_); (focus rfl); ((refine no_implicit_lambda% (r0zMbareP ?_)); (try clear hc ht hv); clear hS; intro c b w hS hx; (try replace hus := hus.mono hx.le); (try clear hx); intro hc ht hv))
      | ((with_reducible refine at_dst 31 ?_ ?_); (focus rfl); ((refine no_implicit_lambda% (r1zMbareP ?_)); (try clear hc ht hv); clear hS; intro c b w hS hx; (try replace hus := hus.mono hx.le); (try clear hx); intro hc ht hv))
      | ((with_reducible refine at_dst 11 ?_ ?_); (focus rfl); ((refine no_implicit_lambda% (apzMb ?_)); (try clear hc ht hv); clear hS; intro c A11 d11 w hS hx; (try replace hus := hus.mono hx.le); (try clear hx); intro hc ht hv))
      | ((with_reducible refine at_dst 32 ?_ ?_); (focus rfl); ((refine no_implicit_lambda% (apzMb ?_)); (try clear hc ht hv); clear hS; intro c A32 d32 w hS hx; (try replace hus := hus.mono hx.le); (try clear hx); intro hc ht hv))
      | ((refine no_implicit_lambda% (sazW ?_)); (try clear hc ht hv); clear hS; intro w hS hc ht hv)
      | ((refine no_implicit_lambda% (stS ?_)); (try clear hc ht hv); clear hS; intro w hS hc ht hv)))
    | (go_at_call 77; refine (l3Has_t hS.tw slA tyA).mono ?_; rintro e w ⟨bq, rfl, hb⟩; replace hS := hS.past hb; clear hb; (try clear hc ht hv); (try dsimp only); (refine no_implicit_lambda% (fct ?_)); intro hc ht hv; cases bq)
    | (go_at_call 66; refine (l3Copy_t hS.tw tyA).mono ?_; rintro e w ⟨c, us, rfl, hus, hx, hT', hb, hbare⟩; replace hS := hS.below hx hT' (by omega) (by omega) hb; clear hx hT' hb; (try clear hc ht hv); (obtain ⟨_, _, _, _, _, _, _, _, _, _, _, rfl, _, _, _, _, _⟩ := hus.msg); (try dsimp only); (refine no_implicit_lambda% (fct ?_)); intro hc ht hv)
    | fail)
        all_goals (exact no_implicit_lambda% fWb4_3)
      · have d1 : decide ((100 : Int) < (k : Int)) = true := by simp; omega
        (try clear hc ht hv); (refine no_implicit_lambda% (fct ?_)); intro hc ht hv
        go_wp2_with (first
    | ((refine no_implicit_lambda% (hdE ?_)); intro K hK; (first
      | ((with_reducible refine at_dst 2 ?_ ?_); (focus rfl); (refine no_implicit_lambda% (aB ?_)); (try clear hc ht hv); clear hS; intro b2 w hS hc ht hv)
      | ((with_reducible refine at_dst 4 ?_ ?_); (focus rfl); (refine no_implicit_lambda% (alzW ?_)); (try clear hc ht hv); clear hS; intro b4 w hS hc ht hv)
      | ((with_reducible refine at_dst 8 ?_ ?_); (focus rfl); ((refine no_implicit_lambda% (r0zMbareP ?_)); (try clear hc ht hv); clear hS; intro c b w hS hx; (try replace hus := hus.mono hx.le); (try clear hx); intro hc ht hv))
      | ((with_reducible refine at_dst 31 ?_ ?_); (focus rfl); ((refine no_implicit_lambda% (r1zMbareP ?_)); (try clear hc ht hv); clear hS; intro c b w hS hx; (try replace hus := hus.mono hx.le); (try clear hx); intro hc ht hv))
      | ((with_reducible refine at_dst 11 ?_ ?_); (focus rfl); ((refine no_implicit_lambda% (apzMb ?_)); (try clear hc ht hv); clear hS; intro c A11 d11 w hS hx; (try replace hus := hus.mono hx.le); (try clear hx); intro hc ht hv))
      | ((with_reducible refine at_dst 32 ?_ ?_); (focus rfl); ((refine no_implicit_lambda% (apzMb ?_)); (try clear hc ht hv); clear hS; intro c A32 d32 w hS hx; (try replace hus := hus.mono hx.le); (try clear hx); intro hc ht hv))
      | ((refine no_implicit_lambda% (sazW ?_)); (try clear hc ht hv); clear hS; intro w hS hc ht hv)
      | ((refine no_implicit_lambda% (stS ?_)); (try clear hc ht hv); clear hS; intro w hS hc ht hv)))
    | (go_at_call 77; refine (l3Has_t hS.tw slA tyA).mono ?_; rintro e w ⟨bq, rfl, hb⟩; replace hS := hS.past hb; clear hb; (try clear hc ht hv); (try dsimp only); (refine no_implicit_lambda% (fct ?_)); intro hc ht hv; cases bq)
    | (go_at_call 66; refine (l3Copy_t hS.tw tyA).mono ?_; rintro e w ⟨c, us, rfl, hus, hx, hT', hb, hbare⟩; replace hS := hS.below hx hT' (by omega) (by omega) hb; clear hx hT' hb; (try clear hc ht hv); (obtain ⟨_, _, _, _, _, _, _, _, _, _, _, rfl, _, _, _, _, _⟩ := hus.msg); (try dsimp only); (refine no_implicit_lambda% (fct ?_)); intro hc ht hv)
    | fail)
        all_goals (exact no_implicit_lambda% fWb4_3)
set_option maxRecDepth 100000 in
set_option maxHeartbeats 4000000 in
theorem l6Set_t (hT : TW T D c0 w0) (h1 : SlV c0 tR (.slice A 4 d)) (h2 : SlV c0 tM (.slice B p q)) (hp : p ≤ 100) (hb : BareS w0 B p) (hr : TyE T D c0 tR rs) (h3 : SlV c0 tM (.slice C m f)) (hm : m ≤ 10000000) (hc0 : BareS w0 C m) :
    Calls Try.prog 84 #[.agg (List.toArray [.int .i64 bad, .slice A 4 d, .slice B p q]), .agg rs.toArray, .slice C m f] w0 fun e w' => PWb [.int .i64 bad, .slice A 4 d, .slice B p q] T D c0 w0 e w' := by
  obtain ⟨me, vw, lv, nx, A1, n1, d1, A2, n2, d2, A3, n3, d3, rfl, g1, g2, g3, g4, g5, g6, g7, g8⟩ := hr.rep
  obtain ⟨mn, rfl, hmn⟩ : ∃ mn : Nat, me = (mn : Int) ∧ mn < 4 := ⟨me.toNat, by omega, by omega⟩
  have hS : St ⟨c0, w0, none⟩ 0 (T) (D) c0 [] [] w0 := (St.start hT (fun g hg => by cases hg)).raise (by omega) (by omega)
  go_enter Try.func84, Try.ntmps84
  go_wp2_with (first
    | ((refine no_implicit_lambda% (hdE ?_)); intro K hK; (first
      | ((with_reducible refine at_store rfl ?_); (with_reducible apply wp_pokeT (i := mn) hS); (focus rfl); (focus rfl); (focus (first | assumption | omega)); (focus rfl); (focus (exact tyA)); (focus exact inR); (try clear hc ht hv); clear hS; intro w hS; (refine no_implicit_lambda% (fct ?_)); intro hc ht hv)
      | ((with_reducible refine at_dst 3 ?_ ?_); (focus rfl); (refine no_implicit_lambda% (aB ?_)); (try clear hc ht hv); clear hS; intro b3 w hS hc ht hv)
      | ((with_reducible refine at_dst 4 ?_ ?_); (focus rfl); (refine no_implicit_lambda% (aB ?_)); (try clear hc ht hv); clear hS; intro b4 w hS hc ht hv)
      | ((with_reducible refine at_dst 6 ?_ ?_); (focus rfl); (refine no_implicit_lambda% (alzW ?_)); (try clear hc ht hv); clear hS; intro b6 w hS hc ht hv)
      | ((with_reducible refine at_dst 8 ?_ ?_); (focus rfl); (refine no_implicit_lambda% (alzW ?_)); (try clear hc ht hv); clear hS; intro b8 w hS hc ht hv)
      | ((with_reducible refine at_dst 19 ?_ ?_); (focus rfl); ((refine no_implicit_lambda% (r0zRnoP ?_)); (try clear hc ht hv); clear hS; intro c b w hS hx; (try clear hx); intro hc ht hv))
      | ((with_reducible refine at_dst 22 ?_ ?_); (focus rfl); ((refine no_implicit_lambda% (apzR ?_)); (try clear hc ht hv); clear hS; intro c A22 d22 w hS hx; (try clear hx); intro hc ht hv); (obtain ⟨gR, oR, rfl⟩ := (hS.slV (j := 0) rfl).addr (i := mn) (by omega)); (try clear hc ht hv); (refine no_implicit_lambda% (fct ?_)); intro hc ht hv)
      | ((refine no_implicit_lambda% (sazW ?_)); (try clear hc ht hv); clear hS; intro w hS hc ht hv)
      | ((refine no_implicit_lambda% (sazR ?_)); (try clear hc ht hv); clear hS; intro w hS hc ht hv)
      | ((refine no_implicit_lambda% (stS ?_)); (try clear hc ht hv); clear hS; intro w hS hc ht hv)))
    | (go_at_call 82; refine (l6Say_t hS.tw slA slA (by omega) brA slA (by omega) brA).mono ?_; rintro e w ⟨c, hres, hx, hT', hb⟩; have hlt_ := hS.ownLt; have hbs_ := hS.base; (try replace hobV := KB.call hx hb hobV); replace hS := hS.below hx hT' (by omega) (by omega) hb; clear hx hT' hb; (rcases hres with rfl | ⟨bad', Aw, dw, Bw, pw, qw, rfl, s1, s2, hpw, ls, ho, hP⟩) <;> ((try replace hS := hS.addV s2 ho hP hbs_ hlt_); (try clear ho hP ls); clear hlt_ hbs_; (try clear hc ht hv); (try dsimp only); (refine no_implicit_lambda% (fct ?_)); intro hc ht hv))
    | fail)
  all_goals (exact no_implicit_lambda% fWb4_3)
end
end Go.Proofs.Ytopmbnnjhoinkaa
