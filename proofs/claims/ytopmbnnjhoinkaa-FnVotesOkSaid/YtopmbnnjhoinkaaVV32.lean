/-
  What 'FVd' rests on (texts of this seat put together: TX17).
  Conditions: none.
-/
import Derived.Test.YtopmbnnjhoinkaaVV31
namespace Go.Proofs.Ytopmbnnjhoinkaa
open Go Go.RowKit Rg
set_option linter.unusedVariables false
set_option linter.unusedSimpArgs false
set_option maxHeartbeats 1000000
section
variable {T D : Nat} {c0 : Cx} {w0 : World} {rs cs us vs : List Value} {bad : Int} {A : Option Addr} {d : Nat} {B : Option Addr} {p q : Nat} {C : Option Addr} {m f : Nat}
set_option maxRecDepth 100000 in
set_option maxHeartbeats 20000000 in
theorem l6Do_ask (hT : TW T D c0 w0) (h1 : SlV c0 tR (.slice A 4 d)) (h2 : SlV c0 tM (.slice B p q)) (hp : p ≤ 100) (hb : BareS w0 B p) (he : TyE T D c0 tE us) (hek : us[0]? = some (.int .i64 1)) (hB : T ≤ 100000 ∧ D ≤ 100000000) :
    Calls Try.prog 68 #[.agg (List.toArray [.int .i64 bad, .slice A 4 d, .slice B p q]), .agg us.toArray] w0 fun e w' => PWb [.int .i64 bad, .slice A 4 d, .slice B p q] (T + 100) (D + T + 100) c0 w0 e w' := by
  obtain ⟨ek, at_, to, kd, fr, mv, sq, mr, B1, p1, q1, B2, p2, q2, rfl, v1, v2, v3, v4, v5⟩ := he.event
  obtain rfl : ek = 1 := by simpa using hek
  cases fI : inB to 0 3
  all_goals
    have hS : St ⟨c0, w0, none⟩ 0 (T) (D) c0 [] [] w0 := (St.start hT (fun g hg => by cases hg)).raise (by omega) (by omega)
    go_enter Try.func68, Try.ntmps68
    go_wp2_with (first
        | ((refine no_implicit_lambda% (hdE ?_)); intro K hK; (first
          | ((with_reducible refine at_dst 2 ?_ ?_); (focus rfl); (refine no_implicit_lambda% (aB ?_)); (try clear hc ht hv); clear hS; intro b2 w hS hc ht hv)
          | ((with_reducible refine at_dst 3 ?_ ?_); (focus rfl); (refine no_implicit_lambda% (aB ?_)); (try clear hc ht hv); clear hS; intro b3 w hS hc ht hv)
          | ((with_reducible refine at_dst 4 ?_ ?_); (focus rfl); (refine no_implicit_lambda% (alzW ?_)); (try clear hc ht hv); clear hS; intro b4 w hS hc ht hv)
          | ((with_reducible refine at_dst 7 ?_ ?_); (focus rfl); (refine no_implicit_lambda% (alzM ?_)); (try clear hc ht hv); clear hS; intro b7 w hS hc ht hv)
          | ((with_reducible refine at_dst 8 ?_ ?_); (focus rfl); (refine no_implicit_lambda% (alzR ?_)); (try clear hc ht hv); clear hS; intro b8 w hS hc ht hv)
          | ((with_reducible refine at_dst 10 ?_ ?_); (focus rfl); (refine no_implicit_lambda% (alzR ?_)); (try clear hc ht hv); clear hS; intro b10 w hS hc ht hv)
          | ((with_reducible refine at_dst 12 ?_ ?_); (focus rfl); (refine no_implicit_lambda% (alzM ?_)); (try clear hc ht hv); clear hS; intro b12 w hS hc ht hv)
          | ((with_reducible refine at_dst 43 ?_ ?_); (focus rfl); ((refine no_implicit_lambda% (r1zMbareP ?_)); (try clear hc ht hv); clear hS; intro c b w hS hx; (try replace hrs := hrs.mono hx.le); (try replace hus := hus.mono hx.le); (try clear hx); intro hc ht hv))
          | ((with_reducible refine at_dst 144 ?_ ?_); (focus rfl); ((refine no_implicit_lambda% (r1zMbareP ?_)); (try clear hc ht hv); clear hS; intro c b w hS hx; (try replace hrs := hrs.mono hx.le); (try replace hus := hus.mono hx.le); (try clear hx); intro hc ht hv))
          | ((refine no_implicit_lambda% (sazM ?_)); (try clear hc ht hv); clear hS; intro w hS hc ht hv)
          | ((refine no_implicit_lambda% (sazW ?_)); (try clear hc ht hv); clear hS; intro w hS hc ht hv)
          | ((refine no_implicit_lambda% (sazR ?_)); (try clear hc ht hv); clear hS; intro w hS hc ht hv)
          | ((refine no_implicit_lambda% (stI ?_)); (try clear hc ht hv); clear hS; intro w hS hc ht hv)))
        | (go_at_call 34; refine (l1In_c _ _ _ _).mono ?_; rintro e w ⟨rfl, rfl⟩; (try clear hc ht hv); (try dsimp only); (refine no_implicit_lambda% (fct ?_)); intro hc ht hv)
        | (go_at_call 81; refine (l3Ok_t hS.tw tyA).mono ?_; rintro e w ⟨bq, rfl, hbare, hb⟩; replace hS := hS.past hb; clear hb; (try clear hc ht hv); (try dsimp only); (refine no_implicit_lambda% (fct ?_)); intro hc ht hv; cases bq)
        | (go_at_call 77; refine (l3Has_t hS.tw slA tyA).mono ?_; rintro e w ⟨bq, rfl, hb⟩; replace hS := hS.past hb; clear hb; (try clear hc ht hv); (try dsimp only); (refine no_implicit_lambda% (fct ?_)); intro hc ht hv; cases bq)
        | (go_at_call 82; refine (l6Say_t hS.tw slA slA (by omega) brA slA (by omega) brA).mono ?_; rintro e w ⟨c, hres, hx, hT', hb⟩; have hlt_ := hS.ownLt; have hbs_ := hS.base; (try replace hobV := KB.call hx hb hobV); replace hS := hS.below hx hT' (by omega) (by omega) hb; clear hx hT' hb; (rcases hres with rfl | ⟨bad', Aw, dw, Bw, pw, qw, rfl, s1, s2, hpw, ls, ho, hP⟩) <;> ((try replace hS := hS.addV s2 ho hP hbs_ hlt_); (try clear ho hP ls); clear hlt_ hbs_; (try clear hc ht hv); (try dsimp only); (refine no_implicit_lambda% (fct ?_)); intro hc ht hv))
        | (go_at_call 83; refine (l5Hear_t hS.tw tyA tyA slA (by omega)).mono ?_; rintro e w ⟨c, rs, Am, nm, dm, rfl, hrs, hnm, hsm, ⟨lsm, hom, hpm⟩, hx, hT', hb⟩; (try replace hobV := KB.call hx hb hobV); have hlt_ := hS.ownLt; replace hS := (hS.below hx hT' (by omega) (by omega) hb).addV hsm hom hpm hS.base hlt_; clear hx hT' hb hlt_ hom hpm hsm lsm; (try clear hc ht hv); (obtain ⟨_, _, _, _, _, _, _, _, _, _, _, _, _, rfl, _, _, _, _, _, _, _, _⟩ := hrs.rep); (try dsimp only); (refine no_implicit_lambda% (fct ?_)); intro hc ht hv)
        | (go_at_call 84; refine (l6Set_t hS.tw slA slA (by omega) brA tyA slA (by omega) brA).mono ?_; rintro e w ⟨c, hres, hx, hT', hb⟩; have hlt_ := hS.ownLt; have hbs_ := hS.base; (try replace hobV := KB.call hx hb hobV); replace hS := hS.below hx hT' (by omega) (by omega) hb; clear hx hT' hb; (rcases hres with rfl | ⟨bad', Aw, dw, Bw, pw, qw, rfl, s1, s2, hpw, ls, ho, hP⟩) <;> ((try replace hS := hS.addV s2 ho hP hbs_ hlt_); (try clear ho hP ls); clear hlt_ hbs_; (try clear hc ht hv); (try dsimp only); (refine no_implicit_lambda% (fct ?_)); intro hc ht hv))
        | (go_at_call 85; refine (l5Turns_t hS.tw tyA slA (by omega) (by omega)).mono ?_; rintro e w ⟨c, rs, Am, nm, dm, rfl, hrs, hnm, hsm, ⟨lsm, hom, hpm⟩, hx, hT', hb⟩; (try replace hobV := KB.call hx hb hobV); have hlt_ := hS.ownLt; replace hS := (hS.below hx hT' (by omega) (by omega) hb).addV hsm hom hpm hS.base hlt_; clear hx hT' hb hlt_ hom hpm hsm lsm; (try clear hc ht hv); (obtain ⟨_, _, _, _, _, _, _, _, _, _, _, _, _, rfl, _, _, _, _, _, _, _, _⟩ := hrs.rep); (try dsimp only); (refine no_implicit_lambda% (fct ?_)); intro hc ht hv)
        | (go_at_call 66; refine (l3Copy_t hS.tw tyA).mono ?_; rintro e w ⟨c, us, rfl, hus, hx, hT', hb, hbare⟩; replace hS := hS.below hx hT' (by omega) (by omega) hb; clear hx hT' hb; (try clear hc ht hv); (obtain ⟨_, _, _, _, _, _, _, _, _, _, _, rfl, _, _, _, _, _⟩ := hus.msg); (try dsimp only); (refine no_implicit_lambda% (fct ?_)); intro hc ht hv)
        | ((refine no_implicit_lambda% (rgspecl6Do11XOO ?_)); (try clear hc ht hv); clear hS; intro hS hc ht hv)
        | ((refine no_implicit_lambda% (rgspecl6Do16XO ?_)); (try clear hc ht hv); clear hS; intro hS hc ht hv)
        | ((with_reducible refine wpOF_both ?_ ?_) <;> (refine no_implicit_lambda% (pk_ ?_))) | ((with_reducible refine wpOF_three ?_ ?_ ?_) <;> (refine no_implicit_lambda% (pk_ ?_))) | ((with_reducible refine MS.and_ ?_ ?_); (focus (exact msA)); intro hM) | (refine no_implicit_lambda% (ofS ?_)) | ((refine no_implicit_lambda% (ofK ?_)); intro K hK) | (refine no_implicit_lambda% (ofL ?_)) | ((refine no_implicit_lambda% (ofM ?_)); intro K hK) | ((refine no_implicit_lambda% (ofX ?_)); intro K hK) | (refine no_implicit_lambda% (ofN ?_)) | ((with_reducible apply wpT_split); (focus rfl); (focus rfl); (focus rfl); all_goals (intro hxx; simp only [hxx]))
        | fail)
    all_goals (exact no_implicit_lambda% fWb3_3r)
end
end Go.Proofs.Ytopmbnnjhoinkaa
