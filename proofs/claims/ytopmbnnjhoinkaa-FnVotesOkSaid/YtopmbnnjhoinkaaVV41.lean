/-
  What 'FVd' rests on (texts of this seat put together: TX11).
  Conditions: none.
-/
import Derived.Test.YtopmbnnjhoinkaaVV37
import Derived.Test.YtopmbnnjhoinkaaVV38
import Derived.Test.YtopmbnnjhoinkaaVV39
import Derived.Test.YtopmbnnjhoinkaaVV40
namespace Go.Proofs.Ytopmbnnjhoinkaa
open Go Go.RowKit Rg
set_option linter.unusedVariables false
set_option linter.unusedSimpArgs false
set_option maxHeartbeats 1000000
section
variable {T D : Nat} {c0 : Cx} {w0 : World} {rs cs us vs : List Value} {A : Option Addr} {n d : Nat} {view : Int}
set_option maxRecDepth 100000 in
set_option maxHeartbeats 4000000 in
theorem l5Hear_t (hT : TW T D c0 w0) (hr : TyE T D c0 tR rs) (hm : TyE T D c0 tM us) (hs : SlV c0 34 (.slice A n d)) (hB : T ≤ 800000 ∧ D ≤ 800000000) :
    Calls Try.prog 83 #[.agg rs.toArray, .agg us.toArray, .slice A n d] w0 fun e w' => PRM (T + 100) (D + T + 100) (T + 201) c0 w0 e w' := by
  obtain ⟨me, vw, lv, nx, A1, n1, d1, A2, n2, d2, A3, n3, d3, rfl, g1, g2, g3, g4, g5, g6, g7, g8⟩ := hr.rep
  obtain ⟨kd, fr, mv, sq, mr, B1, p1, q1, B2, p2, q2, rfl, m1, m2, m3, m4, m5⟩ := hm.msg
  have hcap := g5.cap
  unfold maxLen at hcap
  by_cases h1 : kd = 1
  · subst h1
    have fI : inB 1 3 5 = false := by decide
    have hS : St ⟨c0, w0, none⟩ 0 (T) (D) c0 [] [] w0 := (St.start hT (fun g hg => by cases hg)).raise (by omega) (by omega)
    go_enter Try.func83, Try.ntmps83
    go_wp2_with (first
        | ((refine no_implicit_lambda% (hdE ?_)); intro K hK; (first
          | ((with_reducible refine at_dst 3 ?_ ?_); (focus rfl); (refine no_implicit_lambda% (aB ?_)); (try clear hc ht hv); clear hS; intro b3 w hS hc ht hv)
          | ((with_reducible refine at_dst 4 ?_ ?_); (focus rfl); (refine no_implicit_lambda% (aB ?_)); (try clear hc ht hv); clear hS; intro b4 w hS hc ht hv)
          | ((with_reducible refine at_dst 6 ?_ ?_); (focus rfl); (refine no_implicit_lambda% (alzR ?_)); (try clear hc ht hv); clear hS; intro b6 w hS hc ht hv)
          | ((with_reducible refine at_dst 9 ?_ ?_); (focus rfl); (refine no_implicit_lambda% (alzR ?_)); (try clear hc ht hv); clear hS; intro b9 w hS hc ht hv)
          | ((with_reducible refine at_dst 11 ?_ ?_); (focus rfl); ((refine no_implicit_lambda% (r0zMbareP ?_)); (try clear hc ht hv); clear hS; intro c b w hS hx; (try replace hrs := hrs.mono hx.le); (try clear hx); intro hc ht hv))
          | ((with_reducible refine at_dst 61 ?_ ?_); (focus rfl); ((refine no_implicit_lambda% (r0zMbareP ?_)); (try clear hc ht hv); clear hS; intro c b w hS hx; (try replace hrs := hrs.mono hx.le); (try clear hx); intro hc ht hv))
          | ((with_reducible refine at_dst 63 ?_ ?_); (focus rfl); ((refine no_implicit_lambda% (apzM ?_)); (try clear hc ht hv); clear hS; intro c A63 d63 w hS hx; (try replace hrs := hrs.mono hx.le); (try clear hx); intro hc ht hv))
          | ((with_reducible refine at_dst 65 ?_ ?_); (focus rfl); ((refine no_implicit_lambda% (apzM ?_)); (try clear hc ht hv); clear hS; intro c A65 d65 w hS hx; (try replace hrs := hrs.mono hx.le); (try clear hx); intro hc ht hv))
          | ((refine no_implicit_lambda% (sazR ?_)); (try clear hc ht hv); clear hS; intro w hS hc ht hv)))
        | (go_at_call 34; refine (l1In_c _ _ _ _).mono ?_; rintro e w ⟨rfl, rfl⟩; (try clear hc ht hv); (try dsimp only); (refine no_implicit_lambda% (fct ?_)); intro hc ht hv)
        | (go_at_call 89; refine (l5Note_t hS.tw tyA tyA).mono ?_; rintro e w ⟨c, rs, rfl, hrs, hx, hT', hb⟩; (try replace hobV := KB.call hx hb hobV); replace hS := hS.below hx hT' (by omega) (by omega) hb; clear hx hT' hb; (try clear hc ht hv); (obtain ⟨_, _, _, _, _, _, _, _, _, _, _, _, _, rfl, _, _, _, _, _, _, _, _⟩ := hrs.rep); (try dsimp only); (refine no_implicit_lambda% (fct ?_)); intro hc ht hv)
        | (go_at_call 90; refine (l5Ask_t hS.tw tyA tyA (by omega)).mono ?_; rintro e w ⟨c, rs, Am, nm, dm, rfl, hrs, hnm, hsm, ⟨lsm, hom, hpm⟩, hx, hT', hb⟩; (try replace hobV := KB.call hx hb hobV); have hlt_ := hS.ownLt; replace hS := (hS.below hx hT' (by omega) (by omega) hb).addV hsm hom hpm hS.base hlt_; clear hx hT' hb hlt_ hom hpm hsm lsm; (try clear hc ht hv); (obtain ⟨_, _, _, _, _, _, _, _, _, _, _, _, _, rfl, _, _, _, _, _, _, _, _⟩ := hrs.rep); (try dsimp only); (refine no_implicit_lambda% (fct ?_)); intro hc ht hv)
        | (go_at_call 91; refine (l5Offer_t hS.tw tyA tyA slA (by omega)).mono ?_; rintro e w ⟨c, rs, Am, nm, dm, rfl, hrs, hnm, hsm, ⟨lsm, hom, hpm⟩, hx, hT', hb⟩; (try replace hobV := KB.call hx hb hobV); have hlt_ := hS.ownLt; replace hS := (hS.below hx hT' (by omega) (by omega) hb).addV hsm hom hpm hS.base hlt_; clear hx hT' hb hlt_ hom hpm hsm lsm; (try clear hc ht hv); (obtain ⟨_, _, _, _, _, _, _, _, _, _, _, _, _, rfl, _, _, _, _, _, _, _, _⟩ := hrs.rep); (try dsimp only); (refine no_implicit_lambda% (fct ?_)); intro hc ht hv)
        | (go_at_call 92; refine (l5Turned_t hS.tw tyA tyA slA (by omega)).mono ?_; rintro e w ⟨c, rs, Am, nm, dm, rfl, hrs, hnm, hsm, ⟨lsm, hom, hpm⟩, hx, hT', hb⟩; (try replace hobV := KB.call hx hb hobV); have hlt_ := hS.ownLt; replace hS := (hS.below hx hT' (by omega) (by omega) hb).addV hsm hom hpm hS.base hlt_; clear hx hT' hb hlt_ hom hpm hsm lsm; (try clear hc ht hv); (obtain ⟨_, _, _, _, _, _, _, _, _, _, _, _, _, rfl, _, _, _, _, _, _, _, _⟩ := hrs.rep); (try dsimp only); (refine no_implicit_lambda% (fct ?_)); intro hc ht hv)
        | (go_at_call 93; refine (l5Lead_t hS.tw tyA tyA slA (by omega)).mono ?_; rintro e w ⟨c, rs, Am, nm, dm, rfl, hrs, hnm, hsm, ⟨lsm, hom, hpm⟩, hx, hT', hb⟩; (try replace hobV := KB.call hx hb hobV); have hlt_ := hS.ownLt; replace hS := (hS.below hx hT' (by omega) (by omega) hb).addV hsm hom hpm hS.base hlt_; clear hx hT' hb hlt_ hom hpm hsm lsm; (try clear hc ht hv); (obtain ⟨_, _, _, _, _, _, _, _, _, _, _, _, _, rfl, _, _, _, _, _, _, _, _⟩ := hrs.rep); (try dsimp only); (refine no_implicit_lambda% (fct ?_)); intro hc ht hv)
        | (go_at_call 94; refine (l5Go_t hS.tw tyA (by omega)).mono ?_; rintro e w ⟨c, rs, Am, nm, dm, rfl, hrs, hnm, hsm, ⟨lsm, hom, hpm⟩, hx, hT', hb⟩; (try replace hobV := KB.call hx hb hobV); have hlt_ := hS.ownLt; replace hS := (hS.below hx hT' (by omega) (by omega) hb).addV hsm hom hpm hS.base hlt_; clear hx hT' hb hlt_ hom hpm hsm lsm; (try clear hc ht hv); (obtain ⟨_, _, _, _, _, _, _, _, _, _, _, _, _, rfl, _, _, _, _, _, _, _, _⟩ := hrs.rep); (try dsimp only); (refine no_implicit_lambda% (fct ?_)); intro hc ht hv)
        | ((refine no_implicit_lambda% (rgspecl5Hear14X1 ?_)); (try clear hc ht hv); clear hS; intro hS hc ht hv)
        | ((with_reducible refine wpOF_both ?_ ?_) <;> (refine no_implicit_lambda% (pk_ ?_))) | ((with_reducible refine wpOF_three ?_ ?_ ?_) <;> (refine no_implicit_lambda% (pk_ ?_))) | ((with_reducible refine MS.and_ ?_ ?_); (focus (exact msA)); intro hM) | (refine no_implicit_lambda% (ofS ?_)) | ((refine no_implicit_lambda% (ofK ?_)); intro K hK) | (refine no_implicit_lambda% (ofL ?_)) | ((refine no_implicit_lambda% (ofM ?_)); intro K hK) | ((refine no_implicit_lambda% (ofX ?_)); intro K hK) | (refine no_implicit_lambda% (ofN ?_)) | ((with_reducible apply wpT_split); (focus rfl); (focus rfl); (focus rfl); all_goals (intro hxx; simp only [hxx]))
        | fail)
    all_goals (exact no_implicit_lambda% fRMr4_3)
  by_cases h2 : kd = 2
  · subst h2
    have fI : inB 2 3 5 = false := by decide
    have hS : St ⟨c0, w0, none⟩ 0 (T) (D) c0 [] [] w0 := (St.start hT (fun g hg => by cases hg)).raise (by omega) (by omega)
    go_enter Try.func83, Try.ntmps83
    go_wp2_with (first
        | ((refine no_implicit_lambda% (hdE ?_)); intro K hK; (first
          | ((with_reducible refine at_dst 3 ?_ ?_); (focus rfl); (refine no_implicit_lambda% (aB ?_)); (try clear hc ht hv); clear hS; intro b3 w hS hc ht hv)
          | ((with_reducible refine at_dst 4 ?_ ?_); (focus rfl); (refine no_implicit_lambda% (aB ?_)); (try clear hc ht hv); clear hS; intro b4 w hS hc ht hv)
          | ((with_reducible refine at_dst 6 ?_ ?_); (focus rfl); (refine no_implicit_lambda% (alzR ?_)); (try clear hc ht hv); clear hS; intro b6 w hS hc ht hv)
          | ((with_reducible refine at_dst 9 ?_ ?_); (focus rfl); (refine no_implicit_lambda% (alzR ?_)); (try clear hc ht hv); clear hS; intro b9 w hS hc ht hv)
          | ((with_reducible refine at_dst 11 ?_ ?_); (focus rfl); ((refine no_implicit_lambda% (r0zMbareP ?_)); (try clear hc ht hv); clear hS; intro c b w hS hx; (try replace hrs := hrs.mono hx.le); (try clear hx); intro hc ht hv))
          | ((with_reducible refine at_dst 61 ?_ ?_); (focus rfl); ((refine no_implicit_lambda% (r0zMbareP ?_)); (try clear hc ht hv); clear hS; intro c b w hS hx; (try replace hrs := hrs.mono hx.le); (try clear hx); intro hc ht hv))
          | ((with_reducible refine at_dst 63 ?_ ?_); (focus rfl); ((refine no_implicit_lambda% (apzM ?_)); (try clear hc ht hv); clear hS; intro c A63 d63 w hS hx; (try replace hrs := hrs.mono hx.le); (try clear hx); intro hc ht hv))
          | ((with_reducible refine at_dst 65 ?_ ?_); (focus rfl); ((refine no_implicit_lambda% (apzM ?_)); (try clear hc ht hv); clear hS; intro c A65 d65 w hS hx; (try replace hrs := hrs.mono hx.le); (try clear hx); intro hc ht hv))
          | ((refine no_implicit_lambda% (sazR ?_)); (try clear hc ht hv); clear hS; intro w hS hc ht hv)))
        | (go_at_call 34; refine (l1In_c _ _ _ _).mono ?_; rintro e w ⟨rfl, rfl⟩; (try clear hc ht hv); (try dsimp only); (refine no_implicit_lambda% (fct ?_)); intro hc ht hv)
        | (go_at_call 89; refine (l5Note_t hS.tw tyA tyA).mono ?_; rintro e w ⟨c, rs, rfl, hrs, hx, hT', hb⟩; (try replace hobV := KB.call hx hb hobV); replace hS := hS.below hx hT' (by omega) (by omega) hb; clear hx hT' hb; (try clear hc ht hv); (obtain ⟨_, _, _, _, _, _, _, _, _, _, _, _, _, rfl, _, _, _, _, _, _, _, _⟩ := hrs.rep); (try dsimp only); (refine no_implicit_lambda% (fct ?_)); intro hc ht hv)
        | (go_at_call 90; refine (l5Ask_t hS.tw tyA tyA (by omega)).mono ?_; rintro e w ⟨c, rs, Am, nm, dm, rfl, hrs, hnm, hsm, ⟨lsm, hom, hpm⟩, hx, hT', hb⟩; (try replace hobV := KB.call hx hb hobV); have hlt_ := hS.ownLt; replace hS := (hS.below hx hT' (by omega) (by omega) hb).addV hsm hom hpm hS.base hlt_; clear hx hT' hb hlt_ hom hpm hsm lsm; (try clear hc ht hv); (obtain ⟨_, _, _, _, _, _, _, _, _, _, _, _, _, rfl, _, _, _, _, _, _, _, _⟩ := hrs.rep); (try dsimp only); (refine no_implicit_lambda% (fct ?_)); intro hc ht hv)
        | (go_at_call 91; refine (l5Offer_t hS.tw tyA tyA slA (by omega)).mono ?_; rintro e w ⟨c, rs, Am, nm, dm, rfl, hrs, hnm, hsm, ⟨lsm, hom, hpm⟩, hx, hT', hb⟩; (try replace hobV := KB.call hx hb hobV); have hlt_ := hS.ownLt; replace hS := (hS.below hx hT' (by omega) (by omega) hb).addV hsm hom hpm hS.base hlt_; clear hx hT' hb hlt_ hom hpm hsm lsm; (try clear hc ht hv); (obtain ⟨_, _, _, _, _, _, _, _, _, _, _, _, _, rfl, _, _, _, _, _, _, _, _⟩ := hrs.rep); (try dsimp only); (refine no_implicit_lambda% (fct ?_)); intro hc ht hv)
        | (go_at_call 92; refine (l5Turned_t hS.tw tyA tyA slA (by omega)).mono ?_; rintro e w ⟨c, rs, Am, nm, dm, rfl, hrs, hnm, hsm, ⟨lsm, hom, hpm⟩, hx, hT', hb⟩; (try replace hobV := KB.call hx hb hobV); have hlt_ := hS.ownLt; replace hS := (hS.below hx hT' (by omega) (by omega) hb).addV hsm hom hpm hS.base hlt_; clear hx hT' hb hlt_ hom hpm hsm lsm; (try clear hc ht hv); (obtain ⟨_, _, _, _, _, _, _, _, _, _, _, _, _, rfl, _, _, _, _, _, _, _, _⟩ := hrs.rep); (try dsimp only); (refine no_implicit_lambda% (fct ?_)); intro hc ht hv)
        | (go_at_call 93; refine (l5Lead_t hS.tw tyA tyA slA (by omega)).mono ?_; rintro e w ⟨c, rs, Am, nm, dm, rfl, hrs, hnm, hsm, ⟨lsm, hom, hpm⟩, hx, hT', hb⟩; (try replace hobV := KB.call hx hb hobV); have hlt_ := hS.ownLt; replace hS := (hS.below hx hT' (by omega) (by omega) hb).addV hsm hom hpm hS.base hlt_; clear hx hT' hb hlt_ hom hpm hsm lsm; (try clear hc ht hv); (obtain ⟨_, _, _, _, _, _, _, _, _, _, _, _, _, rfl, _, _, _, _, _, _, _, _⟩ := hrs.rep); (try dsimp only); (refine no_implicit_lambda% (fct ?_)); intro hc ht hv)
        | (go_at_call 94; refine (l5Go_t hS.tw tyA (by omega)).mono ?_; rintro e w ⟨c, rs, Am, nm, dm, rfl, hrs, hnm, hsm, ⟨lsm, hom, hpm⟩, hx, hT', hb⟩; (try replace hobV := KB.call hx hb hobV); have hlt_ := hS.ownLt; replace hS := (hS.below hx hT' (by omega) (by omega) hb).addV hsm hom hpm hS.base hlt_; clear hx hT' hb hlt_ hom hpm hsm lsm; (try clear hc ht hv); (obtain ⟨_, _, _, _, _, _, _, _, _, _, _, _, _, rfl, _, _, _, _, _, _, _, _⟩ := hrs.rep); (try dsimp only); (refine no_implicit_lambda% (fct ?_)); intro hc ht hv)
        | ((refine no_implicit_lambda% (rgspecl5Hear14X1 ?_)); (try clear hc ht hv); clear hS; intro hS hc ht hv)
        | ((with_reducible refine wpOF_both ?_ ?_) <;> (refine no_implicit_lambda% (pk_ ?_))) | ((with_reducible refine wpOF_three ?_ ?_ ?_) <;> (refine no_implicit_lambda% (pk_ ?_))) | ((with_reducible refine MS.and_ ?_ ?_); (focus (exact msA)); intro hM) | (refine no_implicit_lambda% (ofS ?_)) | ((refine no_implicit_lambda% (ofK ?_)); intro K hK) | (refine no_implicit_lambda% (ofL ?_)) | ((refine no_implicit_lambda% (ofM ?_)); intro K hK) | ((refine no_implicit_lambda% (ofX ?_)); intro K hK) | (refine no_implicit_lambda% (ofN ?_)) | ((with_reducible apply wpT_split); (focus rfl); (focus rfl); (focus rfl); all_goals (intro hxx; simp only [hxx]))
        | fail)
    all_goals (exact no_implicit_lambda% fRMr4_3)
  by_cases h5 : kd = 5
  · subst h5
    have fI : inB 5 3 5 = true := by decide
    have hS : St ⟨c0, w0, none⟩ 0 (T) (D) c0 [] [] w0 := (St.start hT (fun g hg => by cases hg)).raise (by omega) (by omega)
    go_enter Try.func83, Try.ntmps83
    go_wp2_with (first
        | ((refine no_implicit_lambda% (hdE ?_)); intro K hK; (first
          | ((with_reducible refine at_dst 3 ?_ ?_); (focus rfl); (refine no_implicit_lambda% (aB ?_)); (try clear hc ht hv); clear hS; intro b3 w hS hc ht hv)
          | ((with_reducible refine at_dst 4 ?_ ?_); (focus rfl); (refine no_implicit_lambda% (aB ?_)); (try clear hc ht hv); clear hS; intro b4 w hS hc ht hv)
          | ((with_reducible refine at_dst 6 ?_ ?_); (focus rfl); (refine no_implicit_lambda% (alzR ?_)); (try clear hc ht hv); clear hS; intro b6 w hS hc ht hv)
          | ((with_reducible refine at_dst 9 ?_ ?_); (focus rfl); (refine no_implicit_lambda% (alzR ?_)); (try clear hc ht hv); clear hS; intro b9 w hS hc ht hv)
          | ((with_reducible refine at_dst 11 ?_ ?_); (focus rfl); ((refine no_implicit_lambda% (r0zMbareP ?_)); (try clear hc ht hv); clear hS; intro c b w hS hx; (try replace hrs := hrs.mono hx.le); (try clear hx); intro hc ht hv))
          | ((with_reducible refine at_dst 61 ?_ ?_); (focus rfl); ((refine no_implicit_lambda% (r0zMbareP ?_)); (try clear hc ht hv); clear hS; intro c b w hS hx; (try replace hrs := hrs.mono hx.le); (try clear hx); intro hc ht hv))
          | ((with_reducible refine at_dst 63 ?_ ?_); (focus rfl); ((refine no_implicit_lambda% (apzM ?_)); (try clear hc ht hv); clear hS; intro c A63 d63 w hS hx; (try replace hrs := hrs.mono hx.le); (try clear hx); intro hc ht hv))
          | ((with_reducible refine at_dst 65 ?_ ?_); (focus rfl); ((refine no_implicit_lambda% (apzM ?_)); (try clear hc ht hv); clear hS; intro c A65 d65 w hS hx; (try replace hrs := hrs.mono hx.le); (try clear hx); intro hc ht hv))
          | ((refine no_implicit_lambda% (sazR ?_)); (try clear hc ht hv); clear hS; intro w hS hc ht hv)))
        | (go_at_call 34; refine (l1In_c _ _ _ _).mono ?_; rintro e w ⟨rfl, rfl⟩; (try clear hc ht hv); (try dsimp only); (refine no_implicit_lambda% (fct ?_)); intro hc ht hv)
        | (go_at_call 89; refine (l5Note_t hS.tw tyA tyA).mono ?_; rintro e w ⟨c, rs, rfl, hrs, hx, hT', hb⟩; (try replace hobV := KB.call hx hb hobV); replace hS := hS.below hx hT' (by omega) (by omega) hb; clear hx hT' hb; (try clear hc ht hv); (obtain ⟨_, _, _, _, _, _, _, _, _, _, _, _, _, rfl, _, _, _, _, _, _, _, _⟩ := hrs.rep); (try dsimp only); (refine no_implicit_lambda% (fct ?_)); intro hc ht hv)
        | (go_at_call 90; refine (l5Ask_t hS.tw tyA tyA (by omega)).mono ?_; rintro e w ⟨c, rs, Am, nm, dm, rfl, hrs, hnm, hsm, ⟨lsm, hom, hpm⟩, hx, hT', hb⟩; (try replace hobV := KB.call hx hb hobV); have hlt_ := hS.ownLt; replace hS := (hS.below hx hT' (by omega) (by omega) hb).addV hsm hom hpm hS.base hlt_; clear hx hT' hb hlt_ hom hpm hsm lsm; (try clear hc ht hv); (obtain ⟨_, _, _, _, _, _, _, _, _, _, _, _, _, rfl, _, _, _, _, _, _, _, _⟩ := hrs.rep); (try dsimp only); (refine no_implicit_lambda% (fct ?_)); intro hc ht hv)
        | (go_at_call 91; refine (l5Offer_t hS.tw tyA tyA slA (by omega)).mono ?_; rintro e w ⟨c, rs, Am, nm, dm, rfl, hrs, hnm, hsm, ⟨lsm, hom, hpm⟩, hx, hT', hb⟩; (try replace hobV := KB.call hx hb hobV); have hlt_ := hS.ownLt; replace hS := (hS.below hx hT' (by omega) (by omega) hb).addV hsm hom hpm hS.base hlt_; clear hx hT' hb hlt_ hom hpm hsm lsm; (try clear hc ht hv); (obtain ⟨_, _, _, _, _, _, _, _, _, _, _, _, _, rfl, _, _, _, _, _, _, _, _⟩ := hrs.rep); (try dsimp only); (refine no_implicit_lambda% (fct ?_)); intro hc ht hv)
        | (go_at_call 92; refine (l5Turned_t hS.tw tyA tyA slA (by omega)).mono ?_; rintro e w ⟨c, rs, Am, nm, dm, rfl, hrs, hnm, hsm, ⟨lsm, hom, hpm⟩, hx, hT', hb⟩; (try replace hobV := KB.call hx hb hobV); have hlt_ := hS.ownLt; replace hS := (hS.below hx hT' (by omega) (by omega) hb).addV hsm hom hpm hS.base hlt_; clear hx hT' hb hlt_ hom hpm hsm lsm; (try clear hc ht hv); (obtain ⟨_, _, _, _, _, _, _, _, _, _, _, _, _, rfl, _, _, _, _, _, _, _, _⟩ := hrs.rep); (try dsimp only); (refine no_implicit_lambda% (fct ?_)); intro hc ht hv)
        | (go_at_call 93; refine (l5Lead_t hS.tw tyA tyA slA (by omega)).mono ?_; rintro e w ⟨c, rs, Am, nm, dm, rfl, hrs, hnm, hsm, ⟨lsm, hom, hpm⟩, hx, hT', hb⟩; (try replace hobV := KB.call hx hb hobV); have hlt_ := hS.ownLt; replace hS := (hS.below hx hT' (by omega) (by omega) hb).addV hsm hom hpm hS.base hlt_; clear hx hT' hb hlt_ hom hpm hsm lsm; (try clear hc ht hv); (obtain ⟨_, _, _, _, _, _, _, _, _, _, _, _, _, rfl, _, _, _, _, _, _, _, _⟩ := hrs.rep); (try dsimp only); (refine no_implicit_lambda% (fct ?_)); intro hc ht hv)
        | (go_at_call 94; refine (l5Go_t hS.tw tyA (by omega)).mono ?_; rintro e w ⟨c, rs, Am, nm, dm, rfl, hrs, hnm, hsm, ⟨lsm, hom, hpm⟩, hx, hT', hb⟩; (try replace hobV := KB.call hx hb hobV); have hlt_ := hS.ownLt; replace hS := (hS.below hx hT' (by omega) (by omega) hb).addV hsm hom hpm hS.base hlt_; clear hx hT' hb hlt_ hom hpm hsm lsm; (try clear hc ht hv); (obtain ⟨_, _, _, _, _, _, _, _, _, _, _, _, _, rfl, _, _, _, _, _, _, _, _⟩ := hrs.rep); (try dsimp only); (refine no_implicit_lambda% (fct ?_)); intro hc ht hv)
        | ((refine no_implicit_lambda% (rgspecl5Hear14X1 ?_)); (try clear hc ht hv); clear hS; intro hS hc ht hv)
        | ((with_reducible refine wpOF_both ?_ ?_) <;> (refine no_implicit_lambda% (pk_ ?_))) | ((with_reducible refine wpOF_three ?_ ?_ ?_) <;> (refine no_implicit_lambda% (pk_ ?_))) | ((with_reducible refine MS.and_ ?_ ?_); (focus (exact msA)); intro hM) | (refine no_implicit_lambda% (ofS ?_)) | ((refine no_implicit_lambda% (ofK ?_)); intro K hK) | (refine no_implicit_lambda% (ofL ?_)) | ((refine no_implicit_lambda% (ofM ?_)); intro K hK) | ((refine no_implicit_lambda% (ofX ?_)); intro K hK) | (refine no_implicit_lambda% (ofN ?_)) | ((with_reducible apply wpT_split); (focus rfl); (focus rfl); (focus rfl); all_goals (intro hxx; simp only [hxx]))
        | fail)
    all_goals (exact no_implicit_lambda% fRMr4_3)
  by_cases h6 : kd = 6
  · subst h6
    have fI : inB 6 3 5 = false := by decide
    have hS : St ⟨c0, w0, none⟩ 0 (T) (D) c0 [] [] w0 := (St.start hT (fun g hg => by cases hg)).raise (by omega) (by omega)
    go_enter Try.func83, Try.ntmps83
    go_wp2_with (first
        | ((refine no_implicit_lambda% (hdE ?_)); intro K hK; (first
          | ((with_reducible refine at_dst 3 ?_ ?_); (focus rfl); (refine no_implicit_lambda% (aB ?_)); (try clear hc ht hv); clear hS; intro b3 w hS hc ht hv)
          | ((with_reducible refine at_dst 4 ?_ ?_); (focus rfl); (refine no_implicit_lambda% (aB ?_)); (try clear hc ht hv); clear hS; intro b4 w hS hc ht hv)
          | ((with_reducible refine at_dst 6 ?_ ?_); (focus rfl); (refine no_implicit_lambda% (alzR ?_)); (try clear hc ht hv); clear hS; intro b6 w hS hc ht hv)
          | ((with_reducible refine at_dst 9 ?_ ?_); (focus rfl); (refine no_implicit_lambda% (alzR ?_)); (try clear hc ht hv); clear hS; intro b9 w hS hc ht hv)
          | ((with_reducible refine at_dst 11 ?_ ?_); (focus rfl); ((refine no_implicit_lambda% (r0zMbareP ?_)); (try clear hc ht hv); clear hS; intro c b w hS hx; (try replace hrs := hrs.mono hx.le); (try clear hx); intro hc ht hv))
          | ((with_reducible refine at_dst 61 ?_ ?_); (focus rfl); ((refine no_implicit_lambda% (r0zMbareP ?_)); (try clear hc ht hv); clear hS; intro c b w hS hx; (try replace hrs := hrs.mono hx.le); (try clear hx); intro hc ht hv))
          | ((with_reducible refine at_dst 63 ?_ ?_); (focus rfl); ((refine no_implicit_lambda% (apzM ?_)); (try clear hc ht hv); clear hS; intro c A63 d63 w hS hx; (try replace hrs := hrs.mono hx.le); (try clear hx); intro hc ht hv))
          | ((with_reducible refine at_dst 65 ?_ ?_); (focus rfl); ((refine no_implicit_lambda% (apzM ?_)); (try clear hc ht hv); clear hS; intro c A65 d65 w hS hx; (try replace hrs := hrs.mono hx.le); (try clear hx); intro hc ht hv))
          | ((refine no_implicit_lambda% (sazR ?_)); (try clear hc ht hv); clear hS; intro w hS hc ht hv)))
        | (go_at_call 34; refine (l1In_c _ _ _ _).mono ?_; rintro e w ⟨rfl, rfl⟩; (try clear hc ht hv); (try dsimp only); (refine no_implicit_lambda% (fct ?_)); intro hc ht hv)
        | (go_at_call 89; refine (l5Note_t hS.tw tyA tyA).mono ?_; rintro e w ⟨c, rs, rfl, hrs, hx, hT', hb⟩; (try replace hobV := KB.call hx hb hobV); replace hS := hS.below hx hT' (by omega) (by omega) hb; clear hx hT' hb; (try clear hc ht hv); (obtain ⟨_, _, _, _, _, _, _, _, _, _, _, _, _, rfl, _, _, _, _, _, _, _, _⟩ := hrs.rep); (try dsimp only); (refine no_implicit_lambda% (fct ?_)); intro hc ht hv)
        | (go_at_call 90; refine (l5Ask_t hS.tw tyA tyA (by omega)).mono ?_; rintro e w ⟨c, rs, Am, nm, dm, rfl, hrs, hnm, hsm, ⟨lsm, hom, hpm⟩, hx, hT', hb⟩; (try replace hobV := KB.call hx hb hobV); have hlt_ := hS.ownLt; replace hS := (hS.below hx hT' (by omega) (by omega) hb).addV hsm hom hpm hS.base hlt_; clear hx hT' hb hlt_ hom hpm hsm lsm; (try clear hc ht hv); (obtain ⟨_, _, _, _, _, _, _, _, _, _, _, _, _, rfl, _, _, _, _, _, _, _, _⟩ := hrs.rep); (try dsimp only); (refine no_implicit_lambda% (fct ?_)); intro hc ht hv)
        | (go_at_call 91; refine (l5Offer_t hS.tw tyA tyA slA (by omega)).mono ?_; rintro e w ⟨c, rs, Am, nm, dm, rfl, hrs, hnm, hsm, ⟨lsm, hom, hpm⟩, hx, hT', hb⟩; (try replace hobV := KB.call hx hb hobV); have hlt_ := hS.ownLt; replace hS := (hS.below hx hT' (by omega) (by omega) hb).addV hsm hom hpm hS.base hlt_; clear hx hT' hb hlt_ hom hpm hsm lsm; (try clear hc ht hv); (obtain ⟨_, _, _, _, _, _, _, _, _, _, _, _, _, rfl, _, _, _, _, _, _, _, _⟩ := hrs.rep); (try dsimp only); (refine no_implicit_lambda% (fct ?_)); intro hc ht hv)
        | (go_at_call 92; refine (l5Turned_t hS.tw tyA tyA slA (by omega)).mono ?_; rintro e w ⟨c, rs, Am, nm, dm, rfl, hrs, hnm, hsm, ⟨lsm, hom, hpm⟩, hx, hT', hb⟩; (try replace hobV := KB.call hx hb hobV); have hlt_ := hS.ownLt; replace hS := (hS.below hx hT' (by omega) (by omega) hb).addV hsm hom hpm hS.base hlt_; clear hx hT' hb hlt_ hom hpm hsm lsm; (try clear hc ht hv); (obtain ⟨_, _, _, _, _, _, _, _, _, _, _, _, _, rfl, _, _, _, _, _, _, _, _⟩ := hrs.rep); (try dsimp only); (refine no_implicit_lambda% (fct ?_)); intro hc ht hv)
        | (go_at_call 93; refine (l5Lead_t hS.tw tyA tyA slA (by omega)).mono ?_; rintro e w ⟨c, rs, Am, nm, dm, rfl, hrs, hnm, hsm, ⟨lsm, hom, hpm⟩, hx, hT', hb⟩; (try replace hobV := KB.call hx hb hobV); have hlt_ := hS.ownLt; replace hS := (hS.below hx hT' (by omega) (by omega) hb).addV hsm hom hpm hS.base hlt_; clear hx hT' hb hlt_ hom hpm hsm lsm; (try clear hc ht hv); (obtain ⟨_, _, _, _, _, _, _, _, _, _, _, _, _, rfl, _, _, _, _, _, _, _, _⟩ := hrs.rep); (try dsimp only); (refine no_implicit_lambda% (fct ?_)); intro hc ht hv)
        | (go_at_call 94; refine (l5Go_t hS.tw tyA (by omega)).mono ?_; rintro e w ⟨c, rs, Am, nm, dm, rfl, hrs, hnm, hsm, ⟨lsm, hom, hpm⟩, hx, hT', hb⟩; (try replace hobV := KB.call hx hb hobV); have hlt_ := hS.ownLt; replace hS := (hS.below hx hT' (by omega) (by omega) hb).addV hsm hom hpm hS.base hlt_; clear hx hT' hb hlt_ hom hpm hsm lsm; (try clear hc ht hv); (obtain ⟨_, _, _, _, _, _, _, _, _, _, _, _, _, rfl, _, _, _, _, _, _, _, _⟩ := hrs.rep); (try dsimp only); (refine no_implicit_lambda% (fct ?_)); intro hc ht hv)
        | ((refine no_implicit_lambda% (rgspecl5Hear14X1 ?_)); (try clear hc ht hv); clear hS; intro hS hc ht hv)
        | ((with_reducible refine wpOF_both ?_ ?_) <;> (refine no_implicit_lambda% (pk_ ?_))) | ((with_reducible refine wpOF_three ?_ ?_ ?_) <;> (refine no_implicit_lambda% (pk_ ?_))) | ((with_reducible refine MS.and_ ?_ ?_); (focus (exact msA)); intro hM) | (refine no_implicit_lambda% (ofS ?_)) | ((refine no_implicit_lambda% (ofK ?_)); intro K hK) | (refine no_implicit_lambda% (ofL ?_)) | ((refine no_implicit_lambda% (ofM ?_)); intro K hK) | ((refine no_implicit_lambda% (ofX ?_)); intro K hK) | (refine no_implicit_lambda% (ofN ?_)) | ((with_reducible apply wpT_split); (focus rfl); (focus rfl); (focus rfl); all_goals (intro hxx; simp only [hxx]))
        | fail)
    all_goals (exact no_implicit_lambda% fRMr4_3)
  have k1 : (kd == 1) = false := by simpa using h1
  have k2 : (kd == 2) = false := by simpa using h2
  have k5 : (kd == 5) = false := by simpa using h5
  have k6 : (kd == 6) = false := by simpa using h6
  cases fI : inB kd 3 5
  all_goals
    have hS : St ⟨c0, w0, none⟩ 0 (T) (D) c0 [] [] w0 := (St.start hT (fun g hg => by cases hg)).raise (by omega) (by omega)
    go_enter Try.func83, Try.ntmps83
    go_wp2_with (first
        | ((refine no_implicit_lambda% (hdE ?_)); intro K hK; (first
          | ((with_reducible refine at_dst 3 ?_ ?_); (focus rfl); (refine no_implicit_lambda% (aB ?_)); (try clear hc ht hv); clear hS; intro b3 w hS hc ht hv)
          | ((with_reducible refine at_dst 4 ?_ ?_); (focus rfl); (refine no_implicit_lambda% (aB ?_)); (try clear hc ht hv); clear hS; intro b4 w hS hc ht hv)
          | ((with_reducible refine at_dst 6 ?_ ?_); (focus rfl); (refine no_implicit_lambda% (alzR ?_)); (try clear hc ht hv); clear hS; intro b6 w hS hc ht hv)
          | ((with_reducible refine at_dst 9 ?_ ?_); (focus rfl); (refine no_implicit_lambda% (alzR ?_)); (try clear hc ht hv); clear hS; intro b9 w hS hc ht hv)
          | ((with_reducible refine at_dst 11 ?_ ?_); (focus rfl); ((refine no_implicit_lambda% (r0zMbareP ?_)); (try clear hc ht hv); clear hS; intro c b w hS hx; (try replace hrs := hrs.mono hx.le); (try clear hx); intro hc ht hv))
          | ((with_reducible refine at_dst 61 ?_ ?_); (focus rfl); ((refine no_implicit_lambda% (r0zMbareP ?_)); (try clear hc ht hv); clear hS; intro c b w hS hx; (try replace hrs := hrs.mono hx.le); (try clear hx); intro hc ht hv))
          | ((with_reducible refine at_dst 63 ?_ ?_); (focus rfl); ((refine no_implicit_lambda% (apzM ?_)); (try clear hc ht hv); clear hS; intro c A63 d63 w hS hx; (try replace hrs := hrs.mono hx.le); (try clear hx); intro hc ht hv))
          | ((with_reducible refine at_dst 65 ?_ ?_); (focus rfl); ((refine no_implicit_lambda% (apzM ?_)); (try clear hc ht hv); clear hS; intro c A65 d65 w hS hx; (try replace hrs := hrs.mono hx.le); (try clear hx); intro hc ht hv))
          | ((refine no_implicit_lambda% (sazR ?_)); (try clear hc ht hv); clear hS; intro w hS hc ht hv)))
        | (go_at_call 34; refine (l1In_c _ _ _ _).mono ?_; rintro e w ⟨rfl, rfl⟩; (try clear hc ht hv); (try dsimp only); (refine no_implicit_lambda% (fct ?_)); intro hc ht hv)
        | (go_at_call 89; refine (l5Note_t hS.tw tyA tyA).mono ?_; rintro e w ⟨c, rs, rfl, hrs, hx, hT', hb⟩; (try replace hobV := KB.call hx hb hobV); replace hS := hS.below hx hT' (by omega) (by omega) hb; clear hx hT' hb; (try clear hc ht hv); (obtain ⟨_, _, _, _, _, _, _, _, _, _, _, _, _, rfl, _, _, _, _, _, _, _, _⟩ := hrs.rep); (try dsimp only); (refine no_implicit_lambda% (fct ?_)); intro hc ht hv)
        | (go_at_call 90; refine (l5Ask_t hS.tw tyA tyA (by omega)).mono ?_; rintro e w ⟨c, rs, Am, nm, dm, rfl, hrs, hnm, hsm, ⟨lsm, hom, hpm⟩, hx, hT', hb⟩; (try replace hobV := KB.call hx hb hobV); have hlt_ := hS.ownLt; replace hS := (hS.below hx hT' (by omega) (by omega) hb).addV hsm hom hpm hS.base hlt_; clear hx hT' hb hlt_ hom hpm hsm lsm; (try clear hc ht hv); (obtain ⟨_, _, _, _, _, _, _, _, _, _, _, _, _, rfl, _, _, _, _, _, _, _, _⟩ := hrs.rep); (try dsimp only); (refine no_implicit_lambda% (fct ?_)); intro hc ht hv)
        | (go_at_call 91; refine (l5Offer_t hS.tw tyA tyA slA (by omega)).mono ?_; rintro e w ⟨c, rs, Am, nm, dm, rfl, hrs, hnm, hsm, ⟨lsm, hom, hpm⟩, hx, hT', hb⟩; (try replace hobV := KB.call hx hb hobV); have hlt_ := hS.ownLt; replace hS := (hS.below hx hT' (by omega) (by omega) hb).addV hsm hom hpm hS.base hlt_; clear hx hT' hb hlt_ hom hpm hsm lsm; (try clear hc ht hv); (obtain ⟨_, _, _, _, _, _, _, _, _, _, _, _, _, rfl, _, _, _, _, _, _, _, _⟩ := hrs.rep); (try dsimp only); (refine no_implicit_lambda% (fct ?_)); intro hc ht hv)
        | (go_at_call 92; refine (l5Turned_t hS.tw tyA tyA slA (by omega)).mono ?_; rintro e w ⟨c, rs, Am, nm, dm, rfl, hrs, hnm, hsm, ⟨lsm, hom, hpm⟩, hx, hT', hb⟩; (try replace hobV := KB.call hx hb hobV); have hlt_ := hS.ownLt; replace hS := (hS.below hx hT' (by omega) (by omega) hb).addV hsm hom hpm hS.base hlt_; clear hx hT' hb hlt_ hom hpm hsm lsm; (try clear hc ht hv); (obtain ⟨_, _, _, _, _, _, _, _, _, _, _, _, _, rfl, _, _, _, _, _, _, _, _⟩ := hrs.rep); (try dsimp only); (refine no_implicit_lambda% (fct ?_)); intro hc ht hv)
        | (go_at_call 93; refine (l5Lead_t hS.tw tyA tyA slA (by omega)).mono ?_; rintro e w ⟨c, rs, Am, nm, dm, rfl, hrs, hnm, hsm, ⟨lsm, hom, hpm⟩, hx, hT', hb⟩; (try replace hobV := KB.call hx hb hobV); have hlt_ := hS.ownLt; replace hS := (hS.below hx hT' (by omega) (by omega) hb).addV hsm hom hpm hS.base hlt_; clear hx hT' hb hlt_ hom hpm hsm lsm; (try clear hc ht hv); (obtain ⟨_, _, _, _, _, _, _, _, _, _, _, _, _, rfl, _, _, _, _, _, _, _, _⟩ := hrs.rep); (try dsimp only); (refine no_implicit_lambda% (fct ?_)); intro hc ht hv)
        | (go_at_call 94; refine (l5Go_t hS.tw tyA (by omega)).mono ?_; rintro e w ⟨c, rs, Am, nm, dm, rfl, hrs, hnm, hsm, ⟨lsm, hom, hpm⟩, hx, hT', hb⟩; (try replace hobV := KB.call hx hb hobV); have hlt_ := hS.ownLt; replace hS := (hS.below hx hT' (by omega) (by omega) hb).addV hsm hom hpm hS.base hlt_; clear hx hT' hb hlt_ hom hpm hsm lsm; (try clear hc ht hv); (obtain ⟨_, _, _, _, _, _, _, _, _, _, _, _, _, rfl, _, _, _, _, _, _, _, _⟩ := hrs.rep); (try dsimp only); (refine no_implicit_lambda% (fct ?_)); intro hc ht hv)
        | ((refine no_implicit_lambda% (rgspecl5Hear14X1 ?_)); (try clear hc ht hv); clear hS; intro hS hc ht hv)
        | ((with_reducible refine wpOF_both ?_ ?_) <;> (refine no_implicit_lambda% (pk_ ?_))) | ((with_reducible refine wpOF_three ?_ ?_ ?_) <;> (refine no_implicit_lambda% (pk_ ?_))) | ((with_reducible refine MS.and_ ?_ ?_); (focus (exact msA)); intro hM) | (refine no_implicit_lambda% (ofS ?_)) | ((refine no_implicit_lambda% (ofK ?_)); intro K hK) | (refine no_implicit_lambda% (ofL ?_)) | ((refine no_implicit_lambda% (ofM ?_)); intro K hK) | ((refine no_implicit_lambda% (ofX ?_)); intro K hK) | (refine no_implicit_lambda% (ofN ?_)) | ((with_reducible apply wpT_split); (focus rfl); (focus rfl); (focus rfl); all_goals (intro hxx; simp only [hxx]))
        | fail)
    all_goals (exact no_implicit_lambda% fRMr4_3)
end
end Go.Proofs.Ytopmbnnjhoinkaa
