/-
  What 'FVd' rests on (texts of this seat put together: TX9 TXt).
  Conditions: none.
-/
import Derived.Test.YtopmbnnjhoinkaaVV34
import Derived.Test.YtopmbnnjhoinkaaVV35
namespace Go.Proofs.Ytopmbnnjhoinkaa
open Go Go.RowKit Rg
set_option linter.unusedVariables false
set_option linter.unusedSimpArgs false
set_option maxHeartbeats 1000000
section
variable {T D : Nat} {c0 : Cx} {w0 : World} {rs cs us vs : List Value} {A : Option Addr} {n d : Nat} {view : Int}
set_option maxRecDepth 100000 in
set_option maxHeartbeats 4000000 in
theorem l4Picks_t (hT : TW T D c0 w0) (hs : SlV c0 42 (.slice A n d)) :
    Calls Try.prog 107 #[.slice A n d] w0 fun e w' => PSl tQ noP 100 T D c0 w0 e w' := by
  have hS : St ⟨c0, w0, none⟩ 0 (T) (D) c0 [] [] w0 := (St.start hT (fun g hg => by cases hg)).raise (by omega) (by omega)
  go_enter Try.func107, Try.ntmps107
  go_wp2_with (first
    | ((refine no_implicit_lambda% (hdE ?_)); intro K hK; (first
      | ((with_reducible refine at_dst 5 ?_ ?_); (focus rfl); ((refine no_implicit_lambda% (r0zQnoP ?_)); (try clear hc ht hv); clear hS; intro c b w hS hx; (try clear hx); intro hc ht hv))
      | ((with_reducible refine at_dst 16 ?_ ?_); (focus rfl); ((refine no_implicit_lambda% (r1zQnoP ?_)); (try clear hc ht hv); clear hS; intro c b w hS hx; (try clear hx); intro hc ht hv))
      | ((with_reducible refine at_dst 17 ?_ ?_); (focus rfl); ((refine no_implicit_lambda% (apzQ ?_)); (try clear hc ht hv); clear hS; intro c A17 d17 w hS hx; (try clear hx); intro hc ht hv))))
    | (go_at_call 72; refine (l4Top_t hS.tw slA).mono ?_; rintro e w' ⟨kt, rfl, hkt, rfl⟩; (try dsimp only))
    | (go_at_call 73; refine (l4Pick_t hS.tw slA _).mono ?_; rintro e w ⟨pk, rfl, hb⟩; replace hS := hS.past hb; clear hb; (try clear hc ht hv); (try dsimp only); (refine no_implicit_lambda% (fct ?_)); intro hc ht hv)
    | fail)
  go_loopw [3, 4] (fun tv iv wr => ∃ (i : Nat) (c : Cx) (A : Option Addr) (d : Nat), i ≤ 100 ∧ iv = .int .i64 ((i : Int) + 1) ∧ tv = .slice A i d ∧ St ⟨c0, w0, none⟩ 0 T D c [] [(25, noP, .slice A i d)] wr) (fun _ iv _ => 101 - (intOf iv).toNat)
  case atStart => exact ⟨0, c, _, _, Nat.zero_le _, rfl, rfl, hS⟩
  case round =>
    (try clear hc ht hv); clear hS
    obtain ⟨i, c, A, d, hi, rfl, rfl, hS⟩ := hrel
    (try clear hc ht hv); (refine no_implicit_lambda% (fct ?_)); intro hc ht hv
    go_wp2_with (first
    | ((refine no_implicit_lambda% (hdE ?_)); intro K hK; (first
      | ((with_reducible refine at_dst 5 ?_ ?_); (focus rfl); ((refine no_implicit_lambda% (r0zQnoP ?_)); (try clear hc ht hv); clear hS; intro c b w hS hx; (try clear hx); intro hc ht hv))
      | ((with_reducible refine at_dst 16 ?_ ?_); (focus rfl); ((refine no_implicit_lambda% (r1zQnoP ?_)); (try clear hc ht hv); clear hS; intro c b w hS hx; (try clear hx); intro hc ht hv))
      | ((with_reducible refine at_dst 17 ?_ ?_); (focus rfl); ((refine no_implicit_lambda% (apzQ ?_)); (try clear hc ht hv); clear hS; intro c A17 d17 w hS hx; (try clear hx); intro hc ht hv))))
    | (go_at_call 72; refine (l4Top_t hS.tw slA).mono ?_; rintro e w' ⟨kt, rfl, hkt, rfl⟩; (try dsimp only))
    | (go_at_call 73; refine (l4Pick_t hS.tw slA _).mono ?_; rintro e w ⟨pk, rfl, hb⟩; replace hS := hS.past hb; clear hb; (try clear hc ht hv); (try dsimp only); (refine no_implicit_lambda% (fct ?_)); intro hc ht hv)
    | fail)
    all_goals first
      | ((try simp only [Exit.inBlock, Exit.then]); first | exact bodyPost_ret (by simp [results, Try.results107, go_sem, hc] <;> rfl) rfl (hS.psl 0 rfl (by omega)) | exact bodyPost_ret (by simp [results, Try.results107, go_sem, hc] <;> rfl) rfl (hS.psl 1 rfl (by omega)) | exact bodyPost_ret (by simp [results, Try.results107, go_sem, hc] <;> rfl) rfl (hS.psl 2 rfl (by omega)))
      | (go_roundw
         case rel => exact ⟨i + 1, c, _, _, by omega, by go_num, rfl, hS.tailV⟩
         case measure => simp [intOf]; omega)
set_option maxRecDepth 100000 in
set_option maxHeartbeats 4000000 in
theorem l5Enter_t (hT : TW T D c0 w0) (hr : TyE T D c0 tR rs) (hs : SlV c0 42 (.slice A n d)) (hB : T ≤ 900000) :
    Calls Try.prog 104 #[.agg rs.toArray, .int .i64 view, .slice A n d] w0 fun e w' => PRM (T + 100) D 100 c0 w0 e w' := by
  obtain ⟨me, vw, lv, nx, A1, n1, d1, A2, n2, d2, A3, n3, d3, rfl, g1, g2, g3, g4, g5, g6, g7, g8⟩ := hr.rep
  have hS : St ⟨c0, w0, none⟩ 0 (T) (D) c0 [] [] w0 := (St.start hT (fun g hg => by cases hg)).raise (by omega) (by omega)
  go_enter Try.func104, Try.ntmps104
  go_wp2_with (first
    | ((refine no_implicit_lambda% (hdE ?_)); intro K hK; (first
      | ((with_reducible refine at_dst 3 ?_ ?_); (focus rfl); (refine no_implicit_lambda% (aB ?_)); (try clear hc ht hv); clear hS; intro b3 w hS hc ht hv)
      | ((with_reducible refine at_dst 6 ?_ ?_); (focus rfl); (refine no_implicit_lambda% (abzR ?_)); (try clear hc ht hv); clear hS; intro b6 w hS hbl; (try replace hobV := KB.below hbl hobV); clear hbl; intro hc ht hv)
      | ((with_reducible refine at_dst 11 ?_ ?_); (focus rfl); (refine no_implicit_lambda% (abzR ?_)); (try clear hc ht hv); clear hS; intro b11 w hS hbl; (try replace hobV := KB.below hbl hobV); clear hbl; intro hc ht hv)
      | ((with_reducible refine at_dst 16 ?_ ?_); (focus rfl); ((refine no_implicit_lambda% (r0zMbareP ?_)); (try clear hc ht hv); clear hS; intro c b w hS hx; (try replace hrs := hrs.mono hx.le); (try clear hx); intro hc ht hv))
      | ((with_reducible refine at_dst 45 ?_ ?_); (focus rfl); ((refine no_implicit_lambda% (apzM ?_)); (try clear hc ht hv); clear hS; intro c A45 d45 w hS hx; (try replace hrs := hrs.mono hx.le); (try clear hx); intro hc ht hv))
      | ((refine no_implicit_lambda% (sbzR ?_)); (try clear hc ht hv); clear hS; intro w hS hks; (try replace hobV := hks _ _ hobV); clear hks; intro hc ht hv)
      | ((refine no_implicit_lambda% (stIB ?_)); (try clear hc ht hv); clear hS; intro w hS hc ht hv)))
    | (go_at_call 107; refine (l4Picks_t hS.tw slA).mono ?_; rintro e w ⟨c, Ap, np, dp, rfl, hnp, hs_, ⟨ls_, ho_, hp_⟩, hx, hT', hb⟩; have hlt_ := hS.ownLt; replace hS := (hS.below hx hT' (by omega) (by omega) hb).addV hs_ ho_ hp_ hS.base hlt_; clear hx hT' hb hlt_ ho_ hp_ hs_ ls_; (try clear hc ht hv); (try dsimp only); (refine no_implicit_lambda% (fct ?_)); intro hc ht hv)
    | (go_at_call 101; refine (l5Yes_t hS.tw tyA tyA (by omega)).mono ?_; rintro e w ⟨c, rs, Am, nm, dm, rfl, hrs, hnm, hsm, ⟨lsm, hom, hpm⟩, hx, hT', hb⟩; (try replace hobV := KB.call hx hb hobV); have hlt_ := hS.ownLt; replace hS := (hS.below hx hT' (by omega) (by omega) hb).addV hsm hom hpm hS.base hlt_; clear hx hT' hb hlt_ hom hpm hsm lsm; (try clear hc ht hv); (obtain ⟨_, _, _, _, _, _, _, _, _, _, _, _, _, rfl, _, _, _, _, _, _, _, _⟩ := hrs.rep); (try dsimp only); (refine no_implicit_lambda% (fct ?_)); intro hc ht hv)
    | ((refine no_implicit_lambda% (rgspecl5Enter9XVE38 ?_)); (try clear hc ht hv); clear hS; intro hS hc ht hv)
    | ((with_reducible refine wpOF_both ?_ ?_) <;> (refine no_implicit_lambda% (pk_ ?_))) | ((with_reducible refine wpOF_three ?_ ?_ ?_) <;> (refine no_implicit_lambda% (pk_ ?_))) | ((with_reducible refine MS.and_ ?_ ?_); (focus (exact msA)); intro hM) | (refine no_implicit_lambda% (ofS ?_)) | ((refine no_implicit_lambda% (ofK ?_)); intro K hK) | (refine no_implicit_lambda% (ofL ?_)) | ((refine no_implicit_lambda% (ofM ?_)); intro K hK) | ((refine no_implicit_lambda% (ofX ?_)); intro K hK) | (refine no_implicit_lambda% (ofN ?_)) | ((with_reducible apply wpT_split); (focus rfl); (focus rfl); (focus rfl); all_goals (intro hxx; simp only [hxx]))
    | fail)
  clear hr g1 g2 g3 g4 g5 g6 g7 g8
  go_loopw [8, 10] (fun sv iv wr => ∃ (i m : Nat) (c : Cx) (rs : List Value) (A : Option Addr) (d : Nat), i ≤ np ∧ m ≤ i ∧ iv = .int .i64 (i : Int) ∧ sv = .slice A m d ∧ St ⟨c0, w0, none⟩ 0 (T + i) D c [(b6, 87, [.int .i64 0, .int .i64 0, .bool false, .int .i64 0, .slice none 0 0, .slice none 0 0, .slice none 0 0]), (b3, 87, rs)] [(25, noP, .slice Ap np dp), (34, bareP, .slice A m d)] wr) (fun _ iv _ => np - (intOf iv).toNat)
  case atStart => exact ⟨0, 0, c, _, _, _, Nat.zero_le _, Nat.le_refl _, rfl, rfl, hS⟩
  case round =>
    (try clear hc ht hv); clear hS
    obtain ⟨i, m, c, rs, A, d, hi, hm, rfl, rfl, hS⟩ := hrel
    have hr := hS.ty 1 rfl
    obtain ⟨me, vw, lv, nx, A1, n1, d1, A2, n2, d2, A3, n3, d3, rfl, g1, g2, g3, g4, g5, g6, g7, g8⟩ := hr.rep
    by_cases hlti : i < np
    · have hsp := hS.slV (j := 0) rfl
      obtain ⟨g, off, rfl⟩ := hsp.addr hlti
      obtain ⟨t, a0, a1, a2, a3, a4⟩ := hS.tw.reqAt hsp hlti
      obtain ⟨ob, hobV⟩ := hS.tw.kb hsp
      (try clear hc ht hv); (refine no_implicit_lambda% (fct ?_)); intro hc ht hv
      go_wp2_with (first
    | ((refine no_implicit_lambda% (hdE ?_)); intro K hK; (first
      | ((with_reducible refine at_dst 3 ?_ ?_); (focus rfl); (refine no_implicit_lambda% (aB ?_)); (try clear hc ht hv); clear hS; intro b3 w hS hc ht hv)
      | ((with_reducible refine at_dst 6 ?_ ?_); (focus rfl); (refine no_implicit_lambda% (abzR ?_)); (try clear hc ht hv); clear hS; intro b6 w hS hbl; (try replace hobV := KB.below hbl hobV); clear hbl; intro hc ht hv)
      | ((with_reducible refine at_dst 11 ?_ ?_); (focus rfl); (refine no_implicit_lambda% (abzR ?_)); (try clear hc ht hv); clear hS; intro b11 w hS hbl; (try replace hobV := KB.below hbl hobV); clear hbl; intro hc ht hv)
      | ((with_reducible refine at_dst 16 ?_ ?_); (focus rfl); ((refine no_implicit_lambda% (r0zMbareP ?_)); (try clear hc ht hv); clear hS; intro c b w hS hx; (try replace hrs := hrs.mono hx.le); (try clear hx); intro hc ht hv))
      | ((with_reducible refine at_dst 45 ?_ ?_); (focus rfl); ((refine no_implicit_lambda% (apzM ?_)); (try clear hc ht hv); clear hS; intro c A45 d45 w hS hx; (try replace hrs := hrs.mono hx.le); (try clear hx); intro hc ht hv))
      | ((refine no_implicit_lambda% (sbzR ?_)); (try clear hc ht hv); clear hS; intro w hS hks; (try replace hobV := hks _ _ hobV); clear hks; intro hc ht hv)
      | ((refine no_implicit_lambda% (stIB ?_)); (try clear hc ht hv); clear hS; intro w hS hc ht hv)))
    | (go_at_call 107; refine (l4Picks_t hS.tw slA).mono ?_; rintro e w ⟨c, Ap, np, dp, rfl, hnp, hs_, ⟨ls_, ho_, hp_⟩, hx, hT', hb⟩; have hlt_ := hS.ownLt; replace hS := (hS.below hx hT' (by omega) (by omega) hb).addV hs_ ho_ hp_ hS.base hlt_; clear hx hT' hb hlt_ ho_ hp_ hs_ ls_; (try clear hc ht hv); (try dsimp only); (refine no_implicit_lambda% (fct ?_)); intro hc ht hv)
    | (go_at_call 101; refine (l5Yes_t hS.tw tyA tyA (by omega)).mono ?_; rintro e w ⟨c, rs, Am, nm, dm, rfl, hrs, hnm, hsm, ⟨lsm, hom, hpm⟩, hx, hT', hb⟩; (try replace hobV := KB.call hx hb hobV); have hlt_ := hS.ownLt; replace hS := (hS.below hx hT' (by omega) (by omega) hb).addV hsm hom hpm hS.base hlt_; clear hx hT' hb hlt_ hom hpm hsm lsm; (try clear hc ht hv); (obtain ⟨_, _, _, _, _, _, _, _, _, _, _, _, _, rfl, _, _, _, _, _, _, _, _⟩ := hrs.rep); (try dsimp only); (refine no_implicit_lambda% (fct ?_)); intro hc ht hv)
    | ((refine no_implicit_lambda% (rgspecl5Enter9XVE38 ?_)); (try clear hc ht hv); clear hS; intro hS hc ht hv)
    | ((with_reducible refine wpOF_both ?_ ?_) <;> (refine no_implicit_lambda% (pk_ ?_))) | ((with_reducible refine wpOF_three ?_ ?_ ?_) <;> (refine no_implicit_lambda% (pk_ ?_))) | ((with_reducible refine MS.and_ ?_ ?_); (focus (exact msA)); intro hM) | (refine no_implicit_lambda% (ofS ?_)) | ((refine no_implicit_lambda% (ofK ?_)); intro K hK) | (refine no_implicit_lambda% (ofL ?_)) | ((refine no_implicit_lambda% (ofM ?_)); intro K hK) | ((refine no_implicit_lambda% (ofX ?_)); intro K hK) | (refine no_implicit_lambda% (ofN ?_)) | ((with_reducible apply wpT_split); (focus rfl); (focus rfl); (focus rfl); all_goals (intro hxx; simp only [hxx]))
    | fail)
      all_goals
        go_roundw
        case rel => exact ⟨i + 1, m + nm, c, _, _, _, by omega, by omega, by go_num, rfl, by first | exact hS.tailL.tailV | exact hS.tailV⟩
        case measure => simp [intOf]; omega
    · have d0 : decide ((i : Int) < (np : Int)) = false := by simp; omega
      replace hS := hS.raise (show T + i ≤ T + 100 by omega) (Nat.le_refl D)
      (try clear hc ht hv); (refine no_implicit_lambda% (fct ?_)); intro hc ht hv
      go_wp2_with (first
    | ((refine no_implicit_lambda% (hdE ?_)); intro K hK; (first
      | ((with_reducible refine at_dst 3 ?_ ?_); (focus rfl); (refine no_implicit_lambda% (aB ?_)); (try clear hc ht hv); clear hS; intro b3 w hS hc ht hv)
      | ((with_reducible refine at_dst 6 ?_ ?_); (focus rfl); (refine no_implicit_lambda% (abzR ?_)); (try clear hc ht hv); clear hS; intro b6 w hS hbl; (try replace hobV := KB.below hbl hobV); clear hbl; intro hc ht hv)
      | ((with_reducible refine at_dst 11 ?_ ?_); (focus rfl); (refine no_implicit_lambda% (abzR ?_)); (try clear hc ht hv); clear hS; intro b11 w hS hbl; (try replace hobV := KB.below hbl hobV); clear hbl; intro hc ht hv)
      | ((with_reducible refine at_dst 16 ?_ ?_); (focus rfl); ((refine no_implicit_lambda% (r0zMbareP ?_)); (try clear hc ht hv); clear hS; intro c b w hS hx; (try replace hrs := hrs.mono hx.le); (try clear hx); intro hc ht hv))
      | ((with_reducible refine at_dst 45 ?_ ?_); (focus rfl); ((refine no_implicit_lambda% (apzM ?_)); (try clear hc ht hv); clear hS; intro c A45 d45 w hS hx; (try replace hrs := hrs.mono hx.le); (try clear hx); intro hc ht hv))
      | ((refine no_implicit_lambda% (sbzR ?_)); (try clear hc ht hv); clear hS; intro w hS hks; (try replace hobV := hks _ _ hobV); clear hks; intro hc ht hv)
      | ((refine no_implicit_lambda% (stIB ?_)); (try clear hc ht hv); clear hS; intro w hS hc ht hv)))
    | (go_at_call 107; refine (l4Picks_t hS.tw slA).mono ?_; rintro e w ⟨c, Ap, np, dp, rfl, hnp, hs_, ⟨ls_, ho_, hp_⟩, hx, hT', hb⟩; have hlt_ := hS.ownLt; replace hS := (hS.below hx hT' (by omega) (by omega) hb).addV hs_ ho_ hp_ hS.base hlt_; clear hx hT' hb hlt_ ho_ hp_ hs_ ls_; (try clear hc ht hv); (try dsimp only); (refine no_implicit_lambda% (fct ?_)); intro hc ht hv)
    | (go_at_call 101; refine (l5Yes_t hS.tw tyA tyA (by omega)).mono ?_; rintro e w ⟨c, rs, Am, nm, dm, rfl, hrs, hnm, hsm, ⟨lsm, hom, hpm⟩, hx, hT', hb⟩; (try replace hobV := KB.call hx hb hobV); have hlt_ := hS.ownLt; replace hS := (hS.below hx hT' (by omega) (by omega) hb).addV hsm hom hpm hS.base hlt_; clear hx hT' hb hlt_ hom hpm hsm lsm; (try clear hc ht hv); (obtain ⟨_, _, _, _, _, _, _, _, _, _, _, _, _, rfl, _, _, _, _, _, _, _, _⟩ := hrs.rep); (try dsimp only); (refine no_implicit_lambda% (fct ?_)); intro hc ht hv)
    | ((refine no_implicit_lambda% (rgspecl5Enter9XVE38 ?_)); (try clear hc ht hv); clear hS; intro hS hc ht hv)
    | ((with_reducible refine wpOF_both ?_ ?_) <;> (refine no_implicit_lambda% (pk_ ?_))) | ((with_reducible refine wpOF_three ?_ ?_ ?_) <;> (refine no_implicit_lambda% (pk_ ?_))) | ((with_reducible refine MS.and_ ?_ ?_); (focus (exact msA)); intro hM) | (refine no_implicit_lambda% (ofS ?_)) | ((refine no_implicit_lambda% (ofK ?_)); intro K hK) | (refine no_implicit_lambda% (ofL ?_)) | ((refine no_implicit_lambda% (ofM ?_)); intro K hK) | ((refine no_implicit_lambda% (ofX ?_)); intro K hK) | (refine no_implicit_lambda% (ofN ?_)) | ((with_reducible apply wpT_split); (focus rfl); (focus rfl); (focus rfl); all_goals (intro hxx; simp only [hxx]))
    | fail)
      all_goals (exact no_implicit_lambda% fRM4_3)
end
section
variable {T D : Nat} {c0 : Cx} {w0 : World} {rs cs us vs : List Value} {A : Option Addr} {n d : Nat} {view : Int}
set_option maxRecDepth 100000 in
set_option maxHeartbeats 4000000 in
theorem l5Turned_t (hT : TW T D c0 w0) (hr : TyE T D c0 tR rs) (hm : TyE T D c0 tM us) (hs : SlV c0 34 (.slice A n d)) (hB : T ≤ 900000) :
    Calls Try.prog 92 #[.agg rs.toArray, .agg us.toArray, .slice A n d] w0 fun e w' => PRM (T + 100) D 101 c0 w0 e w' := by
  obtain ⟨me, vw, lv, nx, A1, n1, d1, A2, n2, d2, A3, n3, d3, rfl, g1, g2, g3, g4, g5, g6, g7, g8⟩ := hr.rep
  obtain ⟨kd, fr, mv, sq, mr, B1, p1, q1, B2, p2, q2, rfl, m1, m2, m3, m4, m5⟩ := hm.msg
  have hS : St ⟨c0, w0, none⟩ 0 (T) (D) c0 [] [] w0 := (St.start hT (fun g hg => by cases hg)).raise (by omega) (by omega)
  go_enter Try.func92, Try.ntmps92
  go_wp2_with (first
    | ((refine no_implicit_lambda% (hdE ?_)); intro K hK; (first
      | ((with_reducible refine at_dst 3 ?_ ?_); (focus rfl); (refine no_implicit_lambda% (aB ?_)); (try clear hc ht hv); clear hS; intro b3 w hS hc ht hv)
      | ((with_reducible refine at_dst 4 ?_ ?_); (focus rfl); (refine no_implicit_lambda% (aB ?_)); (try clear hc ht hv); clear hS; intro b4 w hS hc ht hv)
      | ((with_reducible refine at_dst 6 ?_ ?_); (focus rfl); (refine no_implicit_lambda% (alzR ?_)); (try clear hc ht hv); clear hS; intro b6 w hS hc ht hv)
      | ((with_reducible refine at_dst 9 ?_ ?_); (focus rfl); (refine no_implicit_lambda% (alzM ?_)); (try clear hc ht hv); clear hS; intro b9 w hS hc ht hv)
      | ((with_reducible refine at_dst 10 ?_ ?_); (focus rfl); (refine no_implicit_lambda% (alzR ?_)); (try clear hc ht hv); clear hS; intro b10 w hS hc ht hv)
      | ((with_reducible refine at_dst 51 ?_ ?_); (focus rfl); ((refine no_implicit_lambda% (r1zMbareP ?_)); (try clear hc ht hv); clear hS; intro c b w hS hx; (try replace hrs := hrs.mono hx.le); (try clear hx); intro hc ht hv))
      | ((with_reducible refine at_dst 53 ?_ ?_); (focus rfl); ((refine no_implicit_lambda% (apzM ?_)); (try clear hc ht hv); clear hS; intro c A53 d53 w hS hx; (try replace hrs := hrs.mono hx.le); (try clear hx); intro hc ht hv))
      | ((refine no_implicit_lambda% (sazR ?_)); (try clear hc ht hv); clear hS; intro w hS hc ht hv)
      | ((refine no_implicit_lambda% (sazM ?_)); (try clear hc ht hv); clear hS; intro w hS hc ht hv)))
    | (go_at_call 71; refine (l3Leader_t _ _).mono ?_; rintro e w' ⟨x, rfl, rfl⟩; (try dsimp only))
    | (go_at_call 102; refine (l5May_t hS.tw tyA).mono ?_; rintro e w ⟨bq, rfl, hb⟩; replace hS := hS.past hb; clear hb; (try clear hc ht hv); (try dsimp only); (refine no_implicit_lambda% (fct ?_)); intro hc ht hv; cases bq)
    | (go_at_call 103; refine (l5Votes_t hS.tw tyA slA).mono ?_; rintro e w ⟨c, Av, nv, dv, rfl, hnv, hs_, ⟨ls_, ho_, hp_⟩, hx, hT', hb⟩; have hlt_ := hS.ownLt; replace hS := (hS.below hx hT' (by omega) (by omega) hb).addV hs_ ho_ hp_ hS.base hlt_; clear hx hT' hb hlt_ ho_ hp_ hs_ ls_; (try clear hc ht hv); (try dsimp only); (refine no_implicit_lambda% (fct ?_)); intro hc ht hv)
    | (go_at_call 104; refine (l5Enter_t hS.tw tyA slA (by omega)).mono ?_; rintro e w ⟨c, rs, Am, nm, dm, rfl, hrs, hnm, hsm, ⟨lsm, hom, hpm⟩, hx, hT', hb⟩; (try replace hobV := KB.call hx hb hobV); have hlt_ := hS.ownLt; replace hS := (hS.below hx hT' (by omega) (by omega) hb).addV hsm hom hpm hS.base hlt_; clear hx hT' hb hlt_ hom hpm hsm lsm; (try clear hc ht hv); (obtain ⟨_, _, _, _, _, _, _, _, _, _, _, _, _, rfl, _, _, _, _, _, _, _, _⟩ := hrs.rep); (try dsimp only); (refine no_implicit_lambda% (fct ?_)); intro hc ht hv)
    | ((refine no_implicit_lambda% (rgspecl5Turned1 ?_)); (try clear hc ht hv); clear hS; intro hS hc ht hv)
    | ((refine no_implicit_lambda% (rgspecl5Turned8X2 ?_)); (try clear hc ht hv); clear hS; intro hS hc ht hv)
    | ((with_reducible refine wpOF_both ?_ ?_) <;> (refine no_implicit_lambda% (pk_ ?_))) | ((with_reducible refine wpOF_three ?_ ?_ ?_) <;> (refine no_implicit_lambda% (pk_ ?_))) | ((with_reducible refine MS.and_ ?_ ?_); (focus (exact msA)); intro hM) | (refine no_implicit_lambda% (ofS ?_)) | ((refine no_implicit_lambda% (ofK ?_)); intro K hK) | (refine no_implicit_lambda% (ofL ?_)) | ((refine no_implicit_lambda% (ofM ?_)); intro K hK) | ((refine no_implicit_lambda% (ofX ?_)); intro K hK) | (refine no_implicit_lambda% (ofN ?_)) | ((with_reducible apply wpT_split); (focus rfl); (focus rfl); (focus rfl); all_goals (intro hxx; simp only [hxx]))
    | fail)
  all_goals first | (exact no_implicit_lambda% fRM10) | (exact no_implicit_lambda% fRM4_3)
end
end Go.Proofs.Ytopmbnnjhoinkaa
