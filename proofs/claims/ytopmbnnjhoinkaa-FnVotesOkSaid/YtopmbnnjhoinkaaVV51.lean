/-
  What 'FVd' rests on (texts of this seat put together: FCa TRc).
  Conditions: none.
-/
import Derived.Test.YtopmbnnjhoinkaaVV47
import Derived.Test.YtopmbnnjhoinkaaVV48
namespace Go.Proofs.Ytopmbnnjhoinkaa
open Go Go.RowKit Rg
set_option linter.unusedVariables false
set_option linter.unusedSimpArgs false
set_option maxHeartbeats 1000000
section
variable {T D P g : Nat} {c0 : Cx} {w0 : World} {bad : Int} {A : Option Addr} {d : Nat} {B : Option Addr} {p q : Nat} {C : Option Addr} {m f : Nat}
end
section
variable {T D P g : Nat} {c0 : Cx} {w0 : World} {bad : Int} {A : Option Addr} {d : Nat} {B : Option Addr} {p q : Nat} {C : Option Addr} {m f : Nat}
set_option maxRecDepth 100000 in
set_option maxHeartbeats 20000000 in
theorem l20AnyMsg_e (hR : Rd w0 g P) (hP : P ≤ 830000) :
    Calls Try.prog 26 #[.pointer (some ⟨g, 0, none⟩)] w0 fun e w' => PAgR tM 0 0 cE w0 g (P + 470) e w' := by
  have hT := TW.empty 0 0 w0
  have hG : cE g = none := rfl
  have hS : St ⟨cE, w0, some g⟩ P 0 0 cE [] [] w0 := St.startR hT hR hG
  go_enter Try.func26, Try.ntmps26
  go_wp2_with (first
    | ((refine no_implicit_lambda% (hdE ?_)); intro K hK; (first
      | ((with_reducible refine at_dst 39 ?_ ?_); (focus rfl); (have hxl := hS.slV (j := 0) rfl); (replace hS := hS.tailV); (with_reducible apply wp_appFT hS rfl); (focus rfl); (focus exact Try.underlying31); (focus rfl); (focus rfl); (focus exact inC); (focus exact zoC); (focus decide); (focus (exact slA)); (focus (exact slA)); (focus (intro x hx; first | (simp only [List.mem_cons, List.not_mem_nil, or_false] at hx; rcases hx with rfl; first | (show tM ≠ tC; decide) | (show tM ≠ tR; decide)) | (simp at hx; done))); (focus omega); (focus (unfold maxLen; omega)); (try clear hc ht hv); clear hS; intro c A39 d39 w hS hx hsF hkF; (try clear hkF); (try replace hus := hus.mono hx.le); (try clear hx); (refine no_implicit_lambda% (fct ?_)); intro hc ht hv)
      | ((with_reducible refine at_dst 2 ?_ ?_); (focus rfl); (refine no_implicit_lambda% (alzM ?_)); (try clear hc ht hv); clear hS; intro b2 w hS hc ht hv)
      | ((with_reducible refine at_dst 3 ?_ ?_); (focus rfl); (refine no_implicit_lambda% (alzM ?_)); (try clear hc ht hv); clear hS; intro b3 w hS hc ht hv)
      | ((with_reducible refine at_dst 38 ?_ ?_); (focus rfl); ((refine no_implicit_lambda% (r1zCnoP ?_)); (try clear hc ht hv); clear hS; intro c b w hS hx; (try replace hus := hus.mono hx.le); (try clear hx); intro hc ht hv))
      | ((with_reducible refine at_dst 39 ?_ ?_); (focus rfl); ((refine no_implicit_lambda% (apzC ?_)); (try clear hc ht hv); clear hS; intro c A39 d39 w hS hx; (try replace hus := hus.mono hx.le); (try clear hx); intro hc ht hv))
      | ((refine no_implicit_lambda% (sazM ?_)); (try clear hc ht hv); clear hS; intro w hS hc ht hv)
      | ((refine no_implicit_lambda% (stIS ?_)); (try clear hc ht hv); clear hS; intro w hS hc ht hv)))
    | (go_at_call 52; refine (l20Msg_b hS.tw (hS.rd _ rfl).1 (hS.rdc rfl) (by omega)).mono ?_; rintro e w ⟨c, us, rfl, hus, hx, hT', hr', ho, hcl⟩; replace hS := hS.belowR rfl hx hT' (Nat.le_refl _) (Nat.le_refl _) ho hr'; clear hx hT' hr' ho; (try clear hc ht hv); (obtain ⟨_, _, _, _, _, _, _, _, _, _, _, rfl, _, _, _, _, _⟩ := hus.msg); (simp only [clen, slen, List.getD_cons_succ, List.getD_cons_zero] at hcl); (try dsimp only); (refine no_implicit_lambda% (fct ?_)); intro hc ht hv)
    | (go_at_call 25; refine (pick_c _ _ _ _ (hS.rd _ rfl).1 (by omega) (by omega)).mono ?_; rintro e w ⟨kq, rfl, hkq, hr', ho⟩; replace hkq := hkq.1 (by omega); (try replace hobV := KB.callR (Ext.refl _ _) ho (hS.rdc rfl) hobV); replace hS := hS.pastR rfl ho hr'; clear hr' ho; (try clear hc ht hv); (try dsimp only); (refine no_implicit_lambda% (fct ?_)); intro hc ht hv)
    | (first | (go_at_call 53; (with_reducible show Calls _ _ _ (World.alloc _ (.cells #[.int .i64 0, .int .i64 7, .int .i64 2] 3)) _); (have hs4 := sl_arr encI_len w #[.int .i64 0, .int .i64 7, .int .i64 2] 3 [0, 7, 2] rfl); refine (one_c _ _ _ _ _ 3 3 [0, 7, 2] _ ((hS.alloc (.cells #[.int .i64 0, .int .i64 7, .int .i64 2] 3)).rd _ rfl).1 (by omega) rfl (by omega) (by omega) hs4 ((hS.rd _ rfl).1.lt) (by simp)).mono ?_; rintro e w ⟨xq, hxq, rfl, hr', ho⟩; replace hS := (hS.alloc (.cells #[.int .i64 0, .int .i64 7, .int .i64 2] 3)).pastR rfl ho hr'; (simp only [List.mem_cons, List.not_mem_nil, or_false] at hxq); clear hr' ho hs4; (try clear hc ht hv); (try dsimp only); (refine no_implicit_lambda% (fct ?_)); intro hc ht hv) | (go_at_call 53; (with_reducible show Calls _ _ _ (World.alloc _ (.cells #[.int .i64 (-1), .int .i64 4] 3)) _); (have hs4 := sl_arr encI_len w #[.int .i64 (-1), .int .i64 4] 3 [-1, 4] rfl); refine (one_c _ _ _ _ _ 2 2 [-1, 4] _ ((hS.alloc (.cells #[.int .i64 (-1), .int .i64 4] 3)).rd _ rfl).1 (by omega) rfl (by omega) (by omega) hs4 ((hS.rd _ rfl).1.lt) (by simp)).mono ?_; rintro e w ⟨xq, hxq, rfl, hr', ho⟩; replace hS := (hS.alloc (.cells #[.int .i64 (-1), .int .i64 4] 3)).pastR rfl ho hr'; (simp only [List.mem_cons, List.not_mem_nil, or_false] at hxq); clear hr' ho hs4; (try clear hc ht hv); (try dsimp only); (refine no_implicit_lambda% (fct ?_)); intro hc ht hv) | (go_at_call 53; (with_reducible show Calls _ _ _ (World.alloc _ (.cells #[.int .i64 (-1), .int .i64 7] 3)) _); (have hs4 := sl_arr encI_len w #[.int .i64 (-1), .int .i64 7] 3 [-1, 7] rfl); refine (one_c _ _ _ _ _ 2 2 [-1, 7] _ ((hS.alloc (.cells #[.int .i64 (-1), .int .i64 7] 3)).rd _ rfl).1 (by omega) rfl (by omega) (by omega) hs4 ((hS.rd _ rfl).1.lt) (by simp)).mono ?_; rintro e w ⟨xq, hxq, rfl, hr', ho⟩; replace hS := (hS.alloc (.cells #[.int .i64 (-1), .int .i64 7] 3)).pastR rfl ho hr'; (simp only [List.mem_cons, List.not_mem_nil, or_false] at hxq); clear hr' ho hs4; (try clear hc ht hv); (try dsimp only); (refine no_implicit_lambda% (fct ?_)); intro hc ht hv) | (go_at_call 53; (with_reducible show Calls _ _ _ (World.alloc _ (.cells #[.int .i64 0, .int .i64 6, .int .i64 1] 3)) _); (have hs4 := sl_arr encI_len w #[.int .i64 0, .int .i64 6, .int .i64 1] 3 [0, 6, 1] rfl); refine (one_c _ _ _ _ _ 3 3 [0, 6, 1] _ ((hS.alloc (.cells #[.int .i64 0, .int .i64 6, .int .i64 1] 3)).rd _ rfl).1 (by omega) rfl (by omega) (by omega) hs4 ((hS.rd _ rfl).1.lt) (by simp)).mono ?_; rintro e w ⟨xq, hxq, rfl, hr', ho⟩; replace hS := (hS.alloc (.cells #[.int .i64 0, .int .i64 6, .int .i64 1] 3)).pastR rfl ho hr'; (simp only [List.mem_cons, List.not_mem_nil, or_false] at hxq); clear hr' ho hs4; (try clear hc ht hv); (try dsimp only); (refine no_implicit_lambda% (fct ?_)); intro hc ht hv))
    | (go_at_call 41; refine (l20Claim_t (hS.rd _ rfl).1 (by omega)).mono ?_; rintro e w ⟨tc, rfl, htc, hr', ho⟩; (try replace hobV := KB.callR (Ext.refl _ _) ho (hS.rdc rfl) hobV); replace hS := hS.pastR rfl ho hr'; clear hr' ho; (try clear hc ht hv); (try dsimp only); (refine no_implicit_lambda% (fct ?_)); intro hc ht hv)
    | ((refine no_implicit_lambda% (rgspecl20AnyMsg12 ?_)); (try clear hc ht hv); clear hS; intro hS hc ht hv)
    | ((with_reducible refine wpOF_both ?_ ?_) <;> (refine no_implicit_lambda% (pk_ ?_))) | ((with_reducible refine wpOF_three ?_ ?_ ?_) <;> (refine no_implicit_lambda% (pk_ ?_))) | ((with_reducible refine MS.and_ ?_ ?_); (focus (exact msA)); intro hM) | (refine no_implicit_lambda% (ofS ?_)) | ((refine no_implicit_lambda% (ofK ?_)); intro K hK) | (refine no_implicit_lambda% (ofL ?_)) | ((refine no_implicit_lambda% (ofM ?_)); intro K hK) | ((refine no_implicit_lambda% (ofX ?_)); intro K hK) | (refine no_implicit_lambda% (ofN ?_)) | ((with_reducible apply wpT_split); (focus rfl); (focus rfl); (focus rfl); all_goals (intro hxx; simp only [hxx]))
    | fail)
  all_goals ((try simp only [Exit.inBlock, Exit.then]); first | exact bodyPost_ret (results_c (e := 34) rfl hS 0 rfl inM (aggM _) rfl) rfl (hS.pagR 0 rfl (by omega)) | exact bodyPost_ret (results_c (e := 34) rfl hS 1 rfl inM (aggM _) rfl) rfl (hS.pagR 1 rfl (by omega)) | exact bodyPost_ret (results_c (e := 34) rfl hS 2 rfl inM (aggM _) rfl) rfl (hS.pagR 2 rfl (by omega)) | exact bodyPost_ret (results_c (e := 34) rfl hS 3 rfl inM (aggM _) rfl) rfl (hS.pagR 3 rfl (by omega)))
theorem l20AnyMsg_t (hT : TW T D c0 w0) (hR : Rd w0 g P) (hG : c0 g = none) (hP : P ≤ 830000) :
    Calls Try.prog 26 #[.pointer (some ⟨g, 0, none⟩)] w0 fun e w' => PAgR tM T D c0 w0 g (P + 470) e w' :=
  (l20AnyMsg_e hR hP).mono fun e w' h => h.frame hT hG (Nat.zero_le _) (Nat.zero_le _)
end
end Go.Proofs.Ytopmbnnjhoinkaa
