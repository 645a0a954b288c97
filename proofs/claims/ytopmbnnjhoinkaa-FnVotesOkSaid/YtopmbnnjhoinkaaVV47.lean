/-
  What 'FVd' rests on (texts of this seat put together: TRb).
  Conditions: none.
-/
import Derived.Test.YtopmbnnjhoinkaaVV46
namespace Go.Proofs.Ytopmbnnjhoinkaa
open Go Go.RowKit Rg
set_option linter.unusedVariables false
set_option linter.unusedSimpArgs false
set_option maxHeartbeats 1000000
section
variable {T D P g : Nat} {c0 : Cx} {w0 : World} {bad : Int} {A : Option Addr} {d : Nat} {B : Option Addr} {p q : Nat} {C : Option Addr} {m f : Nat}
set_option maxRecDepth 100000 in
set_option maxHeartbeats 20000000 in
theorem l20Msg_b (hT : TW T D c0 w0) (hR : Rd w0 g P) (hG : c0 g = none) (hP : P ≤ 840000) :
    Calls Try.prog 52 #[.pointer (some ⟨g, 0, none⟩)] w0 fun e w' => PMgR T D c0 w0 g (P + 430) e w' := by
  have hS : St ⟨c0, w0, some g⟩ P T D c0 [] [] w0 := St.startR hT hR hG
  go_enter Try.func52, Try.ntmps52
  go_wp2_with (first
    | ((refine no_implicit_lambda% (hdE ?_)); intro K hK; (first
      | ((with_reducible refine at_store rfl ?_); (with_reducible apply wp_setPT hS 0); (focus rfl); (focus rfl); (focus rfl); (focus rfl); (focus rfl); (focus (intro u hu; simp at hu; rcases hu with rfl | rfl | rfl | rfl | rfl <;> rfl)); (focus (simp)); (focus (simp only [List.take_succ_cons, List.take_zero, List.drop_succ_cons, List.drop_zero, List.cons_append, List.nil_append, List.length_cons, List.length_nil, Nat.zero_add, Nat.reduceAdd]; (exact tyA))); (focus exact inQ); (try clear hc ht hv); clear hS; intro w hS; (try simp only [List.take_succ_cons, List.take_zero, List.drop_succ_cons, List.drop_zero, List.cons_append, List.nil_append, List.length_cons, List.length_nil, List.set_cons_zero, List.set_cons_succ, Nat.zero_add, Nat.reduceAdd] at hS); (refine no_implicit_lambda% (fct ?_)); intro hc ht hv)
      | ((with_reducible refine at_store rfl ?_); (with_reducible apply wp_setPT hS 1); (focus rfl); (focus rfl); (focus rfl); (focus rfl); (focus rfl); (focus (intro u hu; simp at hu; rcases hu with rfl | rfl | rfl | rfl | rfl <;> rfl)); (focus (simp)); (focus (simp only [List.take_succ_cons, List.take_zero, List.drop_succ_cons, List.drop_zero, List.cons_append, List.nil_append, List.length_cons, List.length_nil, Nat.zero_add, Nat.reduceAdd]; (exact tyA))); (focus exact inQ); (try clear hc ht hv); clear hS; intro w hS; (try simp only [List.take_succ_cons, List.take_zero, List.drop_succ_cons, List.drop_zero, List.cons_append, List.nil_append, List.length_cons, List.length_nil, List.set_cons_zero, List.set_cons_succ, Nat.zero_add, Nat.reduceAdd] at hS); (refine no_implicit_lambda% (fct ?_)); intro hc ht hv)
      | ((with_reducible refine at_store rfl ?_); (with_reducible apply wp_setPT hS 2); (focus rfl); (focus rfl); (focus rfl); (focus rfl); (focus rfl); (focus (intro u hu; simp at hu; rcases hu with rfl | rfl | rfl | rfl | rfl <;> rfl)); (focus (simp)); (focus (simp only [List.take_succ_cons, List.take_zero, List.drop_succ_cons, List.drop_zero, List.cons_append, List.nil_append, List.length_cons, List.length_nil, Nat.zero_add, Nat.reduceAdd]; (exact tyA))); (focus exact inQ); (try clear hc ht hv); clear hS; intro w hS; (try simp only [List.take_succ_cons, List.take_zero, List.drop_succ_cons, List.drop_zero, List.cons_append, List.nil_append, List.length_cons, List.length_nil, List.set_cons_zero, List.set_cons_succ, Nat.zero_add, Nat.reduceAdd] at hS); (refine no_implicit_lambda% (fct ?_)); intro hc ht hv)
      | ((with_reducible refine at_store rfl ?_); (with_reducible apply wp_setPT hS 3); (focus rfl); (focus rfl); (focus rfl); (focus rfl); (focus rfl); (focus (intro u hu; simp at hu; rcases hu with rfl | rfl | rfl | rfl | rfl <;> rfl)); (focus (simp)); (focus (simp only [List.take_succ_cons, List.take_zero, List.drop_succ_cons, List.drop_zero, List.cons_append, List.nil_append, List.length_cons, List.length_nil, Nat.zero_add, Nat.reduceAdd]; (exact tyA))); (focus exact inQ); (try clear hc ht hv); clear hS; intro w hS; (try simp only [List.take_succ_cons, List.take_zero, List.drop_succ_cons, List.drop_zero, List.cons_append, List.nil_append, List.length_cons, List.length_nil, List.set_cons_zero, List.set_cons_succ, Nat.zero_add, Nat.reduceAdd] at hS); (refine no_implicit_lambda% (fct ?_)); intro hc ht hv)
      | ((with_reducible refine at_dst 2 ?_ ?_); (focus rfl); (refine no_implicit_lambda% (alzM ?_)); (try clear hc ht hv); clear hS; intro b2 w hS hc ht hv)
      | ((with_reducible refine at_dst 3 ?_ ?_); (focus rfl); (refine no_implicit_lambda% (alzM ?_)); (try clear hc ht hv); clear hS; intro b3 w hS hc ht hv)
      | ((refine no_implicit_lambda% (sazM ?_)); (try clear hc ht hv); clear hS; intro w hS hc ht hv)
      | ((refine no_implicit_lambda% (sazQ ?_)); (try clear hc ht hv); clear hS; intro w hS hc ht hv)
      | ((refine no_implicit_lambda% (stIS ?_)); (try clear hc ht hv); clear hS; intro w hS hc ht hv)))
    | (go_at_call 25; refine (pick_c _ _ _ _ (hS.rd _ rfl).1 (by omega) (by omega)).mono ?_; rintro e w ⟨kq, rfl, hkq, hr', ho⟩; replace hkq := hkq.1 (by omega); (try replace hobV := KB.callR (Ext.refl _ _) ho (hS.rdc rfl) hobV); replace hS := hS.pastR rfl ho hr'; clear hr' ho; (try clear hc ht hv); (try dsimp only); (refine no_implicit_lambda% (fct ?_)); intro hc ht hv)
    | (go_at_call 69; refine (l20Req_c _ _ _ (hS.rd _ rfl).1 (by omega)).mono ?_; rintro e w ⟨tr, rfl, hq2, hr', ho⟩; clear hq2; replace hS := hS.pastR rfl ho hr'; clear hr' ho; (try clear hc ht hv); (try dsimp only); (refine no_implicit_lambda% (fct ?_)); intro hc ht hv)
    | (go_at_call 74; refine (l20Claims_t hS.tw (hS.rd _ rfl).1 (hS.rdc rfl) (by omega)).mono ?_; rintro e w ⟨c, Ak, nk, dk, rfl, hnk, hs_, ⟨ls_, ho_, hp_⟩, hx, hT', hr', ho⟩; have hlt_ := hS.ownLt; replace hS := (hS.belowR rfl hx hT' (Nat.le_refl _) (Nat.le_refl _) ho hr').addV hs_ ho_ hp_ hS.base hlt_; clear hx hT' hr' ho hlt_ ho_ hp_ hs_ ls_; (try clear hc ht hv); (try dsimp only); (refine no_implicit_lambda% (fct ?_)); intro hc ht hv)
    | (go_at_call 75; refine (l20Votes_t hS.tw (hS.rd _ rfl).1 (hS.rdc rfl) (by omega)).mono ?_; rintro e w ⟨c, Ak, nk, dk, rfl, hnk, hs_, ⟨ls_, ho_, hp_⟩, hx, hT', hr', ho⟩; have hlt_ := hS.ownLt; replace hS := (hS.belowR rfl hx hT' (Nat.le_refl _) (Nat.le_refl _) ho hr').addV hs_ ho_ hp_ hS.base hlt_; clear hx hT' hr' ho hlt_ ho_ hp_ hs_ ls_; (try clear hc ht hv); (try dsimp only); (refine no_implicit_lambda% (fct ?_)); intro hc ht hv)
    | fail)
  all_goals ((try simp only [Exit.inBlock, Exit.then]); first | exact bodyPost_ret (results_c (e := 34) rfl hS 0 rfl inM (aggM _) rfl) rfl (hS.pmgR 0 rfl (by omega) (by simp only [clen, slen, List.getD_cons_succ, List.getD_cons_zero]; omega)) | exact bodyPost_ret (results_c (e := 34) rfl hS 1 rfl inM (aggM _) rfl) rfl (hS.pmgR 1 rfl (by omega) (by simp only [clen, slen, List.getD_cons_succ, List.getD_cons_zero]; omega)) | exact bodyPost_ret (results_c (e := 34) rfl hS 2 rfl inM (aggM _) rfl) rfl (hS.pmgR 2 rfl (by omega) (by simp only [clen, slen, List.getD_cons_succ, List.getD_cons_zero]; omega)) | exact bodyPost_ret (results_c (e := 34) rfl hS 3 rfl inM (aggM _) rfl) rfl (hS.pmgR 3 rfl (by omega) (by simp only [clen, slen, List.getD_cons_succ, List.getD_cons_zero]; omega)))
theorem l20Msg_t (hT : TW T D c0 w0) (hR : Rd w0 g P) (hG : c0 g = none) (hP : P ≤ 840000) :
    Calls Try.prog 52 #[.pointer (some ⟨g, 0, none⟩)] w0 fun e w' => PAgR tM T D c0 w0 g (P + 430) e w' := (l20Msg_b hT hR hG hP).mono fun e w' h => h.ag
end
end Go.Proofs.Ytopmbnnjhoinkaa
