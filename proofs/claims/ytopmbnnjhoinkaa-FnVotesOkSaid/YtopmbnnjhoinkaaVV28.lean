/-
  What 'FVd' rests on (texts of this seat put together: TX4).
  Conditions: none.
-/
import Derived.Test.YtopmbnnjhoinkaaVV27
namespace Go.Proofs.Ytopmbnnjhoinkaa
open Go Go.RowKit Rg
set_option linter.unusedVariables false
set_option linter.unusedSimpArgs false
set_option maxHeartbeats 1000000
def PB (w0 : World) (e : Ending) (w' : World) : Prop := ∃ b : Bool, e = .returned (.bool b) ∧ Below w0.heap.size w0 w'
section
variable {T D : Nat} {c0 : Cx} {w0 : World} {rs cs us vs : List Value} {A : Option Addr} {n d : Nat} {B : Option Addr} {p q : Nat} {view : Int}
set_option maxRecDepth 100000 in
set_option maxHeartbeats 4000000 in
theorem l4Offered_t (hT : TW T D c0 w0) (hs : SlV c0 34 (.slice A n d)) (hq : TyE T D c0 tC cs) :
    Calls Try.prog 50 #[.slice A n d, .agg cs.toArray] w0 fun e w' => PB w0 e w' := by
  obtain ⟨t, rfl, h2⟩ := hq.claim
  have hS : St ⟨c0, w0, none⟩ 0 (T) (D) c0 [] [] w0 := (St.start hT (fun g hg => by cases hg)).raise (by omega) (by omega)
  have hcap := hs.cap
  unfold maxLen at hcap
  go_enter Try.func50, Try.ntmps50
  go_wp2_with (first
    | ((refine no_implicit_lambda% (hdE ?_)); intro K hK; (first
      | ((with_reducible refine at_dst 3 ?_ ?_); (focus rfl); (refine no_implicit_lambda% (aB ?_)); (try clear hc ht hv); clear hS; intro b3 w hS hc ht hv)
      | ((with_reducible refine at_dst 7 ?_ ?_); (focus rfl); (refine no_implicit_lambda% (alzM ?_)); (try clear hc ht hv); clear hS; intro b7 w hS hc ht hv)
      | ((refine no_implicit_lambda% (sazM ?_)); (try clear hc ht hv); clear hS; intro w hS hc ht hv)))
    | (go_at_call 71; refine (l3Leader_t _ _).mono ?_; rintro e w' ⟨x, rfl, rfl⟩; (try dsimp only))
    | (go_at_call 72; refine (l4Top_t hS.tw slA).mono ?_; rintro e w' ⟨x, rfl, hx, rfl⟩; (try dsimp only))
    | (go_at_call 73; refine (l4Pick_t hS.tw slA _).mono ?_; rintro e w ⟨x, rfl, hb⟩; replace hS := hS.past hb; clear hb; (try clear hc ht hv); (try dsimp only); (refine no_implicit_lambda% (fct ?_)); intro hc ht hv)
    | ((refine no_implicit_lambda% (rgspecl4Offered9 ?_)); (try clear hc ht hv); clear hS; intro hS hc ht hv)
    | ((with_reducible refine wpOF_both ?_ ?_) <;> (refine no_implicit_lambda% (pk_ ?_))) | ((with_reducible refine wpOF_three ?_ ?_ ?_) <;> (refine no_implicit_lambda% (pk_ ?_))) | ((with_reducible refine MS.and_ ?_ ?_); (focus (exact msA)); intro hM) | (refine no_implicit_lambda% (ofS ?_)) | ((refine no_implicit_lambda% (ofK ?_)); intro K hK) | (refine no_implicit_lambda% (ofL ?_)) | ((refine no_implicit_lambda% (ofM ?_)); intro K hK) | ((refine no_implicit_lambda% (ofX ?_)); intro K hK) | (refine no_implicit_lambda% (ofN ?_)) | ((with_reducible apply wpT_split); (focus rfl); (focus rfl); (focus rfl); all_goals (intro hxx; simp only [hxx]))
    | fail)
  go_loopw [6] (fun iv wr => ∃ i : Nat, i ≤ n ∧ iv = .int .i64 (i : Int) ∧ St ⟨c0, w0, none⟩ 0 T D c0 [(b3, 27, [.int .i64 t.1, .int .i64 t.2.1, .int .i64 t.2.2.1, .int .i64 t.2.2.2.1, .int .i64 t.2.2.2.2.1, .int .i64 t.2.2.2.2.2.1, .int .i64 t.2.2.2.2.2.2])] [] wr) (fun iv _ => n - (intOf iv).toNat)
  case atStart => exact ⟨0, Nat.zero_le _, rfl, hS⟩
  case round =>
    (try clear hc ht hv); clear hS
    obtain ⟨i, hi, rfl, hS⟩ := hrel
    by_cases hlti : i < n
    · obtain ⟨g, off, rfl⟩ := hs.addr hlti
      obtain ⟨kd, fr, mv, sq, mr, Ac, nc, dc, Av, nv, dv, a0, a1, a2, a3, a4, a5, a6, a7, a8, a9, a10, u1, u2, u3, u4, u5⟩ := hT.msgAt hs hlti
      have hr := fun (y : ReqV) W => run_eq_req y t.2.2 W
      cases f6 : (kd == 6)
      all_goals
        (try clear hc ht hv); (refine no_implicit_lambda% (fct ?_)); intro hc ht hv; (refine no_implicit_lambda% (fxee6d1 ?_)); intro e0 e1 e2 e3 e4 e5 e6 e7 e8 e9 e10
        go_wp2_with (first
    | ((refine no_implicit_lambda% (hdE ?_)); intro K hK; (first
      | ((with_reducible refine at_dst 3 ?_ ?_); (focus rfl); (refine no_implicit_lambda% (aB ?_)); (try clear hc ht hv); (try clear e0 e1 e2 e3 e4 e5 e6 e7 e8 e9 e10); clear hS; intro b3 w hS hc ht hv; (refine no_implicit_lambda% (fxee6d1 ?_)); intro e0 e1 e2 e3 e4 e5 e6 e7 e8 e9 e10)
      | ((with_reducible refine at_dst 7 ?_ ?_); (focus rfl); (refine no_implicit_lambda% (alzM ?_)); (try clear hc ht hv); (try clear e0 e1 e2 e3 e4 e5 e6 e7 e8 e9 e10); clear hS; intro b7 w hS hc ht hv; (refine no_implicit_lambda% (fxee6d1 ?_)); intro e0 e1 e2 e3 e4 e5 e6 e7 e8 e9 e10)
      | ((refine no_implicit_lambda% (sazM ?_)); (try clear hc ht hv); (try clear e0 e1 e2 e3 e4 e5 e6 e7 e8 e9 e10); clear hS; intro w hS hc ht hv; (refine no_implicit_lambda% (fxee6d1 ?_)); intro e0 e1 e2 e3 e4 e5 e6 e7 e8 e9 e10)))
    | (go_at_call 71; refine (l3Leader_t _ _).mono ?_; rintro e w' ⟨x, rfl, rfl⟩; (try dsimp only))
    | (go_at_call 72; refine (l4Top_t hS.tw slA).mono ?_; rintro e w' ⟨x, rfl, hx, rfl⟩; (try dsimp only))
    | (go_at_call 73; refine (l4Pick_t hS.tw slA _).mono ?_; rintro e w ⟨x, rfl, hb⟩; replace hS := hS.past hb; clear hb; (try clear hc ht hv); (try clear e0 e1 e2 e3 e4 e5 e6 e7 e8 e9 e10); (try dsimp only); (refine no_implicit_lambda% (fct ?_)); intro hc ht hv; (refine no_implicit_lambda% (fxee6d1 ?_)); intro e0 e1 e2 e3 e4 e5 e6 e7 e8 e9 e10)
    | ((refine no_implicit_lambda% (rgspecl4Offered9 ?_)); (try clear hc ht hv); (try clear e0 e1 e2 e3 e4 e5 e6 e7 e8 e9 e10); clear hS; intro hS hc ht hv; (refine no_implicit_lambda% (fxee6d1 ?_)); intro e0 e1 e2 e3 e4 e5 e6 e7 e8 e9 e10)
    | ((with_reducible refine wpOF_both ?_ ?_) <;> (refine no_implicit_lambda% (pk_ ?_))) | ((with_reducible refine wpOF_three ?_ ?_ ?_) <;> (refine no_implicit_lambda% (pk_ ?_))) | ((with_reducible refine MS.and_ ?_ ?_); (focus (exact msA)); intro hM) | (refine no_implicit_lambda% (ofS ?_)) | ((refine no_implicit_lambda% (ofK ?_)); intro K hK) | (refine no_implicit_lambda% (ofL ?_)) | ((refine no_implicit_lambda% (ofM ?_)); intro K hK) | ((refine no_implicit_lambda% (ofX ?_)); intro K hK) | (refine no_implicit_lambda% (ofN ?_)) | ((with_reducible apply wpT_split); (focus rfl); (focus rfl); (focus rfl); all_goals (intro hxx; simp only [hxx]))
    | fail)
        all_goals first
          | (go_ret; exact ⟨_, rfl, hS.fin.2.2⟩)
          | (go_roundw
             case rel => exact ⟨i + 1, by omega, by go_num, hS.tailL⟩
             case measure => simp [intOf]; omega)
    · obtain rfl : i = n := by omega
      (try clear hc ht hv); (refine no_implicit_lambda% (fct ?_)); intro hc ht hv
      go_wp2_with (first
    | ((refine no_implicit_lambda% (hdE ?_)); intro K hK; (first
      | ((with_reducible refine at_dst 3 ?_ ?_); (focus rfl); (refine no_implicit_lambda% (aB ?_)); (try clear hc ht hv); clear hS; intro b3 w hS hc ht hv)
      | ((with_reducible refine at_dst 7 ?_ ?_); (focus rfl); (refine no_implicit_lambda% (alzM ?_)); (try clear hc ht hv); clear hS; intro b7 w hS hc ht hv)
      | ((refine no_implicit_lambda% (sazM ?_)); (try clear hc ht hv); clear hS; intro w hS hc ht hv)))
    | (go_at_call 71; refine (l3Leader_t _ _).mono ?_; rintro e w' ⟨x, rfl, rfl⟩; (try dsimp only))
    | (go_at_call 72; refine (l4Top_t hS.tw slA).mono ?_; rintro e w' ⟨x, rfl, hx, rfl⟩; (try dsimp only))
    | (go_at_call 73; refine (l4Pick_t hS.tw slA _).mono ?_; rintro e w ⟨x, rfl, hb⟩; replace hS := hS.past hb; clear hb; (try clear hc ht hv); (try dsimp only); (refine no_implicit_lambda% (fct ?_)); intro hc ht hv)
    | ((refine no_implicit_lambda% (rgspecl4Offered9 ?_)); (try clear hc ht hv); clear hS; intro hS hc ht hv)
    | ((with_reducible refine wpOF_both ?_ ?_) <;> (refine no_implicit_lambda% (pk_ ?_))) | ((with_reducible refine wpOF_three ?_ ?_ ?_) <;> (refine no_implicit_lambda% (pk_ ?_))) | ((with_reducible refine MS.and_ ?_ ?_); (focus (exact msA)); intro hM) | (refine no_implicit_lambda% (ofS ?_)) | ((refine no_implicit_lambda% (ofK ?_)); intro K hK) | (refine no_implicit_lambda% (ofL ?_)) | ((refine no_implicit_lambda% (ofM ?_)); intro K hK) | ((refine no_implicit_lambda% (ofX ?_)); intro K hK) | (refine no_implicit_lambda% (ofN ?_)) | ((with_reducible apply wpT_split); (focus rfl); (focus rfl); (focus rfl); all_goals (intro hxx; simp only [hxx]))
    | fail)
      all_goals (go_ret; exact ⟨_, rfl, hS.fin.2.2⟩)
set_option maxRecDepth 100000 in
set_option maxHeartbeats 4000000 in
theorem l4Ready_t (hT : TW T D c0 w0) (hs : SlV c0 34 (.slice A n d)) (hq : TyE T D c0 tC cs) :
    Calls Try.prog 23 #[.slice A n d, .agg cs.toArray] w0 fun e w' => PB w0 e w' := by
  obtain ⟨t, rfl, h2⟩ := hq.claim
  have hS : St ⟨c0, w0, none⟩ 0 (T) (D) c0 [] [] w0 := (St.start hT (fun g hg => by cases hg)).raise (by omega) (by omega)
  go_enter Try.func23, Try.ntmps23
  go_wp2_with (first
    | ((refine no_implicit_lambda% (hdE ?_)); intro K hK; (first
      | ((with_reducible refine at_dst 3 ?_ ?_); (focus rfl); (refine no_implicit_lambda% (aB ?_)); (try clear hc ht hv); clear hS; intro b3 w hS hc ht hv)))
    | (go_at_call 50; refine (l4Offered_t hS.tw slA tyA).mono ?_; rintro e w ⟨bq, rfl, hb⟩; replace hS := hS.past hb; clear hb; (try clear hc ht hv); (try dsimp only); (refine no_implicit_lambda% (fct ?_)); intro hc ht hv; cases bq)
    | (go_at_call 51; refine (l4Count_t hS.tw slA tyA).mono ?_; rintro e w ⟨x, rfl, hb⟩; replace hS := hS.past hb; clear hb; (try clear hc ht hv); (try dsimp only); (refine no_implicit_lambda% (fct ?_)); intro hc ht hv)
    | fail)
  all_goals (go_ret; exact ⟨_, rfl, hS.fin.2.2⟩)
set_option maxRecDepth 100000 in
set_option maxHeartbeats 4000000 in
theorem l4Turn_t (hT : TW T D c0 w0) (hs : SlV c0 34 (.slice A n d)) (hq : TyE T D c0 tV vs) :
    Calls Try.prog 60 #[.slice A n d, .int .i64 view, .agg vs.toArray] w0 fun e w' => PB w0 e w' := by
  obtain ⟨vf, C, r, s, rfl, h1, h2⟩ := hq.vote
  have hS : St ⟨c0, w0, none⟩ 0 (T) (D) c0 [] [] w0 := (St.start hT (fun g hg => by cases hg)).raise (by omega) (by omega)
  go_enter Try.func60, Try.ntmps60
  go_wp2_with (first
    | ((refine no_implicit_lambda% (hdE ?_)); intro K hK; (first
      | ((with_reducible refine at_dst 5 ?_ ?_); (focus rfl); (refine no_implicit_lambda% (aB ?_)); (try clear hc ht hv); clear hS; intro b5 w hS hc ht hv)))
    | (go_at_call 77; refine (l3Has_t hS.tw slA tyA).mono ?_; rintro e w ⟨bq, rfl, hb⟩; replace hS := hS.past hb; clear hb; (try clear hc ht hv); (try dsimp only); (refine no_implicit_lambda% (fct ?_)); intro hc ht hv; cases bq)
    | (go_at_call 23; refine (l4Ready_t hS.tw slA tyA).mono ?_; rintro e w ⟨bq, rfl, hb⟩; replace hS := hS.past hb; clear hb; (try clear hc ht hv); (try dsimp only); (refine no_implicit_lambda% (fct ?_)); intro hc ht hv; cases bq)
    | fail)
  all_goals first | (go_ret; exact ⟨_, rfl, hS.fin.2.2⟩) | skip
  go_loopw [7] (fun iv wr => ∃ i : Nat, i ≤ r ∧ iv = .int .i64 (i : Int) ∧ St ⟨c0, w0, none⟩ 0 T D c0 [(b5, 42, [.int .i64 vf, .slice C r s])] [] wr) (fun iv _ => r - (intOf iv).toNat)
  case atStart => exact ⟨0, Nat.zero_le _, rfl, hS⟩
  case round =>
    (try clear hc ht hv); clear hS
    obtain ⟨i, hi, rfl, hS⟩ := hrel
    by_cases hlti : i < r
    · obtain ⟨g, off, rfl⟩ := h1.addr hlti
      obtain ⟨t, a0, a1, a2, a3, a4, a5, a6, u1⟩ := hT.claimAt h1 hlti
      (try clear hc ht hv); (refine no_implicit_lambda% (fct ?_)); intro hc ht hv; (refine no_implicit_lambda% (fx0c49e ?_)); intro e0 e1 e2 e3 e4 e5 e6
      go_wp2_with (first
    | ((refine no_implicit_lambda% (hdE ?_)); intro K hK; (first
      | ((with_reducible refine at_dst 5 ?_ ?_); (focus rfl); (refine no_implicit_lambda% (aB ?_)); (try clear hc ht hv); (try clear e0 e1 e2 e3 e4 e5 e6); clear hS; intro b5 w hS hc ht hv; (refine no_implicit_lambda% (fx0c49e ?_)); intro e0 e1 e2 e3 e4 e5 e6)))
    | (go_at_call 77; refine (l3Has_t hS.tw slA tyA).mono ?_; rintro e w ⟨bq, rfl, hb⟩; replace hS := hS.past hb; clear hb; (try clear hc ht hv); (try clear e0 e1 e2 e3 e4 e5 e6); (try dsimp only); (refine no_implicit_lambda% (fct ?_)); intro hc ht hv; (refine no_implicit_lambda% (fx0c49e ?_)); intro e0 e1 e2 e3 e4 e5 e6; cases bq)
    | (go_at_call 23; refine (l4Ready_t hS.tw slA tyA).mono ?_; rintro e w ⟨bq, rfl, hb⟩; replace hS := hS.past hb; clear hb; (try clear hc ht hv); (try clear e0 e1 e2 e3 e4 e5 e6); (try dsimp only); (refine no_implicit_lambda% (fct ?_)); intro hc ht hv; (refine no_implicit_lambda% (fx0c49e ?_)); intro e0 e1 e2 e3 e4 e5 e6; cases bq)
    | fail)
      all_goals first
        | (go_ret; exact ⟨_, rfl, hS.fin.2.2⟩)
        | (go_roundw
           case rel => exact ⟨i + 1, by omega, by go_num, hS⟩
           case measure => simp [intOf]; omega)
    · obtain rfl : i = r := by omega
      (try clear hc ht hv); (refine no_implicit_lambda% (fct ?_)); intro hc ht hv
      go_wp2_with (first
    | ((refine no_implicit_lambda% (hdE ?_)); intro K hK; (first
      | ((with_reducible refine at_dst 5 ?_ ?_); (focus rfl); (refine no_implicit_lambda% (aB ?_)); (try clear hc ht hv); clear hS; intro b5 w hS hc ht hv)))
    | (go_at_call 77; refine (l3Has_t hS.tw slA tyA).mono ?_; rintro e w ⟨bq, rfl, hb⟩; replace hS := hS.past hb; clear hb; (try clear hc ht hv); (try dsimp only); (refine no_implicit_lambda% (fct ?_)); intro hc ht hv; cases bq)
    | (go_at_call 23; refine (l4Ready_t hS.tw slA tyA).mono ?_; rintro e w ⟨bq, rfl, hb⟩; replace hS := hS.past hb; clear hb; (try clear hc ht hv); (try dsimp only); (refine no_implicit_lambda% (fct ?_)); intro hc ht hv; cases bq)
    | fail)
      all_goals (go_ret; exact ⟨_, rfl, hS.fin.2.2⟩)
set_option maxRecDepth 100000 in
set_option maxHeartbeats 4000000 in
theorem l4Votes_t (hT : TW T D c0 w0) (hs : SlV c0 34 (.slice A n d)) (hv : SlV c0 42 (.slice B p q)) :
    Calls Try.prog 35 #[.slice A n d, .int .i64 view, .slice B p q] w0 fun e w' => PB w0 e w' := by
  have hvs := hv
  have hcap := hv.cap
  unfold maxLen at hcap
  have hS : St ⟨c0, w0, none⟩ 0 (T) (D) c0 [] [] w0 := (St.start hT (fun g hg => by cases hg)).raise (by omega) (by omega)
  go_enter Try.func35, Try.ntmps35
  go_wp2_with (first
    | (go_at_call 60; refine (l4Turn_t hS.tw slA tyA).mono ?_; rintro e w ⟨bq, rfl, hb⟩; replace hS := hS.past hb; clear hb; (try clear hc ht hv); (try dsimp only); (refine no_implicit_lambda% (fct ?_)); intro hc ht hv; cases bq)
    | (go_at_call 61; refine (l3VotesOk_t hS.tw slA).mono ?_; rintro e w ⟨bq, rfl, hb⟩; replace hS := hS.past hb; clear hb; (try clear hc ht hv); (try dsimp only); (refine no_implicit_lambda% (fct ?_)); intro hc ht hv; cases bq)
    | fail)
  go_loopw [7] (fun iv wr => ∃ i : Nat, i ≤ p ∧ iv = .int .i64 (i : Int) ∧ St ⟨c0, w0, none⟩ 0 T D c0 [] [] wr) (fun iv _ => p - (intOf iv).toNat)
  case atStart => exact ⟨0, Nat.zero_le _, rfl, hS⟩
  case round =>
    (try clear hc ht hv); clear hS
    obtain ⟨i, hi, rfl, hS⟩ := hrel
    by_cases hlti : i < p
    · obtain ⟨g, off, rfl⟩ := hvs.addr hlti
      obtain ⟨vf, C, r, s, a0, a1, h1, h2⟩ := hT.voteAt hvs hlti
      (try clear hc ht hv); (refine no_implicit_lambda% (fct ?_)); intro hc ht hv; (refine no_implicit_lambda% (fx73457 ?_)); intro e0 e1
      go_wp2_with (first
    | (go_at_call 60; refine (l4Turn_t hS.tw slA tyA).mono ?_; rintro e w ⟨bq, rfl, hb⟩; replace hS := hS.past hb; clear hb; (try clear hc ht hv); (try clear e0 e1); (try dsimp only); (refine no_implicit_lambda% (fct ?_)); intro hc ht hv; (refine no_implicit_lambda% (fx73457 ?_)); intro e0 e1; cases bq)
    | (go_at_call 61; refine (l3VotesOk_t hS.tw slA).mono ?_; rintro e w ⟨bq, rfl, hb⟩; replace hS := hS.past hb; clear hb; (try clear hc ht hv); (try clear e0 e1); (try dsimp only); (refine no_implicit_lambda% (fct ?_)); intro hc ht hv; (refine no_implicit_lambda% (fx73457 ?_)); intro e0 e1; cases bq)
    | fail)
      all_goals first
        | (go_ret; exact ⟨_, rfl, hS.fin.2.2⟩)
        | (go_roundw
           case rel => exact ⟨i + 1, by omega, by go_num, hS⟩
           case measure => simp [intOf]; omega)
    · obtain rfl : i = p := by omega
      (try clear hc ht hv); (refine no_implicit_lambda% (fct ?_)); intro hc ht hv
      go_wp2_with (first
    | (go_at_call 60; refine (l4Turn_t hS.tw slA tyA).mono ?_; rintro e w ⟨bq, rfl, hb⟩; replace hS := hS.past hb; clear hb; (try clear hc ht hv); (try dsimp only); (refine no_implicit_lambda% (fct ?_)); intro hc ht hv; cases bq)
    | (go_at_call 61; refine (l3VotesOk_t hS.tw slA).mono ?_; rintro e w ⟨bq, rfl, hb⟩; replace hS := hS.past hb; clear hb; (try clear hc ht hv); (try dsimp only); (refine no_implicit_lambda% (fct ?_)); intro hc ht hv; cases bq)
    | fail)
      all_goals (go_ret; exact ⟨_, rfl, hS.fin.2.2⟩)
end
end Go.Proofs.Ytopmbnnjhoinkaa
