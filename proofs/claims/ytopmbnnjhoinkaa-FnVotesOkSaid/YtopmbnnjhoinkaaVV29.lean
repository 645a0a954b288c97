/-
  What 'FVd' rests on (texts of this seat put together: TX5).
  Conditions: none.
-/
import Derived.Test.YtopmbnnjhoinkaaVV28
namespace Go.Proofs.Ytopmbnnjhoinkaa
open Go Go.RowKit Rg
set_option linter.unusedVariables false
set_option linter.unusedSimpArgs false
set_option maxHeartbeats 1000000
section
variable {T D : Nat} {c0 : Cx} {w0 : World} {rs cs us vs : List Value} {view seq : Int}
set_option maxRecDepth 100000 in
set_option maxHeartbeats 4000000 in
theorem l5Is_t (hT : TW T D c0 w0) (hr : TyE T D c0 tR rs) (hq : TyE T D c0 tC cs) :
    Calls Try.prog 105 #[.agg rs.toArray, .agg cs.toArray] w0 fun e w' => PB w0 e w' := by
  obtain ⟨me, vw, lv, nx, A1, n1, d1, A2, n2, d2, A3, n3, d3, rfl, g1, g2, g3, g4, g5, g6, g7, g8⟩ := hr.rep
  obtain ⟨t, rfl, h2⟩ := hq.claim
  have hS : St ⟨c0, w0, none⟩ 0 (T) (D) c0 [] [] w0 := (St.start hT (fun g hg => by cases hg)).raise (by omega) (by omega)
  go_enter Try.func105, Try.ntmps105
  go_wp2_with (first
    | ((refine no_implicit_lambda% (hdE ?_)); intro K hK; (first
      | ((with_reducible refine at_dst 2 ?_ ?_); (focus rfl); (refine no_implicit_lambda% (aB ?_)); (try clear hc ht hv); clear hS; intro b2 w hS hc ht hv)
      | ((with_reducible refine at_dst 3 ?_ ?_); (focus rfl); (refine no_implicit_lambda% (aB ?_)); (try clear hc ht hv); clear hS; intro b3 w hS hc ht hv)))
    | (go_at_call 51; refine (l4Count_t hS.tw slA tyA).mono ?_; rintro e w ⟨x, rfl, hb⟩; replace hS := hS.past hb; clear hb; (try clear hc ht hv); (try dsimp only); (refine no_implicit_lambda% (fct ?_)); intro hc ht hv)
    | fail)
  all_goals (go_ret; exact ⟨_, rfl, hS.fin.2.2⟩)
set_option maxRecDepth 100000 in
set_option maxHeartbeats 4000000 in
theorem l5May_t (hT : TW T D c0 w0) (hr : TyE T D c0 tR rs) :
    Calls Try.prog 102 #[.agg rs.toArray, .int .i64 view] w0 fun e w' => PB w0 e w' := by
  obtain ⟨me, vw, lv, nx, A1, n1, d1, A2, n2, d2, A3, n3, d3, rfl, g1, g2, g3, g4, g5, g6, g7, g8⟩ := hr.rep
  have hS : St ⟨c0, w0, none⟩ 0 (T) (D) c0 [] [] w0 := (St.start hT (fun g hg => by cases hg)).raise (by omega) (by omega)
  cases f1 : decide (vw < view) <;> cases f2 : (view == vw) <;> cases lv
  all_goals
    go_enter Try.func102, Try.ntmps102
    go_wp2_with (first
    | ((refine no_implicit_lambda% (hdE ?_)); intro K hK; (first
      | ((with_reducible refine at_dst 2 ?_ ?_); (focus rfl); (refine no_implicit_lambda% (aB ?_)); (try clear hc ht hv); clear hS; intro b2 w hS hc ht hv)))
    | fail)
    all_goals (go_ret; exact ⟨_, rfl, hS.fin.2.2⟩)
set_option maxRecDepth 100000 in
set_option maxHeartbeats 4000000 in
theorem l5IsDone_t (hT : TW T D c0 w0) (hr : TyE T D c0 tR rs) :
    Calls Try.prog 108 #[.agg rs.toArray, .int .i64 seq] w0 fun e w' => PB w0 e w' := by
  obtain ⟨me, vw, lv, nx, A1, n1, d1, A2, n2, d2, A3, n3, d3, rfl, g1, g2, g3, g4, g5, g6, g7, g8⟩ := hr.rep
  have hcap := g7.cap
  unfold maxLen at hcap
  have hS : St ⟨c0, w0, none⟩ 0 (T) (D) c0 [] [] w0 := (St.start hT (fun g hg => by cases hg)).raise (by omega) (by omega)
  go_enter Try.func108, Try.ntmps108
  go_wp2_with (first
    | ((refine no_implicit_lambda% (hdE ?_)); intro K hK; (first
      | ((with_reducible refine at_dst 2 ?_ ?_); (focus rfl); (refine no_implicit_lambda% (aB ?_)); (try clear hc ht hv); clear hS; intro b2 w hS hc ht hv)))
    | fail)
  go_loopw [5] (fun iv wr => ∃ i : Nat, i ≤ n3 ∧ iv = .int .i64 (i : Int) ∧ St ⟨c0, w0, none⟩ 0 T D c0 [(b2, 87, [.int .i64 me, .int .i64 vw, .bool lv, .int .i64 nx, .slice A1 n1 d1, .slice A2 n2 d2, .slice A3 n3 d3])] [] wr) (fun iv _ => n3 - (intOf iv).toNat)
  case atStart => exact ⟨0, Nat.zero_le _, rfl, hS⟩
  case round =>
    (try clear hc ht hv); clear hS
    obtain ⟨i, hi, rfl, hS⟩ := hrel
    by_cases hlti : i < n3
    · obtain ⟨g, off, rfl⟩ := g7.addr hlti
      obtain ⟨t, a0, a1, a2, a3, a4, a5, a6, u1⟩ := hT.claimAt g7 hlti
      (try clear hc ht hv); (refine no_implicit_lambda% (fct ?_)); intro hc ht hv; (refine no_implicit_lambda% (fx0c49e ?_)); intro e0 e1 e2 e3 e4 e5 e6
      go_wp2_with (first
    | ((refine no_implicit_lambda% (hdE ?_)); intro K hK; (first
      | ((with_reducible refine at_dst 2 ?_ ?_); (focus rfl); (refine no_implicit_lambda% (aB ?_)); (try clear hc ht hv); (try clear e0 e1 e2 e3 e4 e5 e6); clear hS; intro b2 w hS hc ht hv; (refine no_implicit_lambda% (fx0c49e ?_)); intro e0 e1 e2 e3 e4 e5 e6)))
    | fail)
      all_goals first
        | (go_ret; exact ⟨_, rfl, hS.fin.2.2⟩)
        | (go_roundw
           case rel => exact ⟨i + 1, by omega, by go_num, hS⟩
           case measure => simp [intOf]; omega)
    · obtain rfl : i = n3 := by omega
      (try clear hc ht hv); (refine no_implicit_lambda% (fct ?_)); intro hc ht hv
      go_wp2_with (first
    | ((refine no_implicit_lambda% (hdE ?_)); intro K hK; (first
      | ((with_reducible refine at_dst 2 ?_ ?_); (focus rfl); (refine no_implicit_lambda% (aB ?_)); (try clear hc ht hv); clear hS; intro b2 w hS hc ht hv)))
    | fail)
      all_goals (go_ret; exact ⟨_, rfl, hS.fin.2.2⟩)
def PTook (w0 : World) (e : Ending) (w' : World) : Prop := ∃ (t : ReqV) (b : Bool), e = .returned (.tuple #[.agg #[.int .i64 t.1, .int .i64 t.2.1, .int .i64 t.2.2.1, .int .i64 t.2.2.2.1, .int .i64 t.2.2.2.2], .bool b]) ∧ Below w0.heap.size w0 w'
set_option maxRecDepth 100000 in
set_option maxHeartbeats 4000000 in
theorem l5Took_t (hT : TW T D c0 w0) (hr : TyE T D c0 tR rs) :
    Calls Try.prog 99 #[.agg rs.toArray, .int .i64 view, .int .i64 seq] w0 fun e w' => PTook w0 e w' := by
  obtain ⟨me, vw, lv, nx, A1, n1, d1, A2, n2, d2, A3, n3, d3, rfl, g1, g2, g3, g4, g5, g6, g7, g8⟩ := hr.rep
  have hcap := g3.cap
  unfold maxLen at hcap
  have hS : St ⟨c0, w0, none⟩ 0 (T) (D) c0 [] [] w0 := (St.start hT (fun g hg => by cases hg)).raise (by omega) (by omega)
  go_enter Try.func99, Try.ntmps99
  go_wp2_with (first
    | ((refine no_implicit_lambda% (hdE ?_)); intro K hK; (first
      | ((with_reducible refine at_dst 3 ?_ ?_); (focus rfl); (refine no_implicit_lambda% (aB ?_)); (try clear hc ht hv); clear hS; intro b3 w hS hc ht hv)
      | ((with_reducible refine at_dst 6 ?_ ?_); (focus rfl); (refine no_implicit_lambda% (alzQ ?_)); (try clear hc ht hv); clear hS; intro b6 w hS hc ht hv)
      | ((refine no_implicit_lambda% (sazQ ?_)); (try clear hc ht hv); clear hS; intro w hS hc ht hv)))
    | fail)
  go_loopw [8] (fun iv wr => ∃ i : Nat, i ≤ n1 ∧ iv = .int .i64 (i : Int) ∧ St ⟨c0, w0, none⟩ 0 T D c0 [(b6, 25, [.int .i64 0, .int .i64 0, .int .i64 0, .int .i64 0, .int .i64 0]), (b3, 87, [.int .i64 me, .int .i64 vw, .bool lv, .int .i64 nx, .slice A1 n1 d1, .slice A2 n2 d2, .slice A3 n3 d3])] [] wr) (fun iv _ => n1 - (intOf iv).toNat)
  case atStart => exact ⟨0, Nat.zero_le _, rfl, hS⟩
  case round =>
    (try clear hc ht hv); clear hS
    obtain ⟨i, hi, rfl, hS⟩ := hrel
    by_cases hlti : i < n1
    · obtain ⟨g, off, rfl⟩ := g3.addr hlti
      obtain ⟨t, a0, a1, a2, a3, a4, a5, a6, u1⟩ := hT.claimAt g3 hlti
      cases f1 : (t.2.1 == view) <;> cases f2 : (t.1 == seq)
      all_goals
        (try clear hc ht hv); (refine no_implicit_lambda% (fct ?_)); intro hc ht hv; (refine no_implicit_lambda% (fx0c49e ?_)); intro e0 e1 e2 e3 e4 e5 e6
        go_wp2_with (first
    | ((refine no_implicit_lambda% (hdE ?_)); intro K hK; (first
      | ((with_reducible refine at_dst 3 ?_ ?_); (focus rfl); (refine no_implicit_lambda% (aB ?_)); (try clear hc ht hv); (try clear e0 e1 e2 e3 e4 e5 e6); clear hS; intro b3 w hS hc ht hv; (refine no_implicit_lambda% (fx0c49e ?_)); intro e0 e1 e2 e3 e4 e5 e6)
      | ((with_reducible refine at_dst 6 ?_ ?_); (focus rfl); (refine no_implicit_lambda% (alzQ ?_)); (try clear hc ht hv); (try clear e0 e1 e2 e3 e4 e5 e6); clear hS; intro b6 w hS hc ht hv; (refine no_implicit_lambda% (fx0c49e ?_)); intro e0 e1 e2 e3 e4 e5 e6)
      | ((refine no_implicit_lambda% (sazQ ?_)); (try clear hc ht hv); (try clear e0 e1 e2 e3 e4 e5 e6); clear hS; intro w hS hc ht hv; (refine no_implicit_lambda% (fx0c49e ?_)); intro e0 e1 e2 e3 e4 e5 e6)))
    | fail)
        all_goals first
          | ((try simp only [Exit.inBlock, Exit.then]); exact bodyPost_ret (by simp [results, Try.results99, go_sem, hc]; rfl) rfl ⟨t.2.2, _, rfl, hS.fin.2.2⟩)
          | (go_roundw
             case rel => exact ⟨i + 1, by omega, by go_num, hS⟩
             case measure => simp [intOf]; omega)
    · obtain rfl : i = n1 := by omega
      (try clear hc ht hv); (refine no_implicit_lambda% (fct ?_)); intro hc ht hv
      go_wp2_with (first
    | ((refine no_implicit_lambda% (hdE ?_)); intro K hK; (first
      | ((with_reducible refine at_dst 3 ?_ ?_); (focus rfl); (refine no_implicit_lambda% (aB ?_)); (try clear hc ht hv); clear hS; intro b3 w hS hc ht hv)
      | ((with_reducible refine at_dst 6 ?_ ?_); (focus rfl); (refine no_implicit_lambda% (alzQ ?_)); (try clear hc ht hv); clear hS; intro b6 w hS hc ht hv)
      | ((refine no_implicit_lambda% (sazQ ?_)); (try clear hc ht hv); clear hS; intro w hS hc ht hv)))
    | fail)
      all_goals ((try simp only [Exit.inBlock, Exit.then]); exact bodyPost_ret (by simp [results, Try.results99, go_sem, hc]; rfl) rfl ⟨(0, 0, 0, 0, 0), _, rfl, hS.fin.2.2⟩)
set_option maxRecDepth 100000 in
set_option maxHeartbeats 4000000 in
theorem l5Note_t (hT : TW T D c0 w0) (hr : TyE T D c0 tR rs) (hm : TyE T D c0 tM us) :
    Calls Try.prog 89 #[.agg rs.toArray, .agg us.toArray] w0 fun e w' => PRep T D c0 w0 e w' := by
  obtain ⟨me, vw, lv, nx, A1, n1, d1, A2, n2, d2, A3, n3, d3, rfl, g1, g2, g3, g4, g5, g6, g7, g8⟩ := hr.rep
  obtain ⟨kd, fr, mv, sq, mr, B1, p1, q1, B2, p2, q2, rfl, m1, m2, m3, m4, m5⟩ := hm.msg
  by_cases hn : n2 < 120
  · have d1 : decide ((120 : Int) ≤ (n2 : Int)) = false := by simp; omega
    have hS : St ⟨c0, w0, none⟩ 0 (T) (D) c0 [] [] w0 := (St.start hT (fun g hg => by cases hg)).raise (by omega) (by omega)
    go_enter Try.func89, Try.ntmps89
    go_wp2_with (first
    | ((refine no_implicit_lambda% (hdE ?_)); intro K hK; (first
      | ((with_reducible refine at_dst 2 ?_ ?_); (focus rfl); (refine no_implicit_lambda% (aB ?_)); (try clear hc ht hv); clear hS; intro b2 w hS hc ht hv)
      | ((with_reducible refine at_dst 3 ?_ ?_); (focus rfl); (refine no_implicit_lambda% (aB ?_)); (try clear hc ht hv); clear hS; intro b3 w hS hc ht hv)
      | ((with_reducible refine at_dst 4 ?_ ?_); (focus rfl); (refine no_implicit_lambda% (alzR ?_)); (try clear hc ht hv); clear hS; intro b4 w hS hc ht hv)
      | ((with_reducible refine at_dst 16 ?_ ?_); (focus rfl); ((refine no_implicit_lambda% (r0zMnoP ?_)); (try clear hc ht hv); clear hS; intro c b w hS hx; (try replace hus := hus.mono hx.le); (try clear hx); intro hc ht hv))
      | ((with_reducible refine at_dst 22 ?_ ?_); (focus rfl); ((refine no_implicit_lambda% (r1zMnoP ?_)); (try clear hc ht hv); clear hS; intro c b w hS hx; (try replace hus := hus.mono hx.le); (try clear hx); intro hc ht hv))
      | ((with_reducible refine at_dst 19 ?_ ?_); (focus rfl); ((refine no_implicit_lambda% (apzM ?_)); (try clear hc ht hv); clear hS; intro c A19 d19 w hS hx; (try replace hus := hus.mono hx.le); (try clear hx); intro hc ht hv))
      | ((with_reducible refine at_dst 23 ?_ ?_); (focus rfl); ((refine no_implicit_lambda% (apzM ?_)); (try clear hc ht hv); clear hS; intro c A23 d23 w hS hx; (try replace hus := hus.mono hx.le); (try clear hx); intro hc ht hv))
      | ((refine no_implicit_lambda% (sazR ?_)); (try clear hc ht hv); clear hS; intro w hS hc ht hv)
      | ((refine no_implicit_lambda% (stS ?_)); (try clear hc ht hv); clear hS; intro w hS hc ht hv)))
    | (go_at_call 77; refine (l3Has_t hS.tw slA tyA).mono ?_; rintro e w ⟨bq, rfl, hb⟩; replace hS := hS.past hb; clear hb; (try clear hc ht hv); (try dsimp only); (refine no_implicit_lambda% (fct ?_)); intro hc ht hv; cases bq)
    | (go_at_call 66; refine (l3Copy_t hS.tw tyA).mono ?_; rintro e w ⟨c, us, rfl, hus, hx, hT', hb, hbare⟩; replace hS := hS.below hx hT' (by omega) (by omega) hb; clear hx hT' hb; (try clear hc ht hv); (obtain ⟨_, _, _, _, _, _, _, _, _, _, _, rfl, _, _, _, _, _⟩ := hus.msg); (try dsimp only); (refine no_implicit_lambda% (fct ?_)); intro hc ht hv)
    | ((refine no_implicit_lambda% (rgspecl5Note3 ?_)); (try clear hc ht hv); clear hS; intro hS hc ht hv)
    | ((with_reducible refine wpOF_both ?_ ?_) <;> (refine no_implicit_lambda% (pk_ ?_))) | ((with_reducible refine wpOF_three ?_ ?_ ?_) <;> (refine no_implicit_lambda% (pk_ ?_))) | ((with_reducible refine MS.and_ ?_ ?_); (focus (exact msA)); intro hM) | (refine no_implicit_lambda% (ofS ?_)) | ((refine no_implicit_lambda% (ofK ?_)); intro K hK) | (refine no_implicit_lambda% (ofL ?_)) | ((refine no_implicit_lambda% (ofM ?_)); intro K hK) | ((refine no_implicit_lambda% (ofX ?_)); intro K hK) | (refine no_implicit_lambda% (ofN ?_)) | ((with_reducible apply wpT_split); (focus rfl); (focus rfl); (focus rfl); all_goals (intro hxx; simp only [hxx]))
    | fail)
    all_goals ((try simp only [Exit.inBlock, Exit.then]); refine bodyPost_ret (by simp [results, Try.results89, go_sem, hc]; rfl) rfl (PRep.mk (by rfl) (hS.ty 0 rfl) hS.fin))
  · have d1 : decide ((120 : Int) ≤ (n2 : Int)) = true := by simp; omega
    have hS : St ⟨c0, w0, none⟩ 0 (T) (D) c0 [] [] w0 := (St.start hT (fun g hg => by cases hg)).raise (by omega) (by omega)
    go_enter Try.func89, Try.ntmps89
    go_wp2_with (first
    | ((refine no_implicit_lambda% (hdE ?_)); intro K hK; (first
      | ((with_reducible refine at_dst 2 ?_ ?_); (focus rfl); (refine no_implicit_lambda% (aB ?_)); (try clear hc ht hv); clear hS; intro b2 w hS hc ht hv)
      | ((with_reducible refine at_dst 3 ?_ ?_); (focus rfl); (refine no_implicit_lambda% (aB ?_)); (try clear hc ht hv); clear hS; intro b3 w hS hc ht hv)
      | ((with_reducible refine at_dst 4 ?_ ?_); (focus rfl); (refine no_implicit_lambda% (alzR ?_)); (try clear hc ht hv); clear hS; intro b4 w hS hc ht hv)
      | ((with_reducible refine at_dst 16 ?_ ?_); (focus rfl); ((refine no_implicit_lambda% (r0zMnoP ?_)); (try clear hc ht hv); clear hS; intro c b w hS hx; (try replace hus := hus.mono hx.le); (try clear hx); intro hc ht hv))
      | ((with_reducible refine at_dst 22 ?_ ?_); (focus rfl); ((refine no_implicit_lambda% (r1zMnoP ?_)); (try clear hc ht hv); clear hS; intro c b w hS hx; (try replace hus := hus.mono hx.le); (try clear hx); intro hc ht hv))
      | ((with_reducible refine at_dst 19 ?_ ?_); (focus rfl); ((refine no_implicit_lambda% (apzM ?_)); (try clear hc ht hv); clear hS; intro c A19 d19 w hS hx; (try replace hus := hus.mono hx.le); (try clear hx); intro hc ht hv))
      | ((with_reducible refine at_dst 23 ?_ ?_); (focus rfl); ((refine no_implicit_lambda% (apzM ?_)); (try clear hc ht hv); clear hS; intro c A23 d23 w hS hx; (try replace hus := hus.mono hx.le); (try clear hx); intro hc ht hv))
      | ((refine no_implicit_lambda% (sazR ?_)); (try clear hc ht hv); clear hS; intro w hS hc ht hv)
      | ((refine no_implicit_lambda% (stS ?_)); (try clear hc ht hv); clear hS; intro w hS hc ht hv)))
    | (go_at_call 77; refine (l3Has_t hS.tw slA tyA).mono ?_; rintro e w ⟨bq, rfl, hb⟩; replace hS := hS.past hb; clear hb; (try clear hc ht hv); (try dsimp only); (refine no_implicit_lambda% (fct ?_)); intro hc ht hv; cases bq)
    | (go_at_call 66; refine (l3Copy_t hS.tw tyA).mono ?_; rintro e w ⟨c, us, rfl, hus, hx, hT', hb, hbare⟩; replace hS := hS.below hx hT' (by omega) (by omega) hb; clear hx hT' hb; (try clear hc ht hv); (obtain ⟨_, _, _, _, _, _, _, _, _, _, _, rfl, _, _, _, _, _⟩ := hus.msg); (try dsimp only); (refine no_implicit_lambda% (fct ?_)); intro hc ht hv)
    | ((refine no_implicit_lambda% (rgspecl5Note3 ?_)); (try clear hc ht hv); clear hS; intro hS hc ht hv)
    | ((with_reducible refine wpOF_both ?_ ?_) <;> (refine no_implicit_lambda% (pk_ ?_))) | ((with_reducible refine wpOF_three ?_ ?_ ?_) <;> (refine no_implicit_lambda% (pk_ ?_))) | ((with_reducible refine MS.and_ ?_ ?_); (focus (exact msA)); intro hM) | (refine no_implicit_lambda% (ofS ?_)) | ((refine no_implicit_lambda% (ofK ?_)); intro K hK) | (refine no_implicit_lambda% (ofL ?_)) | ((refine no_implicit_lambda% (ofM ?_)); intro K hK) | ((refine no_implicit_lambda% (ofX ?_)); intro K hK) | (refine no_implicit_lambda% (ofN ?_)) | ((with_reducible apply wpT_split); (focus rfl); (focus rfl); (focus rfl); all_goals (intro hxx; simp only [hxx]))
    | fail)
    all_goals ((try simp only [Exit.inBlock, Exit.then]); refine bodyPost_ret (by simp [results, Try.results89, go_sem, hc]; rfl) rfl (PRep.mk (by rfl) (hS.ty 0 rfl) hS.fin))
end
end Go.Proofs.Ytopmbnnjhoinkaa
