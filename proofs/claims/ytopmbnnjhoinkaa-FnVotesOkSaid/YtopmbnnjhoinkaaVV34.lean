/-
  What 'FVd' rests on (texts of this seat put together: TXv).
  Conditions: none.
-/
import Derived.Test.YtopmbnnjhoinkaaVV30
namespace Go.Proofs.Ytopmbnnjhoinkaa
open Go Go.RowKit Rg
set_option linter.unusedVariables false
set_option linter.unusedSimpArgs false
set_option maxHeartbeats 1000000
section
variable {T D : Nat} {c0 : Cx} {w0 : World} {rs cs us vs : List Value} {A : Option Addr} {n d : Nat} {view : Int}
set_option maxRecDepth 100000 in
set_option maxHeartbeats 40000000 in
theorem l5Votes_t (hT : TW T D c0 w0) (hr : TyE T D c0 tR rs) (hs : SlV c0 34 (.slice A n d)) :
    Calls Try.prog 103 #[.agg rs.toArray, .int .i64 view, .slice A n d] w0 fun e w' => PSl 42 noP 3 T D c0 w0 e w' := by
  obtain ⟨me, vw, lv, nx, A1, n1, d1, A2, n2, d2, A3, n3, d3, rfl, g1, g2, g3, g4, g5, g6, g7, g8⟩ := hr.rep
  have hcap := g5.cap
  unfold maxLen at hcap
  have hS : St ⟨c0, w0, none⟩ 0 (T) (D) c0 [] [] w0 := (St.start hT (fun g hg => by cases hg)).raise (by omega) (by omega)
  go_enter Try.func103, Try.ntmps103
  go_wp2_with (first
    | ((refine no_implicit_lambda% (hdE ?_)); intro K hK; (first
      | ((with_reducible refine at_dst 3 ?_ ?_); (focus rfl); (refine no_implicit_lambda% (aB ?_)); (try clear hc ht hv); clear hS; intro b3 w hS hc ht hv)
      | ((with_reducible refine at_dst 11 ?_ ?_); (focus rfl); (refine no_implicit_lambda% (alzM ?_)); (try clear hc ht hv); clear hS; intro b11 w hS hc ht hv)
      | ((with_reducible refine at_dst 12 ?_ ?_); (focus rfl); (refine no_implicit_lambda% (alzV ?_)); (try clear hc ht hv); clear hS; intro b12 w hS hc ht hv)
      | ((with_reducible refine at_dst 13 ?_ ?_); (focus rfl); ((refine no_implicit_lambda% (r0zVnoP ?_)); (try clear hc ht hv); clear hS; intro c b w hS hx; (try clear hx); intro hc ht hv))
      | ((with_reducible refine at_dst 41 ?_ ?_); (focus rfl); ((refine no_implicit_lambda% (r0zCnoP ?_)); (try clear hc ht hv); clear hS; intro c b w hS hx; (try clear hx); intro hc ht hv))
      | ((with_reducible refine at_dst 69 ?_ ?_); (focus rfl); ((refine no_implicit_lambda% (r1zVnoP ?_)); (try clear hc ht hv); clear hS; intro c b w hS hx; (try clear hx); intro hc ht hv))
      | ((with_reducible refine at_dst 44 ?_ ?_); (focus rfl); ((refine no_implicit_lambda% (apzC ?_)); (try clear hc ht hv); clear hS; intro c A44 d44 w hS hx; (try clear hx); intro hc ht hv))
      | ((with_reducible refine at_dst 70 ?_ ?_); (focus rfl); ((refine no_implicit_lambda% (apzV ?_)); (try clear hc ht hv); clear hS; intro c A70 d70 w hS hx; (try clear hx); intro hc ht hv))
      | ((refine no_implicit_lambda% (sazM ?_)); (try clear hc ht hv); clear hS; intro w hS hc ht hv)
      | ((refine no_implicit_lambda% (sazV ?_)); (try clear hc ht hv); clear hS; intro w hS hc ht hv)))
    | (go_at_call 60; refine (l4Turn_t hS.tw slA tyA).mono ?_; rintro e w ⟨bq, rfl, hb⟩; replace hS := hS.past hb; clear hb; (try clear hc ht hv); (try dsimp only); (refine no_implicit_lambda% (fct ?_)); intro hc ht hv; cases bq)
    | ((refine no_implicit_lambda% (rgspecl5Votes10E45 ?_)); (try clear hc ht hv); clear hS; intro hS hc ht hv)
    | ((with_reducible refine wpOF_both ?_ ?_) <;> (refine no_implicit_lambda% (pk_ ?_))) | ((with_reducible refine wpOF_three ?_ ?_ ?_) <;> (refine no_implicit_lambda% (pk_ ?_))) | ((with_reducible refine MS.and_ ?_ ?_); (focus (exact msA)); intro hM) | (refine no_implicit_lambda% (ofS ?_)) | ((refine no_implicit_lambda% (ofK ?_)); intro K hK) | (refine no_implicit_lambda% (ofL ?_)) | ((refine no_implicit_lambda% (ofM ?_)); intro K hK) | ((refine no_implicit_lambda% (ofX ?_)); intro K hK) | (refine no_implicit_lambda% (ofN ?_)) | ((with_reducible apply wpT_split); (focus rfl); (focus rfl); (focus rfl); all_goals (intro hxx; simp only [hxx]))
    | fail)
  go_loopw [7, 8, 9, 10] (fun sv kv _ _ wr => ∃ (kk m : Nat) (c : Cx) (A : Option Addr) (d : Nat), kk ≤ 4 ∧ m ≤ 3 ∧ kv = .int .i64 (kk : Int) ∧ sv = .slice A m d ∧ St ⟨c0, w0, none⟩ 0 T D c [(b3, 87, [.int .i64 me, .int .i64 vw, .bool lv, .int .i64 nx, .slice A1 n1 d1, .slice A2 n2 d2, .slice A3 n3 d3])] [(42, noP, .slice A m d)] wr) (fun _ kv _ _ _ => 4 - (intOf kv).toNat)
  case atStart => exact ⟨0, 0, c, _, _, by omega, by omega, rfl, rfl, hS⟩
  case round =>
    (try clear hc ht hv); clear hS
    obtain ⟨kk, m, c, A', d', hk4, hm3, rfl, rfl, hS⟩ := hrel
    by_cases hlt : kk < 4
    · (try clear hc ht hv); (refine no_implicit_lambda% (fct ?_)); intro hc ht hv
      go_wp2_with (first
    | ((refine no_implicit_lambda% (hdE ?_)); intro K hK; (first
      | ((with_reducible refine at_dst 3 ?_ ?_); (focus rfl); (refine no_implicit_lambda% (aB ?_)); (try clear hc ht hv); clear hS; intro b3 w hS hc ht hv)
      | ((with_reducible refine at_dst 11 ?_ ?_); (focus rfl); (refine no_implicit_lambda% (alzM ?_)); (try clear hc ht hv); clear hS; intro b11 w hS hc ht hv)
      | ((with_reducible refine at_dst 12 ?_ ?_); (focus rfl); (refine no_implicit_lambda% (alzV ?_)); (try clear hc ht hv); clear hS; intro b12 w hS hc ht hv)
      | ((with_reducible refine at_dst 13 ?_ ?_); (focus rfl); ((refine no_implicit_lambda% (r0zVnoP ?_)); (try clear hc ht hv); clear hS; intro c b w hS hx; (try clear hx); intro hc ht hv))
      | ((with_reducible refine at_dst 41 ?_ ?_); (focus rfl); ((refine no_implicit_lambda% (r0zCnoP ?_)); (try clear hc ht hv); clear hS; intro c b w hS hx; (try clear hx); intro hc ht hv))
      | ((with_reducible refine at_dst 69 ?_ ?_); (focus rfl); ((refine no_implicit_lambda% (r1zVnoP ?_)); (try clear hc ht hv); clear hS; intro c b w hS hx; (try clear hx); intro hc ht hv))
      | ((with_reducible refine at_dst 44 ?_ ?_); (focus rfl); ((refine no_implicit_lambda% (apzC ?_)); (try clear hc ht hv); clear hS; intro c A44 d44 w hS hx; (try clear hx); intro hc ht hv))
      | ((with_reducible refine at_dst 70 ?_ ?_); (focus rfl); ((refine no_implicit_lambda% (apzV ?_)); (try clear hc ht hv); clear hS; intro c A70 d70 w hS hx; (try clear hx); intro hc ht hv))
      | ((refine no_implicit_lambda% (sazM ?_)); (try clear hc ht hv); clear hS; intro w hS hc ht hv)
      | ((refine no_implicit_lambda% (sazV ?_)); (try clear hc ht hv); clear hS; intro w hS hc ht hv)))
    | (go_at_call 60; refine (l4Turn_t hS.tw slA tyA).mono ?_; rintro e w ⟨bq, rfl, hb⟩; replace hS := hS.past hb; clear hb; (try clear hc ht hv); (try dsimp only); (refine no_implicit_lambda% (fct ?_)); intro hc ht hv; cases bq)
    | ((refine no_implicit_lambda% (rgspecl5Votes10E45 ?_)); (try clear hc ht hv); clear hS; intro hS hc ht hv)
    | ((with_reducible refine wpOF_both ?_ ?_) <;> (refine no_implicit_lambda% (pk_ ?_))) | ((with_reducible refine wpOF_three ?_ ?_ ?_) <;> (refine no_implicit_lambda% (pk_ ?_))) | ((with_reducible refine MS.and_ ?_ ?_); (focus (exact msA)); intro hM) | (refine no_implicit_lambda% (ofS ?_)) | ((refine no_implicit_lambda% (ofK ?_)); intro K hK) | (refine no_implicit_lambda% (ofL ?_)) | ((refine no_implicit_lambda% (ofM ?_)); intro K hK) | ((refine no_implicit_lambda% (ofX ?_)); intro K hK) | (refine no_implicit_lambda% (ofN ?_)) | ((with_reducible apply wpT_split); (focus rfl); (focus rfl); (focus rfl); all_goals (intro hxx; simp only [hxx]))
    | fail)
      go_loopw [7, 9, 10] (fun sv fv iv ws => ∃ (i m : Nat) (c : Cx) (A : Option Addr) (d : Nat) (fd : Bool), i ≤ n2 ∧ m ≤ 3 ∧ iv = .int .i64 (i : Int) ∧ sv = .slice A m d ∧ fv = .bool fd ∧ St ⟨c0, w0, none⟩ 0 T D c [(b3, 87, [.int .i64 me, .int .i64 vw, .bool lv, .int .i64 nx, .slice A1 n1 d1, .slice A2 n2 d2, .slice A3 n3 d3])] [(42, noP, .slice A m d)] ws) (fun _ _ iv _ => n2 - (intOf iv).toNat)
      case atStart => exact ⟨0, m, c, _, _, false, Nat.zero_le _, hm3, rfl, rfl, rfl, hS⟩
      case round =>
        (try clear hc ht hv); clear hS
        clear hm3
        obtain ⟨i, m, c, A', d', fd, hi, hm3, rfl, rfl, rfl, hS⟩ := hrel
        by_cases hlti : i < n2
        · obtain ⟨g, off, rfl⟩ := g5.addr hlti
          obtain ⟨kd, fr, mv, sq, mr, Ac, nc, dc, Av, nv, dv, a0, a1, a2, a3, a4, a5, a6, a7, a8, a9, a10, u1, u2, u3, u4, u5⟩ := hT.msgAt g5 hlti
          cases fd <;> by_cases hm : m < 3
          · cases f1 : (kd == 5) <;> cases f2 : (mv == view) <;> cases f3 : (fr == (kk : Int))
            all_goals
              (try clear hc ht hv); (refine no_implicit_lambda% (fct ?_)); intro hc ht hv; (refine no_implicit_lambda% (fx2eb15 ?_)); intro e0 e1 e2 e3 e4 e5 e6 e7 e8 e9 e10 e12 e14
              go_wp2_with (first
    | ((refine no_implicit_lambda% (hdE ?_)); intro K hK; (first
      | ((with_reducible refine at_dst 3 ?_ ?_); (focus rfl); (refine no_implicit_lambda% (aB ?_)); (try clear hc ht hv); (try clear e0 e1 e2 e3 e4 e5 e6 e7 e8 e9 e10 e12 e14); clear hS; intro b3 w hS hc ht hv; (refine no_implicit_lambda% (fx2eb15 ?_)); intro e0 e1 e2 e3 e4 e5 e6 e7 e8 e9 e10 e12 e14)
      | ((with_reducible refine at_dst 11 ?_ ?_); (focus rfl); (refine no_implicit_lambda% (alzM ?_)); (try clear hc ht hv); (try clear e0 e1 e2 e3 e4 e5 e6 e7 e8 e9 e10 e12 e14); clear hS; intro b11 w hS hc ht hv; (refine no_implicit_lambda% (fx2eb15 ?_)); intro e0 e1 e2 e3 e4 e5 e6 e7 e8 e9 e10 e12 e14)
      | ((with_reducible refine at_dst 12 ?_ ?_); (focus rfl); (refine no_implicit_lambda% (alzV ?_)); (try clear hc ht hv); (try clear e0 e1 e2 e3 e4 e5 e6 e7 e8 e9 e10 e12 e14); clear hS; intro b12 w hS hc ht hv; (refine no_implicit_lambda% (fx2eb15 ?_)); intro e0 e1 e2 e3 e4 e5 e6 e7 e8 e9 e10 e12 e14)
      | ((with_reducible refine at_dst 13 ?_ ?_); (focus rfl); ((refine no_implicit_lambda% (r0zVnoP ?_)); (try clear hc ht hv); (try clear e0 e1 e2 e3 e4 e5 e6 e7 e8 e9 e10 e12 e14); clear hS; intro c b w hS hx; (try clear hx); intro hc ht hv; (refine no_implicit_lambda% (fx2eb15 ?_)); intro e0 e1 e2 e3 e4 e5 e6 e7 e8 e9 e10 e12 e14))
      | ((with_reducible refine at_dst 41 ?_ ?_); (focus rfl); ((refine no_implicit_lambda% (r0zCnoP ?_)); (try clear hc ht hv); (try clear e0 e1 e2 e3 e4 e5 e6 e7 e8 e9 e10 e12 e14); clear hS; intro c b w hS hx; (try clear hx); intro hc ht hv; (refine no_implicit_lambda% (fx2eb15 ?_)); intro e0 e1 e2 e3 e4 e5 e6 e7 e8 e9 e10 e12 e14))
      | ((with_reducible refine at_dst 69 ?_ ?_); (focus rfl); ((refine no_implicit_lambda% (r1zVnoP ?_)); (try clear hc ht hv); (try clear e0 e1 e2 e3 e4 e5 e6 e7 e8 e9 e10 e12 e14); clear hS; intro c b w hS hx; (try clear hx); intro hc ht hv; (refine no_implicit_lambda% (fx2eb15 ?_)); intro e0 e1 e2 e3 e4 e5 e6 e7 e8 e9 e10 e12 e14))
      | ((with_reducible refine at_dst 44 ?_ ?_); (focus rfl); ((refine no_implicit_lambda% (apzC ?_)); (try clear hc ht hv); (try clear e0 e1 e2 e3 e4 e5 e6 e7 e8 e9 e10 e12 e14); clear hS; intro c A44 d44 w hS hx; (try clear hx); intro hc ht hv; (refine no_implicit_lambda% (fx2eb15 ?_)); intro e0 e1 e2 e3 e4 e5 e6 e7 e8 e9 e10 e12 e14))
      | ((with_reducible refine at_dst 70 ?_ ?_); (focus rfl); ((refine no_implicit_lambda% (apzV ?_)); (try clear hc ht hv); (try clear e0 e1 e2 e3 e4 e5 e6 e7 e8 e9 e10 e12 e14); clear hS; intro c A70 d70 w hS hx; (try clear hx); intro hc ht hv; (refine no_implicit_lambda% (fx2eb15 ?_)); intro e0 e1 e2 e3 e4 e5 e6 e7 e8 e9 e10 e12 e14))
      | ((refine no_implicit_lambda% (sazM ?_)); (try clear hc ht hv); (try clear e0 e1 e2 e3 e4 e5 e6 e7 e8 e9 e10 e12 e14); clear hS; intro w hS hc ht hv; (refine no_implicit_lambda% (fx2eb15 ?_)); intro e0 e1 e2 e3 e4 e5 e6 e7 e8 e9 e10 e12 e14)
      | ((refine no_implicit_lambda% (sazV ?_)); (try clear hc ht hv); (try clear e0 e1 e2 e3 e4 e5 e6 e7 e8 e9 e10 e12 e14); clear hS; intro w hS hc ht hv; (refine no_implicit_lambda% (fx2eb15 ?_)); intro e0 e1 e2 e3 e4 e5 e6 e7 e8 e9 e10 e12 e14)))
    | (go_at_call 60; refine (l4Turn_t hS.tw slA tyA).mono ?_; rintro e w ⟨bq, rfl, hb⟩; replace hS := hS.past hb; clear hb; (try clear hc ht hv); (try clear e0 e1 e2 e3 e4 e5 e6 e7 e8 e9 e10 e12 e14); (try dsimp only); (refine no_implicit_lambda% (fct ?_)); intro hc ht hv; (refine no_implicit_lambda% (fx2eb15 ?_)); intro e0 e1 e2 e3 e4 e5 e6 e7 e8 e9 e10 e12 e14; cases bq)
    | ((refine no_implicit_lambda% (rgspecl5Votes10E45 ?_)); (try clear hc ht hv); (try clear e0 e1 e2 e3 e4 e5 e6 e7 e8 e9 e10 e12 e14); clear hS; intro hS hc ht hv; (refine no_implicit_lambda% (fx2eb15 ?_)); intro e0 e1 e2 e3 e4 e5 e6 e7 e8 e9 e10 e12 e14)
    | ((with_reducible refine wpOF_both ?_ ?_) <;> (refine no_implicit_lambda% (pk_ ?_))) | ((with_reducible refine wpOF_three ?_ ?_ ?_) <;> (refine no_implicit_lambda% (pk_ ?_))) | ((with_reducible refine MS.and_ ?_ ?_); (focus (exact msA)); intro hM) | (refine no_implicit_lambda% (ofS ?_)) | ((refine no_implicit_lambda% (ofK ?_)); intro K hK) | (refine no_implicit_lambda% (ofL ?_)) | ((refine no_implicit_lambda% (ofM ?_)); intro K hK) | ((refine no_implicit_lambda% (ofX ?_)); intro K hK) | (refine no_implicit_lambda% (ofN ?_)) | ((with_reducible apply wpT_split); (focus rfl); (focus rfl); (focus rfl); all_goals (intro hxx; simp only [hxx]))
    | fail)
              all_goals
                go_roundw
                case rel => first | exact ⟨i + 1, m, c, _, _, false, by omega, by omega, by go_num, rfl, rfl, hS.tailV⟩ | exact ⟨i + 1, m + 1, c, _, _, true, by omega, by omega, by go_num, rfl, rfl, hS.tailV.tailV⟩ | exact ⟨i + 1, m, c, _, _, false, by omega, by omega, by go_num, rfl, rfl, hS.tailL.tailL.tailV⟩ | exact ⟨i + 1, m + 1, c, _, _, true, by omega, by omega, by go_num, rfl, rfl, hS.tailL.tailL.tailV.tailV⟩
                case measure => simp [intOf]; omega
          all_goals
            (try clear hc ht hv); (refine no_implicit_lambda% (fct ?_)); intro hc ht hv; (refine no_implicit_lambda% (fx2eb15 ?_)); intro e0 e1 e2 e3 e4 e5 e6 e7 e8 e9 e10 e12 e14
            go_wp2_with (first
    | ((refine no_implicit_lambda% (hdE ?_)); intro K hK; (first
      | ((with_reducible refine at_dst 3 ?_ ?_); (focus rfl); (refine no_implicit_lambda% (aB ?_)); (try clear hc ht hv); (try clear e0 e1 e2 e3 e4 e5 e6 e7 e8 e9 e10 e12 e14); clear hS; intro b3 w hS hc ht hv; (refine no_implicit_lambda% (fx2eb15 ?_)); intro e0 e1 e2 e3 e4 e5 e6 e7 e8 e9 e10 e12 e14)
      | ((with_reducible refine at_dst 11 ?_ ?_); (focus rfl); (refine no_implicit_lambda% (alzM ?_)); (try clear hc ht hv); (try clear e0 e1 e2 e3 e4 e5 e6 e7 e8 e9 e10 e12 e14); clear hS; intro b11 w hS hc ht hv; (refine no_implicit_lambda% (fx2eb15 ?_)); intro e0 e1 e2 e3 e4 e5 e6 e7 e8 e9 e10 e12 e14)
      | ((with_reducible refine at_dst 12 ?_ ?_); (focus rfl); (refine no_implicit_lambda% (alzV ?_)); (try clear hc ht hv); (try clear e0 e1 e2 e3 e4 e5 e6 e7 e8 e9 e10 e12 e14); clear hS; intro b12 w hS hc ht hv; (refine no_implicit_lambda% (fx2eb15 ?_)); intro e0 e1 e2 e3 e4 e5 e6 e7 e8 e9 e10 e12 e14)
      | ((with_reducible refine at_dst 13 ?_ ?_); (focus rfl); ((refine no_implicit_lambda% (r0zVnoP ?_)); (try clear hc ht hv); (try clear e0 e1 e2 e3 e4 e5 e6 e7 e8 e9 e10 e12 e14); clear hS; intro c b w hS hx; (try clear hx); intro hc ht hv; (refine no_implicit_lambda% (fx2eb15 ?_)); intro e0 e1 e2 e3 e4 e5 e6 e7 e8 e9 e10 e12 e14))
      | ((with_reducible refine at_dst 41 ?_ ?_); (focus rfl); ((refine no_implicit_lambda% (r0zCnoP ?_)); (try clear hc ht hv); (try clear e0 e1 e2 e3 e4 e5 e6 e7 e8 e9 e10 e12 e14); clear hS; intro c b w hS hx; (try clear hx); intro hc ht hv; (refine no_implicit_lambda% (fx2eb15 ?_)); intro e0 e1 e2 e3 e4 e5 e6 e7 e8 e9 e10 e12 e14))
      | ((with_reducible refine at_dst 69 ?_ ?_); (focus rfl); ((refine no_implicit_lambda% (r1zVnoP ?_)); (try clear hc ht hv); (try clear e0 e1 e2 e3 e4 e5 e6 e7 e8 e9 e10 e12 e14); clear hS; intro c b w hS hx; (try clear hx); intro hc ht hv; (refine no_implicit_lambda% (fx2eb15 ?_)); intro e0 e1 e2 e3 e4 e5 e6 e7 e8 e9 e10 e12 e14))
      | ((with_reducible refine at_dst 44 ?_ ?_); (focus rfl); ((refine no_implicit_lambda% (apzC ?_)); (try clear hc ht hv); (try clear e0 e1 e2 e3 e4 e5 e6 e7 e8 e9 e10 e12 e14); clear hS; intro c A44 d44 w hS hx; (try clear hx); intro hc ht hv; (refine no_implicit_lambda% (fx2eb15 ?_)); intro e0 e1 e2 e3 e4 e5 e6 e7 e8 e9 e10 e12 e14))
      | ((with_reducible refine at_dst 70 ?_ ?_); (focus rfl); ((refine no_implicit_lambda% (apzV ?_)); (try clear hc ht hv); (try clear e0 e1 e2 e3 e4 e5 e6 e7 e8 e9 e10 e12 e14); clear hS; intro c A70 d70 w hS hx; (try clear hx); intro hc ht hv; (refine no_implicit_lambda% (fx2eb15 ?_)); intro e0 e1 e2 e3 e4 e5 e6 e7 e8 e9 e10 e12 e14))
      | ((refine no_implicit_lambda% (sazM ?_)); (try clear hc ht hv); (try clear e0 e1 e2 e3 e4 e5 e6 e7 e8 e9 e10 e12 e14); clear hS; intro w hS hc ht hv; (refine no_implicit_lambda% (fx2eb15 ?_)); intro e0 e1 e2 e3 e4 e5 e6 e7 e8 e9 e10 e12 e14)
      | ((refine no_implicit_lambda% (sazV ?_)); (try clear hc ht hv); (try clear e0 e1 e2 e3 e4 e5 e6 e7 e8 e9 e10 e12 e14); clear hS; intro w hS hc ht hv; (refine no_implicit_lambda% (fx2eb15 ?_)); intro e0 e1 e2 e3 e4 e5 e6 e7 e8 e9 e10 e12 e14)))
    | (go_at_call 60; refine (l4Turn_t hS.tw slA tyA).mono ?_; rintro e w ⟨bq, rfl, hb⟩; replace hS := hS.past hb; clear hb; (try clear hc ht hv); (try clear e0 e1 e2 e3 e4 e5 e6 e7 e8 e9 e10 e12 e14); (try dsimp only); (refine no_implicit_lambda% (fct ?_)); intro hc ht hv; (refine no_implicit_lambda% (fx2eb15 ?_)); intro e0 e1 e2 e3 e4 e5 e6 e7 e8 e9 e10 e12 e14; cases bq)
    | ((refine no_implicit_lambda% (rgspecl5Votes10E45 ?_)); (try clear hc ht hv); (try clear e0 e1 e2 e3 e4 e5 e6 e7 e8 e9 e10 e12 e14); clear hS; intro hS hc ht hv; (refine no_implicit_lambda% (fx2eb15 ?_)); intro e0 e1 e2 e3 e4 e5 e6 e7 e8 e9 e10 e12 e14)
    | ((with_reducible refine wpOF_both ?_ ?_) <;> (refine no_implicit_lambda% (pk_ ?_))) | ((with_reducible refine wpOF_three ?_ ?_ ?_) <;> (refine no_implicit_lambda% (pk_ ?_))) | ((with_reducible refine MS.and_ ?_ ?_); (focus (exact msA)); intro hM) | (refine no_implicit_lambda% (ofS ?_)) | ((refine no_implicit_lambda% (ofK ?_)); intro K hK) | (refine no_implicit_lambda% (ofL ?_)) | ((refine no_implicit_lambda% (ofM ?_)); intro K hK) | ((refine no_implicit_lambda% (ofX ?_)); intro K hK) | (refine no_implicit_lambda% (ofN ?_)) | ((with_reducible apply wpT_split); (focus rfl); (focus rfl); (focus rfl); all_goals (intro hxx; simp only [hxx]))
    | fail)
            all_goals
              go_roundw
              case rel => first | exact ⟨kk + 1, m, c, _, _, by omega, by omega, by go_num, rfl, hS⟩
              case measure => simp [intOf]; omega
        · obtain rfl : i = n2 := by omega
          have d0 : decide ((i : Int) < (i : Int)) = false := by simp
          cases fd
          all_goals
            (try clear hc ht hv); (refine no_implicit_lambda% (fct ?_)); intro hc ht hv
            go_wp2_with (first
    | ((refine no_implicit_lambda% (hdE ?_)); intro K hK; (first
      | ((with_reducible refine at_dst 3 ?_ ?_); (focus rfl); (refine no_implicit_lambda% (aB ?_)); (try clear hc ht hv); clear hS; intro b3 w hS hc ht hv)
      | ((with_reducible refine at_dst 11 ?_ ?_); (focus rfl); (refine no_implicit_lambda% (alzM ?_)); (try clear hc ht hv); clear hS; intro b11 w hS hc ht hv)
      | ((with_reducible refine at_dst 12 ?_ ?_); (focus rfl); (refine no_implicit_lambda% (alzV ?_)); (try clear hc ht hv); clear hS; intro b12 w hS hc ht hv)
      | ((with_reducible refine at_dst 13 ?_ ?_); (focus rfl); ((refine no_implicit_lambda% (r0zVnoP ?_)); (try clear hc ht hv); clear hS; intro c b w hS hx; (try clear hx); intro hc ht hv))
      | ((with_reducible refine at_dst 41 ?_ ?_); (focus rfl); ((refine no_implicit_lambda% (r0zCnoP ?_)); (try clear hc ht hv); clear hS; intro c b w hS hx; (try clear hx); intro hc ht hv))
      | ((with_reducible refine at_dst 69 ?_ ?_); (focus rfl); ((refine no_implicit_lambda% (r1zVnoP ?_)); (try clear hc ht hv); clear hS; intro c b w hS hx; (try clear hx); intro hc ht hv))
      | ((with_reducible refine at_dst 44 ?_ ?_); (focus rfl); ((refine no_implicit_lambda% (apzC ?_)); (try clear hc ht hv); clear hS; intro c A44 d44 w hS hx; (try clear hx); intro hc ht hv))
      | ((with_reducible refine at_dst 70 ?_ ?_); (focus rfl); ((refine no_implicit_lambda% (apzV ?_)); (try clear hc ht hv); clear hS; intro c A70 d70 w hS hx; (try clear hx); intro hc ht hv))
      | ((refine no_implicit_lambda% (sazM ?_)); (try clear hc ht hv); clear hS; intro w hS hc ht hv)
      | ((refine no_implicit_lambda% (sazV ?_)); (try clear hc ht hv); clear hS; intro w hS hc ht hv)))
    | (go_at_call 60; refine (l4Turn_t hS.tw slA tyA).mono ?_; rintro e w ⟨bq, rfl, hb⟩; replace hS := hS.past hb; clear hb; (try clear hc ht hv); (try dsimp only); (refine no_implicit_lambda% (fct ?_)); intro hc ht hv; cases bq)
    | ((refine no_implicit_lambda% (rgspecl5Votes10E45 ?_)); (try clear hc ht hv); clear hS; intro hS hc ht hv)
    | ((with_reducible refine wpOF_both ?_ ?_) <;> (refine no_implicit_lambda% (pk_ ?_))) | ((with_reducible refine wpOF_three ?_ ?_ ?_) <;> (refine no_implicit_lambda% (pk_ ?_))) | ((with_reducible refine MS.and_ ?_ ?_); (focus (exact msA)); intro hM) | (refine no_implicit_lambda% (ofS ?_)) | ((refine no_implicit_lambda% (ofK ?_)); intro K hK) | (refine no_implicit_lambda% (ofL ?_)) | ((refine no_implicit_lambda% (ofM ?_)); intro K hK) | ((refine no_implicit_lambda% (ofX ?_)); intro K hK) | (refine no_implicit_lambda% (ofN ?_)) | ((with_reducible apply wpT_split); (focus rfl); (focus rfl); (focus rfl); all_goals (intro hxx; simp only [hxx]))
    | fail)
            all_goals
              go_roundw
              case rel => first | exact ⟨kk + 1, m, c, _, _, by omega, by omega, by go_num, rfl, hS⟩
              case measure => simp [intOf]; omega
    · obtain rfl : kk = 4 := by omega
      (try clear hc ht hv); (refine no_implicit_lambda% (fct ?_)); intro hc ht hv
      go_wp2_with (first
    | ((refine no_implicit_lambda% (hdE ?_)); intro K hK; (first
      | ((with_reducible refine at_dst 3 ?_ ?_); (focus rfl); (refine no_implicit_lambda% (aB ?_)); (try clear hc ht hv); clear hS; intro b3 w hS hc ht hv)
      | ((with_reducible refine at_dst 11 ?_ ?_); (focus rfl); (refine no_implicit_lambda% (alzM ?_)); (try clear hc ht hv); clear hS; intro b11 w hS hc ht hv)
      | ((with_reducible refine at_dst 12 ?_ ?_); (focus rfl); (refine no_implicit_lambda% (alzV ?_)); (try clear hc ht hv); clear hS; intro b12 w hS hc ht hv)
      | ((with_reducible refine at_dst 13 ?_ ?_); (focus rfl); ((refine no_implicit_lambda% (r0zVnoP ?_)); (try clear hc ht hv); clear hS; intro c b w hS hx; (try clear hx); intro hc ht hv))
      | ((with_reducible refine at_dst 41 ?_ ?_); (focus rfl); ((refine no_implicit_lambda% (r0zCnoP ?_)); (try clear hc ht hv); clear hS; intro c b w hS hx; (try clear hx); intro hc ht hv))
      | ((with_reducible refine at_dst 69 ?_ ?_); (focus rfl); ((refine no_implicit_lambda% (r1zVnoP ?_)); (try clear hc ht hv); clear hS; intro c b w hS hx; (try clear hx); intro hc ht hv))
      | ((with_reducible refine at_dst 44 ?_ ?_); (focus rfl); ((refine no_implicit_lambda% (apzC ?_)); (try clear hc ht hv); clear hS; intro c A44 d44 w hS hx; (try clear hx); intro hc ht hv))
      | ((with_reducible refine at_dst 70 ?_ ?_); (focus rfl); ((refine no_implicit_lambda% (apzV ?_)); (try clear hc ht hv); clear hS; intro c A70 d70 w hS hx; (try clear hx); intro hc ht hv))
      | ((refine no_implicit_lambda% (sazM ?_)); (try clear hc ht hv); clear hS; intro w hS hc ht hv)
      | ((refine no_implicit_lambda% (sazV ?_)); (try clear hc ht hv); clear hS; intro w hS hc ht hv)))
    | (go_at_call 60; refine (l4Turn_t hS.tw slA tyA).mono ?_; rintro e w ⟨bq, rfl, hb⟩; replace hS := hS.past hb; clear hb; (try clear hc ht hv); (try dsimp only); (refine no_implicit_lambda% (fct ?_)); intro hc ht hv; cases bq)
    | ((refine no_implicit_lambda% (rgspecl5Votes10E45 ?_)); (try clear hc ht hv); clear hS; intro hS hc ht hv)
    | ((with_reducible refine wpOF_both ?_ ?_) <;> (refine no_implicit_lambda% (pk_ ?_))) | ((with_reducible refine wpOF_three ?_ ?_ ?_) <;> (refine no_implicit_lambda% (pk_ ?_))) | ((with_reducible refine MS.and_ ?_ ?_); (focus (exact msA)); intro hM) | (refine no_implicit_lambda% (ofS ?_)) | ((refine no_implicit_lambda% (ofK ?_)); intro K hK) | (refine no_implicit_lambda% (ofL ?_)) | ((refine no_implicit_lambda% (ofM ?_)); intro K hK) | ((refine no_implicit_lambda% (ofX ?_)); intro K hK) | (refine no_implicit_lambda% (ofN ?_)) | ((with_reducible apply wpT_split); (focus rfl); (focus rfl); (focus rfl); all_goals (intro hxx; simp only [hxx]))
    | fail)
      all_goals ((try simp only [Exit.inBlock, Exit.then]); first | exact bodyPost_ret (by simp [results, Try.results103, go_sem, hc] <;> rfl) rfl (hS.psl 0 rfl (by omega)) | exact bodyPost_ret (by simp [results, Try.results103, go_sem, hc] <;> rfl) rfl (hS.psl 1 rfl (by omega)) | exact bodyPost_ret (by simp [results, Try.results103, go_sem, hc] <;> rfl) rfl (hS.psl 2 rfl (by omega)))
end
end Go.Proofs.Ytopmbnnjhoinkaa
