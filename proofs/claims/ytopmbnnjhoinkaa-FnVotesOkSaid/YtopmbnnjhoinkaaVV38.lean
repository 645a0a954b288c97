/-
  What 'FVd' rests on (texts of this seat put together: TXa).
  Conditions: none.
-/
import Derived.Test.YtopmbnnjhoinkaaVV35
namespace Go.Proofs.Ytopmbnnjhoinkaa
open Go Go.RowKit Rg
set_option linter.unusedVariables false
set_option linter.unusedSimpArgs false
set_option maxHeartbeats 1000000
section
variable {T D : Nat} {c0 : Cx} {w0 : World} {rs cs us vs : List Value} {A : Option Addr} {n d : Nat}
set_option maxRecDepth 100000 in
set_option maxHeartbeats 20000000 in
theorem l5Ask_t (hT : TW T D c0 w0) (hr : TyE T D c0 tR rs) (hm : TyE T D c0 tM us) (hB : T ≤ 1000000) :
    Calls Try.prog 90 #[.agg rs.toArray, .agg us.toArray] w0 fun e w' => PRM (T + 1) D 1 c0 w0 e w' := by
  obtain ⟨me, vw, lv, nx, A1, n1, d1, A2, n2, d2, A3, n3, d3, rfl, g1, g2, g3, g4, g5, g6, g7, g8⟩ := hr.rep
  obtain ⟨kd, fr, mv, sq, mr, B1, p1, q1, B2, p2, q2, rfl, m1, m2, m3, m4, m5⟩ := hm.msg
  have hcap := g3.cap
  unfold maxLen at hcap
  cases lv
  · have hS : St ⟨c0, w0, none⟩ 0 (T) (D) c0 [] [] w0 := (St.start hT (fun g hg => by cases hg)).raise (by omega) (by omega)
    go_enter Try.func90, Try.ntmps90
    (try clear hc ht hv); (refine no_implicit_lambda% (fct ?_)); intro hc ht hv
    go_wp2_with (first
        | ((refine no_implicit_lambda% (hdE ?_)); intro K hK; (first
          | ((with_reducible refine at_dst 2 ?_ ?_); (focus rfl); (refine no_implicit_lambda% (aB ?_)); (try clear hc ht hv); clear hS; intro b2 w hS hc ht hv)
          | ((with_reducible refine at_dst 3 ?_ ?_); (focus rfl); (refine no_implicit_lambda% (aB ?_)); (try clear hc ht hv); clear hS; intro b3 w hS hc ht hv)
          | ((with_reducible refine at_dst 4 ?_ ?_); (focus rfl); (refine no_implicit_lambda% (alzR ?_)); (try clear hc ht hv); clear hS; intro b4 w hS hc ht hv)
          | ((with_reducible refine at_dst 7 ?_ ?_); (focus rfl); (refine no_implicit_lambda% (alzC ?_)); (try clear hc ht hv); clear hS; intro b7 w hS hc ht hv)
          | ((with_reducible refine at_dst 77 ?_ ?_); (focus rfl); ((refine no_implicit_lambda% (r1zMbareP ?_)); (try clear hc ht hv); clear hS; intro c b w hS hx; (try replace hrs := hrs.mono hx.le); (try clear hx); intro hc ht hv))
          | ((refine no_implicit_lambda% (sazR ?_)); (try clear hc ht hv); clear hS; intro w hS hc ht hv)
          | ((refine no_implicit_lambda% (sazC ?_)); (try clear hc ht hv); clear hS; intro w hS hc ht hv)
          | ((refine no_implicit_lambda% (stI ?_)); (try clear hc ht hv); clear hS; intro w hS hc ht hv)))
        | (go_at_call 71; refine (l3Leader_t _ _).mono ?_; rintro e w' ⟨x, rfl, rfl⟩; (try dsimp only))
        | (go_at_call 98; refine (l5Take_t hS.tw tyA tyA (by omega)).mono ?_; rintro e w ⟨c, rs, rfl, hrs, hx, hT', hb⟩; (try replace hobV := KB.call hx hb hobV); replace hS := hS.below hx hT' (by omega) (by omega) hb; clear hx hT' hb; (try clear hc ht hv); (obtain ⟨_, _, _, _, _, _, _, _, _, _, _, _, _, rfl, _, _, _, _, _, _, _, _⟩ := hrs.rep); (try dsimp only); (refine no_implicit_lambda% (fct ?_)); intro hc ht hv)
        | ((refine no_implicit_lambda% (rgspecl5Ask1 ?_)); (try clear hc ht hv); clear hS; intro hS hc ht hv)
        | ((refine no_implicit_lambda% (rgspecl5Ask6 ?_)); (try clear hc ht hv); clear hS; intro hS hc ht hv)
        | ((refine no_implicit_lambda% (rgspecl5Ask11X1E76 ?_)); (try clear hc ht hv); clear hS; intro hS hc ht hv)
        | ((with_reducible refine wpOF_both ?_ ?_) <;> (refine no_implicit_lambda% (pk_ ?_))) | ((with_reducible refine wpOF_three ?_ ?_ ?_) <;> (refine no_implicit_lambda% (pk_ ?_))) | ((with_reducible refine MS.and_ ?_ ?_); (focus (exact msA)); intro hM) | (refine no_implicit_lambda% (ofS ?_)) | ((refine no_implicit_lambda% (ofK ?_)); intro K hK) | (refine no_implicit_lambda% (ofL ?_)) | ((refine no_implicit_lambda% (ofM ?_)); intro K hK) | ((refine no_implicit_lambda% (ofX ?_)); intro K hK) | (refine no_implicit_lambda% (ofN ?_)) | ((with_reducible apply wpT_split); (focus rfl); (focus rfl); (focus rfl); all_goals (intro hxx; simp only [hxx]))
        | fail)
    all_goals (exact no_implicit_lambda% fRM8)
  cases f5 : decide (5 < nx)
  · have q5 : nx ≤ 5 := by have := of_decide_eq_false f5; omega
    have hS : St ⟨c0, w0, none⟩ 0 (T) (D) c0 [] [] w0 := (St.start hT (fun g hg => by cases hg)).raise (by omega) (by omega)
    go_enter Try.func90, Try.ntmps90
    (try clear hc ht hv); (refine no_implicit_lambda% (fct ?_)); intro hc ht hv
    go_wp2_with (first
        | ((refine no_implicit_lambda% (hdE ?_)); intro K hK; (first
          | ((with_reducible refine at_dst 2 ?_ ?_); (focus rfl); (refine no_implicit_lambda% (aB ?_)); (try clear hc ht hv); clear hS; intro b2 w hS hc ht hv)
          | ((with_reducible refine at_dst 3 ?_ ?_); (focus rfl); (refine no_implicit_lambda% (aB ?_)); (try clear hc ht hv); clear hS; intro b3 w hS hc ht hv)
          | ((with_reducible refine at_dst 4 ?_ ?_); (focus rfl); (refine no_implicit_lambda% (alzR ?_)); (try clear hc ht hv); clear hS; intro b4 w hS hc ht hv)
          | ((with_reducible refine at_dst 7 ?_ ?_); (focus rfl); (refine no_implicit_lambda% (alzC ?_)); (try clear hc ht hv); clear hS; intro b7 w hS hc ht hv)
          | ((with_reducible refine at_dst 77 ?_ ?_); (focus rfl); ((refine no_implicit_lambda% (r1zMbareP ?_)); (try clear hc ht hv); clear hS; intro c b w hS hx; (try replace hrs := hrs.mono hx.le); (try clear hx); intro hc ht hv))
          | ((refine no_implicit_lambda% (sazR ?_)); (try clear hc ht hv); clear hS; intro w hS hc ht hv)
          | ((refine no_implicit_lambda% (sazC ?_)); (try clear hc ht hv); clear hS; intro w hS hc ht hv)
          | ((refine no_implicit_lambda% (stI ?_)); (try clear hc ht hv); clear hS; intro w hS hc ht hv)))
        | (go_at_call 71; refine (l3Leader_t _ _).mono ?_; rintro e w' ⟨x, rfl, rfl⟩; (try dsimp only))
        | (go_at_call 98; refine (l5Take_t hS.tw tyA tyA (by omega)).mono ?_; rintro e w ⟨c, rs, rfl, hrs, hx, hT', hb⟩; (try replace hobV := KB.call hx hb hobV); replace hS := hS.below hx hT' (by omega) (by omega) hb; clear hx hT' hb; (try clear hc ht hv); (obtain ⟨_, _, _, _, _, _, _, _, _, _, _, _, _, rfl, _, _, _, _, _, _, _, _⟩ := hrs.rep); (try dsimp only); (refine no_implicit_lambda% (fct ?_)); intro hc ht hv)
        | ((refine no_implicit_lambda% (rgspecl5Ask1 ?_)); (try clear hc ht hv); clear hS; intro hS hc ht hv)
        | ((refine no_implicit_lambda% (rgspecl5Ask6 ?_)); (try clear hc ht hv); clear hS; intro hS hc ht hv)
        | ((refine no_implicit_lambda% (rgspecl5Ask11X1E76 ?_)); (try clear hc ht hv); clear hS; intro hS hc ht hv)
        | ((with_reducible refine wpOF_both ?_ ?_) <;> (refine no_implicit_lambda% (pk_ ?_))) | ((with_reducible refine wpOF_three ?_ ?_ ?_) <;> (refine no_implicit_lambda% (pk_ ?_))) | ((with_reducible refine MS.and_ ?_ ?_); (focus (exact msA)); intro hM) | (refine no_implicit_lambda% (ofS ?_)) | ((refine no_implicit_lambda% (ofK ?_)); intro K hK) | (refine no_implicit_lambda% (ofL ?_)) | ((refine no_implicit_lambda% (ofM ?_)); intro K hK) | ((refine no_implicit_lambda% (ofX ?_)); intro K hK) | (refine no_implicit_lambda% (ofN ?_)) | ((with_reducible apply wpT_split); (focus rfl); (focus rfl); (focus rfl); all_goals (intro hxx; simp only [hxx]))
        | fail)
    all_goals first | (exact no_implicit_lambda% fRM8) | skip
    all_goals
      go_loopw [6] (fun iv wr => ∃ i : Nat, i ≤ n1 ∧ iv = .int .i64 (i : Int) ∧ St ⟨c0, w0, none⟩ 0 T D c0 [(b4, 87, [.int .i64 0, .int .i64 0, .bool false, .int .i64 0, .slice none 0 0, .slice none 0 0, .slice none 0 0]), (b3, 34, [.int .i64 kd, .int .i64 fr, .int .i64 mv, .int .i64 sq, .int .i64 mr.1, .int .i64 mr.2.1, .int .i64 mr.2.2.1, .int .i64 mr.2.2.2.1, .int .i64 mr.2.2.2.2, .slice B1 p1 q1, .slice B2 p2 q2]), (b2, 87, [.int .i64 me, .int .i64 vw, .bool true, .int .i64 nx, .slice A1 n1 d1, .slice A2 n2 d2, .slice A3 n3 d3])] [] wr) (fun iv _ => n1 - (intOf iv).toNat)
      case atStart => exact ⟨0, Nat.zero_le _, rfl, hS⟩
      case round =>
        (try clear hc ht hv); clear hS
        obtain ⟨i, hi, rfl, hS⟩ := hrel
        by_cases hlti : i < n1
        · obtain ⟨g, off, rfl⟩ := g3.addr hlti
          obtain ⟨t, a0, a1, a2, a3, a4, a5, a6, u1⟩ := hT.claimAt g3 hlti
          have hrq := fun W => run_eq_req t.2.2 mr W
          cases f0 : (decide (t.2.2 = mr))
          · (try simp only [f0] at hrq)
            (try clear hc ht hv); (refine no_implicit_lambda% (fct ?_)); intro hc ht hv; (refine no_implicit_lambda% (fx0c49e ?_)); intro e0 e1 e2 e3 e4 e5 e6
            go_wp2_with (first
                | ((refine no_implicit_lambda% (hdE ?_)); intro K hK; (first
                  | ((with_reducible refine at_dst 2 ?_ ?_); (focus rfl); (refine no_implicit_lambda% (aB ?_)); (try clear hc ht hv); (try clear e0 e1 e2 e3 e4 e5 e6); clear hS; intro b2 w hS hc ht hv; (refine no_implicit_lambda% (fx0c49e ?_)); intro e0 e1 e2 e3 e4 e5 e6)
                  | ((with_reducible refine at_dst 3 ?_ ?_); (focus rfl); (refine no_implicit_lambda% (aB ?_)); (try clear hc ht hv); (try clear e0 e1 e2 e3 e4 e5 e6); clear hS; intro b3 w hS hc ht hv; (refine no_implicit_lambda% (fx0c49e ?_)); intro e0 e1 e2 e3 e4 e5 e6)
                  | ((with_reducible refine at_dst 4 ?_ ?_); (focus rfl); (refine no_implicit_lambda% (alzR ?_)); (try clear hc ht hv); (try clear e0 e1 e2 e3 e4 e5 e6); clear hS; intro b4 w hS hc ht hv; (refine no_implicit_lambda% (fx0c49e ?_)); intro e0 e1 e2 e3 e4 e5 e6)
                  | ((with_reducible refine at_dst 7 ?_ ?_); (focus rfl); (refine no_implicit_lambda% (alzC ?_)); (try clear hc ht hv); (try clear e0 e1 e2 e3 e4 e5 e6); clear hS; intro b7 w hS hc ht hv; (refine no_implicit_lambda% (fx0c49e ?_)); intro e0 e1 e2 e3 e4 e5 e6)
                  | ((with_reducible refine at_dst 77 ?_ ?_); (focus rfl); ((refine no_implicit_lambda% (r1zMbareP ?_)); (try clear hc ht hv); (try clear e0 e1 e2 e3 e4 e5 e6); clear hS; intro c b w hS hx; (try replace hrs := hrs.mono hx.le); (try clear hx); intro hc ht hv; (refine no_implicit_lambda% (fx0c49e ?_)); intro e0 e1 e2 e3 e4 e5 e6))
                  | ((refine no_implicit_lambda% (sazR ?_)); (try clear hc ht hv); (try clear e0 e1 e2 e3 e4 e5 e6); clear hS; intro w hS hc ht hv; (refine no_implicit_lambda% (fx0c49e ?_)); intro e0 e1 e2 e3 e4 e5 e6)
                  | ((refine no_implicit_lambda% (sazC ?_)); (try clear hc ht hv); (try clear e0 e1 e2 e3 e4 e5 e6); clear hS; intro w hS hc ht hv; (refine no_implicit_lambda% (fx0c49e ?_)); intro e0 e1 e2 e3 e4 e5 e6)
                  | ((refine no_implicit_lambda% (stI ?_)); (try clear hc ht hv); (try clear e0 e1 e2 e3 e4 e5 e6); clear hS; intro w hS hc ht hv; (refine no_implicit_lambda% (fx0c49e ?_)); intro e0 e1 e2 e3 e4 e5 e6)))
                | (go_at_call 71; refine (l3Leader_t _ _).mono ?_; rintro e w' ⟨x, rfl, rfl⟩; (try dsimp only))
                | (go_at_call 98; refine (l5Take_t hS.tw tyA tyA (by omega)).mono ?_; rintro e w ⟨c, rs, rfl, hrs, hx, hT', hb⟩; (try replace hobV := KB.call hx hb hobV); replace hS := hS.below hx hT' (by omega) (by omega) hb; clear hx hT' hb; (try clear hc ht hv); (try clear e0 e1 e2 e3 e4 e5 e6); (obtain ⟨_, _, _, _, _, _, _, _, _, _, _, _, _, rfl, _, _, _, _, _, _, _, _⟩ := hrs.rep); (try dsimp only); (refine no_implicit_lambda% (fct ?_)); intro hc ht hv; (refine no_implicit_lambda% (fx0c49e ?_)); intro e0 e1 e2 e3 e4 e5 e6)
                | ((refine no_implicit_lambda% (rgspecl5Ask1 ?_)); (try clear hc ht hv); (try clear e0 e1 e2 e3 e4 e5 e6); clear hS; intro hS hc ht hv; (refine no_implicit_lambda% (fx0c49e ?_)); intro e0 e1 e2 e3 e4 e5 e6)
                | ((refine no_implicit_lambda% (rgspecl5Ask6 ?_)); (try clear hc ht hv); (try clear e0 e1 e2 e3 e4 e5 e6); clear hS; intro hS hc ht hv; (refine no_implicit_lambda% (fx0c49e ?_)); intro e0 e1 e2 e3 e4 e5 e6)
                | ((refine no_implicit_lambda% (rgspecl5Ask11X1E76 ?_)); (try clear hc ht hv); (try clear e0 e1 e2 e3 e4 e5 e6); clear hS; intro hS hc ht hv; (refine no_implicit_lambda% (fx0c49e ?_)); intro e0 e1 e2 e3 e4 e5 e6)
                | ((with_reducible refine wpOF_both ?_ ?_) <;> (refine no_implicit_lambda% (pk_ ?_))) | ((with_reducible refine wpOF_three ?_ ?_ ?_) <;> (refine no_implicit_lambda% (pk_ ?_))) | ((with_reducible refine MS.and_ ?_ ?_); (focus (exact msA)); intro hM) | (refine no_implicit_lambda% (ofS ?_)) | ((refine no_implicit_lambda% (ofK ?_)); intro K hK) | (refine no_implicit_lambda% (ofL ?_)) | ((refine no_implicit_lambda% (ofM ?_)); intro K hK) | ((refine no_implicit_lambda% (ofX ?_)); intro K hK) | (refine no_implicit_lambda% (ofN ?_)) | ((with_reducible apply wpT_split); (focus rfl); (focus rfl); (focus rfl); all_goals (intro hxx; simp only [hxx]))
                | fail)
            all_goals first
              | (exact no_implicit_lambda% fRM8)
              | (go_roundw
                 case rel => exact ⟨i + 1, by omega, by go_num, hS⟩
                 case measure => simp [intOf]; omega)
          · cases f1 : (t.2.1 == vw)
            · (try simp only [f0] at hrq)
              (try clear hc ht hv); (refine no_implicit_lambda% (fct ?_)); intro hc ht hv; (refine no_implicit_lambda% (fx0c49e ?_)); intro e0 e1 e2 e3 e4 e5 e6
              go_wp2_with (first
                  | ((refine no_implicit_lambda% (hdE ?_)); intro K hK; (first
                    | ((with_reducible refine at_dst 2 ?_ ?_); (focus rfl); (refine no_implicit_lambda% (aB ?_)); (try clear hc ht hv); (try clear e0 e1 e2 e3 e4 e5 e6); clear hS; intro b2 w hS hc ht hv; (refine no_implicit_lambda% (fx0c49e ?_)); intro e0 e1 e2 e3 e4 e5 e6)
                    | ((with_reducible refine at_dst 3 ?_ ?_); (focus rfl); (refine no_implicit_lambda% (aB ?_)); (try clear hc ht hv); (try clear e0 e1 e2 e3 e4 e5 e6); clear hS; intro b3 w hS hc ht hv; (refine no_implicit_lambda% (fx0c49e ?_)); intro e0 e1 e2 e3 e4 e5 e6)
                    | ((with_reducible refine at_dst 4 ?_ ?_); (focus rfl); (refine no_implicit_lambda% (alzR ?_)); (try clear hc ht hv); (try clear e0 e1 e2 e3 e4 e5 e6); clear hS; intro b4 w hS hc ht hv; (refine no_implicit_lambda% (fx0c49e ?_)); intro e0 e1 e2 e3 e4 e5 e6)
                    | ((with_reducible refine at_dst 7 ?_ ?_); (focus rfl); (refine no_implicit_lambda% (alzC ?_)); (try clear hc ht hv); (try clear e0 e1 e2 e3 e4 e5 e6); clear hS; intro b7 w hS hc ht hv; (refine no_implicit_lambda% (fx0c49e ?_)); intro e0 e1 e2 e3 e4 e5 e6)
                    | ((with_reducible refine at_dst 77 ?_ ?_); (focus rfl); ((refine no_implicit_lambda% (r1zMbareP ?_)); (try clear hc ht hv); (try clear e0 e1 e2 e3 e4 e5 e6); clear hS; intro c b w hS hx; (try replace hrs := hrs.mono hx.le); (try clear hx); intro hc ht hv; (refine no_implicit_lambda% (fx0c49e ?_)); intro e0 e1 e2 e3 e4 e5 e6))
                    | ((refine no_implicit_lambda% (sazR ?_)); (try clear hc ht hv); (try clear e0 e1 e2 e3 e4 e5 e6); clear hS; intro w hS hc ht hv; (refine no_implicit_lambda% (fx0c49e ?_)); intro e0 e1 e2 e3 e4 e5 e6)
                    | ((refine no_implicit_lambda% (sazC ?_)); (try clear hc ht hv); (try clear e0 e1 e2 e3 e4 e5 e6); clear hS; intro w hS hc ht hv; (refine no_implicit_lambda% (fx0c49e ?_)); intro e0 e1 e2 e3 e4 e5 e6)
                    | ((refine no_implicit_lambda% (stI ?_)); (try clear hc ht hv); (try clear e0 e1 e2 e3 e4 e5 e6); clear hS; intro w hS hc ht hv; (refine no_implicit_lambda% (fx0c49e ?_)); intro e0 e1 e2 e3 e4 e5 e6)))
                  | (go_at_call 71; refine (l3Leader_t _ _).mono ?_; rintro e w' ⟨x, rfl, rfl⟩; (try dsimp only))
                  | (go_at_call 98; refine (l5Take_t hS.tw tyA tyA (by omega)).mono ?_; rintro e w ⟨c, rs, rfl, hrs, hx, hT', hb⟩; (try replace hobV := KB.call hx hb hobV); replace hS := hS.below hx hT' (by omega) (by omega) hb; clear hx hT' hb; (try clear hc ht hv); (try clear e0 e1 e2 e3 e4 e5 e6); (obtain ⟨_, _, _, _, _, _, _, _, _, _, _, _, _, rfl, _, _, _, _, _, _, _, _⟩ := hrs.rep); (try dsimp only); (refine no_implicit_lambda% (fct ?_)); intro hc ht hv; (refine no_implicit_lambda% (fx0c49e ?_)); intro e0 e1 e2 e3 e4 e5 e6)
                  | ((refine no_implicit_lambda% (rgspecl5Ask1 ?_)); (try clear hc ht hv); (try clear e0 e1 e2 e3 e4 e5 e6); clear hS; intro hS hc ht hv; (refine no_implicit_lambda% (fx0c49e ?_)); intro e0 e1 e2 e3 e4 e5 e6)
                  | ((refine no_implicit_lambda% (rgspecl5Ask6 ?_)); (try clear hc ht hv); (try clear e0 e1 e2 e3 e4 e5 e6); clear hS; intro hS hc ht hv; (refine no_implicit_lambda% (fx0c49e ?_)); intro e0 e1 e2 e3 e4 e5 e6)
                  | ((refine no_implicit_lambda% (rgspecl5Ask11X1E76 ?_)); (try clear hc ht hv); (try clear e0 e1 e2 e3 e4 e5 e6); clear hS; intro hS hc ht hv; (refine no_implicit_lambda% (fx0c49e ?_)); intro e0 e1 e2 e3 e4 e5 e6)
                  | ((with_reducible refine wpOF_both ?_ ?_) <;> (refine no_implicit_lambda% (pk_ ?_))) | ((with_reducible refine wpOF_three ?_ ?_ ?_) <;> (refine no_implicit_lambda% (pk_ ?_))) | ((with_reducible refine MS.and_ ?_ ?_); (focus (exact msA)); intro hM) | (refine no_implicit_lambda% (ofS ?_)) | ((refine no_implicit_lambda% (ofK ?_)); intro K hK) | (refine no_implicit_lambda% (ofL ?_)) | ((refine no_implicit_lambda% (ofM ?_)); intro K hK) | ((refine no_implicit_lambda% (ofX ?_)); intro K hK) | (refine no_implicit_lambda% (ofN ?_)) | ((with_reducible apply wpT_split); (focus rfl); (focus rfl); (focus rfl); all_goals (intro hxx; simp only [hxx]))
                  | fail)
              all_goals first
                | (exact no_implicit_lambda% fRM8)
                | (go_roundw
                   case rel => exact ⟨i + 1, by omega, by go_num, hS⟩
                   case measure => simp [intOf]; omega)
            · (try simp only [f0] at hrq)
              (try clear hc ht hv); (refine no_implicit_lambda% (fct ?_)); intro hc ht hv; (refine no_implicit_lambda% (fx0c49e ?_)); intro e0 e1 e2 e3 e4 e5 e6
              go_wp2_with (first
                  | ((refine no_implicit_lambda% (hdE ?_)); intro K hK; (first
                    | ((with_reducible refine at_dst 2 ?_ ?_); (focus rfl); (refine no_implicit_lambda% (aB ?_)); (try clear hc ht hv); (try clear e0 e1 e2 e3 e4 e5 e6); clear hS; intro b2 w hS hc ht hv; (refine no_implicit_lambda% (fx0c49e ?_)); intro e0 e1 e2 e3 e4 e5 e6)
                    | ((with_reducible refine at_dst 3 ?_ ?_); (focus rfl); (refine no_implicit_lambda% (aB ?_)); (try clear hc ht hv); (try clear e0 e1 e2 e3 e4 e5 e6); clear hS; intro b3 w hS hc ht hv; (refine no_implicit_lambda% (fx0c49e ?_)); intro e0 e1 e2 e3 e4 e5 e6)
                    | ((with_reducible refine at_dst 4 ?_ ?_); (focus rfl); (refine no_implicit_lambda% (alzR ?_)); (try clear hc ht hv); (try clear e0 e1 e2 e3 e4 e5 e6); clear hS; intro b4 w hS hc ht hv; (refine no_implicit_lambda% (fx0c49e ?_)); intro e0 e1 e2 e3 e4 e5 e6)
                    | ((with_reducible refine at_dst 7 ?_ ?_); (focus rfl); (refine no_implicit_lambda% (alzC ?_)); (try clear hc ht hv); (try clear e0 e1 e2 e3 e4 e5 e6); clear hS; intro b7 w hS hc ht hv; (refine no_implicit_lambda% (fx0c49e ?_)); intro e0 e1 e2 e3 e4 e5 e6)
                    | ((with_reducible refine at_dst 77 ?_ ?_); (focus rfl); ((refine no_implicit_lambda% (r1zMbareP ?_)); (try clear hc ht hv); (try clear e0 e1 e2 e3 e4 e5 e6); clear hS; intro c b w hS hx; (try replace hrs := hrs.mono hx.le); (try clear hx); intro hc ht hv; (refine no_implicit_lambda% (fx0c49e ?_)); intro e0 e1 e2 e3 e4 e5 e6))
                    | ((refine no_implicit_lambda% (sazR ?_)); (try clear hc ht hv); (try clear e0 e1 e2 e3 e4 e5 e6); clear hS; intro w hS hc ht hv; (refine no_implicit_lambda% (fx0c49e ?_)); intro e0 e1 e2 e3 e4 e5 e6)
                    | ((refine no_implicit_lambda% (sazC ?_)); (try clear hc ht hv); (try clear e0 e1 e2 e3 e4 e5 e6); clear hS; intro w hS hc ht hv; (refine no_implicit_lambda% (fx0c49e ?_)); intro e0 e1 e2 e3 e4 e5 e6)
                    | ((refine no_implicit_lambda% (stI ?_)); (try clear hc ht hv); (try clear e0 e1 e2 e3 e4 e5 e6); clear hS; intro w hS hc ht hv; (refine no_implicit_lambda% (fx0c49e ?_)); intro e0 e1 e2 e3 e4 e5 e6)))
                  | (go_at_call 71; refine (l3Leader_t _ _).mono ?_; rintro e w' ⟨x, rfl, rfl⟩; (try dsimp only))
                  | (go_at_call 98; refine (l5Take_t hS.tw tyA tyA (by omega)).mono ?_; rintro e w ⟨c, rs, rfl, hrs, hx, hT', hb⟩; (try replace hobV := KB.call hx hb hobV); replace hS := hS.below hx hT' (by omega) (by omega) hb; clear hx hT' hb; (try clear hc ht hv); (try clear e0 e1 e2 e3 e4 e5 e6); (obtain ⟨_, _, _, _, _, _, _, _, _, _, _, _, _, rfl, _, _, _, _, _, _, _, _⟩ := hrs.rep); (try dsimp only); (refine no_implicit_lambda% (fct ?_)); intro hc ht hv; (refine no_implicit_lambda% (fx0c49e ?_)); intro e0 e1 e2 e3 e4 e5 e6)
                  | ((refine no_implicit_lambda% (rgspecl5Ask1 ?_)); (try clear hc ht hv); (try clear e0 e1 e2 e3 e4 e5 e6); clear hS; intro hS hc ht hv; (refine no_implicit_lambda% (fx0c49e ?_)); intro e0 e1 e2 e3 e4 e5 e6)
                  | ((refine no_implicit_lambda% (rgspecl5Ask6 ?_)); (try clear hc ht hv); (try clear e0 e1 e2 e3 e4 e5 e6); clear hS; intro hS hc ht hv; (refine no_implicit_lambda% (fx0c49e ?_)); intro e0 e1 e2 e3 e4 e5 e6)
                  | ((refine no_implicit_lambda% (rgspecl5Ask11X1E76 ?_)); (try clear hc ht hv); (try clear e0 e1 e2 e3 e4 e5 e6); clear hS; intro hS hc ht hv; (refine no_implicit_lambda% (fx0c49e ?_)); intro e0 e1 e2 e3 e4 e5 e6)
                  | ((with_reducible refine wpOF_both ?_ ?_) <;> (refine no_implicit_lambda% (pk_ ?_))) | ((with_reducible refine wpOF_three ?_ ?_ ?_) <;> (refine no_implicit_lambda% (pk_ ?_))) | ((with_reducible refine MS.and_ ?_ ?_); (focus (exact msA)); intro hM) | (refine no_implicit_lambda% (ofS ?_)) | ((refine no_implicit_lambda% (ofK ?_)); intro K hK) | (refine no_implicit_lambda% (ofL ?_)) | ((refine no_implicit_lambda% (ofM ?_)); intro K hK) | ((refine no_implicit_lambda% (ofX ?_)); intro K hK) | (refine no_implicit_lambda% (ofN ?_)) | ((with_reducible apply wpT_split); (focus rfl); (focus rfl); (focus rfl); all_goals (intro hxx; simp only [hxx]))
                  | fail)
              all_goals first
                | (exact no_implicit_lambda% fRM8)
                | (go_roundw
                   case rel => exact ⟨i + 1, by omega, by go_num, hS⟩
                   case measure => simp [intOf]; omega)
        · obtain rfl : i = n1 := by omega
          (try clear hc ht hv); (refine no_implicit_lambda% (fct ?_)); intro hc ht hv
          go_wp2_with (first
        | ((refine no_implicit_lambda% (hdE ?_)); intro K hK; (first
          | ((with_reducible refine at_dst 2 ?_ ?_); (focus rfl); (refine no_implicit_lambda% (aB ?_)); (try clear hc ht hv); clear hS; intro b2 w hS hc ht hv)
          | ((with_reducible refine at_dst 3 ?_ ?_); (focus rfl); (refine no_implicit_lambda% (aB ?_)); (try clear hc ht hv); clear hS; intro b3 w hS hc ht hv)
          | ((with_reducible refine at_dst 4 ?_ ?_); (focus rfl); (refine no_implicit_lambda% (alzR ?_)); (try clear hc ht hv); clear hS; intro b4 w hS hc ht hv)
          | ((with_reducible refine at_dst 7 ?_ ?_); (focus rfl); (refine no_implicit_lambda% (alzC ?_)); (try clear hc ht hv); clear hS; intro b7 w hS hc ht hv)
          | ((with_reducible refine at_dst 77 ?_ ?_); (focus rfl); ((refine no_implicit_lambda% (r1zMbareP ?_)); (try clear hc ht hv); clear hS; intro c b w hS hx; (try replace hrs := hrs.mono hx.le); (try clear hx); intro hc ht hv))
          | ((refine no_implicit_lambda% (sazR ?_)); (try clear hc ht hv); clear hS; intro w hS hc ht hv)
          | ((refine no_implicit_lambda% (sazC ?_)); (try clear hc ht hv); clear hS; intro w hS hc ht hv)
          | ((refine no_implicit_lambda% (stI ?_)); (try clear hc ht hv); clear hS; intro w hS hc ht hv)))
        | (go_at_call 71; refine (l3Leader_t _ _).mono ?_; rintro e w' ⟨x, rfl, rfl⟩; (try dsimp only))
        | (go_at_call 98; refine (l5Take_t hS.tw tyA tyA (by omega)).mono ?_; rintro e w ⟨c, rs, rfl, hrs, hx, hT', hb⟩; (try replace hobV := KB.call hx hb hobV); replace hS := hS.below hx hT' (by omega) (by omega) hb; clear hx hT' hb; (try clear hc ht hv); (obtain ⟨_, _, _, _, _, _, _, _, _, _, _, _, _, rfl, _, _, _, _, _, _, _, _⟩ := hrs.rep); (try dsimp only); (refine no_implicit_lambda% (fct ?_)); intro hc ht hv)
        | ((refine no_implicit_lambda% (rgspecl5Ask1 ?_)); (try clear hc ht hv); clear hS; intro hS hc ht hv)
        | ((refine no_implicit_lambda% (rgspecl5Ask6 ?_)); (try clear hc ht hv); clear hS; intro hS hc ht hv)
        | ((refine no_implicit_lambda% (rgspecl5Ask11X1E76 ?_)); (try clear hc ht hv); clear hS; intro hS hc ht hv)
        | ((with_reducible refine wpOF_both ?_ ?_) <;> (refine no_implicit_lambda% (pk_ ?_))) | ((with_reducible refine wpOF_three ?_ ?_ ?_) <;> (refine no_implicit_lambda% (pk_ ?_))) | ((with_reducible refine MS.and_ ?_ ?_); (focus (exact msA)); intro hM) | (refine no_implicit_lambda% (ofS ?_)) | ((refine no_implicit_lambda% (ofK ?_)); intro K hK) | (refine no_implicit_lambda% (ofL ?_)) | ((refine no_implicit_lambda% (ofM ?_)); intro K hK) | ((refine no_implicit_lambda% (ofX ?_)); intro K hK) | (refine no_implicit_lambda% (ofN ?_)) | ((with_reducible apply wpT_split); (focus rfl); (focus rfl); (focus rfl); all_goals (intro hxx; simp only [hxx]))
        | fail)
          all_goals (exact no_implicit_lambda% fRM4_3)
  · have hS : St ⟨c0, w0, none⟩ 0 (T) (D) c0 [] [] w0 := (St.start hT (fun g hg => by cases hg)).raise (by omega) (by omega)
    go_enter Try.func90, Try.ntmps90
    (try clear hc ht hv); (refine no_implicit_lambda% (fct ?_)); intro hc ht hv
    go_wp2_with (first
        | ((refine no_implicit_lambda% (hdE ?_)); intro K hK; (first
          | ((with_reducible refine at_dst 2 ?_ ?_); (focus rfl); (refine no_implicit_lambda% (aB ?_)); (try clear hc ht hv); clear hS; intro b2 w hS hc ht hv)
          | ((with_reducible refine at_dst 3 ?_ ?_); (focus rfl); (refine no_implicit_lambda% (aB ?_)); (try clear hc ht hv); clear hS; intro b3 w hS hc ht hv)
          | ((with_reducible refine at_dst 4 ?_ ?_); (focus rfl); (refine no_implicit_lambda% (alzR ?_)); (try clear hc ht hv); clear hS; intro b4 w hS hc ht hv)
          | ((with_reducible refine at_dst 7 ?_ ?_); (focus rfl); (refine no_implicit_lambda% (alzC ?_)); (try clear hc ht hv); clear hS; intro b7 w hS hc ht hv)
          | ((with_reducible refine at_dst 77 ?_ ?_); (focus rfl); ((refine no_implicit_lambda% (r1zMbareP ?_)); (try clear hc ht hv); clear hS; intro c b w hS hx; (try replace hrs := hrs.mono hx.le); (try clear hx); intro hc ht hv))
          | ((refine no_implicit_lambda% (sazR ?_)); (try clear hc ht hv); clear hS; intro w hS hc ht hv)
          | ((refine no_implicit_lambda% (sazC ?_)); (try clear hc ht hv); clear hS; intro w hS hc ht hv)
          | ((refine no_implicit_lambda% (stI ?_)); (try clear hc ht hv); clear hS; intro w hS hc ht hv)))
        | (go_at_call 71; refine (l3Leader_t _ _).mono ?_; rintro e w' ⟨x, rfl, rfl⟩; (try dsimp only))
        | (go_at_call 98; refine (l5Take_t hS.tw tyA tyA (by omega)).mono ?_; rintro e w ⟨c, rs, rfl, hrs, hx, hT', hb⟩; (try replace hobV := KB.call hx hb hobV); replace hS := hS.below hx hT' (by omega) (by omega) hb; clear hx hT' hb; (try clear hc ht hv); (obtain ⟨_, _, _, _, _, _, _, _, _, _, _, _, _, rfl, _, _, _, _, _, _, _, _⟩ := hrs.rep); (try dsimp only); (refine no_implicit_lambda% (fct ?_)); intro hc ht hv)
        | ((refine no_implicit_lambda% (rgspecl5Ask1 ?_)); (try clear hc ht hv); clear hS; intro hS hc ht hv)
        | ((refine no_implicit_lambda% (rgspecl5Ask6 ?_)); (try clear hc ht hv); clear hS; intro hS hc ht hv)
        | ((refine no_implicit_lambda% (rgspecl5Ask11X1E76 ?_)); (try clear hc ht hv); clear hS; intro hS hc ht hv)
        | ((with_reducible refine wpOF_both ?_ ?_) <;> (refine no_implicit_lambda% (pk_ ?_))) | ((with_reducible refine wpOF_three ?_ ?_ ?_) <;> (refine no_implicit_lambda% (pk_ ?_))) | ((with_reducible refine MS.and_ ?_ ?_); (focus (exact msA)); intro hM) | (refine no_implicit_lambda% (ofS ?_)) | ((refine no_implicit_lambda% (ofK ?_)); intro K hK) | (refine no_implicit_lambda% (ofL ?_)) | ((refine no_implicit_lambda% (ofM ?_)); intro K hK) | ((refine no_implicit_lambda% (ofX ?_)); intro K hK) | (refine no_implicit_lambda% (ofN ?_)) | ((with_reducible apply wpT_split); (focus rfl); (focus rfl); (focus rfl); all_goals (intro hxx; simp only [hxx]))
        | fail)
    all_goals (exact no_implicit_lambda% fRM8)
end
end Go.Proofs.Ytopmbnnjhoinkaa
