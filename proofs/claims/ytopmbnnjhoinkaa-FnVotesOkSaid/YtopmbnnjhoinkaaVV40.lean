/-
  What 'FVd' rests on (texts of this seat put together: TX7).
  Conditions: none.
-/
import Derived.Test.YtopmbnnjhoinkaaVV35
namespace Go.Proofs.Ytopmbnnjhoinkaa
open Go Go.RowKit Rg
set_option linter.unusedVariables false
set_option linter.unusedSimpArgs false
set_option maxHeartbeats 1000000
section
variable {T D : Nat} {c0 : Cx} {w0 : World} {rs cs us vs : List Value}
set_option maxRecDepth 100000 in
set_option maxHeartbeats 4000000 in
theorem l5Go_t (hT : TW T D c0 w0) (hr : TyE T D c0 tR rs) (hB : T ≤ 1000000 ∧ D ≤ 900000000) :
    Calls Try.prog 94 #[.agg rs.toArray] w0 fun e w' => PRM T (D + T) T c0 w0 e w' := by
  obtain ⟨me, vw, lv, nx, A1, n1, d1, A2, n2, d2, A3, n3, d3, rfl, g1, g2, g3, g4, g5, g6, g7, g8⟩ := hr.rep
  have hS : St ⟨c0, w0, none⟩ 0 (T) (D) c0 [] [] w0 := (St.start hT (fun g hg => by cases hg)).raise (by omega) (by omega)
  go_enter Try.func94, Try.ntmps94
  go_wp2_with (first
    | ((refine no_implicit_lambda% (hdE ?_)); intro K hK; (first
      | ((with_reducible refine at_dst 1 ?_ ?_); (focus rfl); (refine no_implicit_lambda% (aB ?_)); (try clear hc ht hv); clear hS; intro b1 w hS hc ht hv)
      | ((with_reducible refine at_dst 2 ?_ ?_); (focus rfl); (refine no_implicit_lambda% (alzR ?_)); (try clear hc ht hv); clear hS; intro b2 w hS hc ht hv)
      | ((with_reducible refine at_dst 6 ?_ ?_); (focus rfl); (refine no_implicit_lambda% (alzC ?_)); (try clear hc ht hv); clear hS; intro b6 w hS hc ht hv)
      | ((with_reducible refine at_dst 7 ?_ ?_); (focus rfl); (refine no_implicit_lambda% (alzM ?_)); (try clear hc ht hv); clear hS; intro b7 w hS hc ht hv)
      | ((with_reducible refine at_dst 8 ?_ ?_); (focus rfl); ((refine no_implicit_lambda% (r0zMbareP ?_)); (try clear hc ht hv); clear hS; intro c b w hS hx; (try replace hrs := hrs.mono hx.le); (try clear hx); intro hc ht hv))
      | ((with_reducible refine at_dst 55 ?_ ?_); (focus rfl); ((refine no_implicit_lambda% (r1zMbareP ?_)); (try clear hc ht hv); clear hS; intro c b w hS hx; (try replace hrs := hrs.mono hx.le); (try clear hx); intro hc ht hv))
      | ((with_reducible refine at_dst 56 ?_ ?_); (focus rfl); ((refine no_implicit_lambda% (apzM ?_)); (try clear hc ht hv); clear hS; intro c A56 d56 w hS hx; (try replace hrs := hrs.mono hx.le); (try clear hx); intro hc ht hv))
      | ((refine no_implicit_lambda% (sazC ?_)); (try clear hc ht hv); clear hS; intro w hS hc ht hv)
      | ((refine no_implicit_lambda% (sazM ?_)); (try clear hc ht hv); clear hS; intro w hS hc ht hv)
      | ((refine no_implicit_lambda% (sazR ?_)); (try clear hc ht hv); clear hS; intro w hS hc ht hv)))
    | (go_at_call 105; refine (l5Is_t hS.tw tyA tyA).mono ?_; rintro e w ⟨bq, rfl, hb⟩; replace hS := hS.past hb; clear hb; (try clear hc ht hv); (try dsimp only); (refine no_implicit_lambda% (fct ?_)); intro hc ht hv; cases bq)
    | (go_at_call 77; refine (l3Has_t hS.tw slA tyA).mono ?_; rintro e w ⟨bq, rfl, hb⟩; replace hS := hS.past hb; clear hb; (try clear hc ht hv); (try dsimp only); (refine no_implicit_lambda% (fct ?_)); intro hc ht hv; cases bq)
    | (go_at_call 89; refine (l5Note_t hS.tw tyA tyA).mono ?_; rintro e w ⟨c, rs, rfl, hrs, hx, hT', hb⟩; (try replace hobV := KB.call hx hb hobV); replace hS := hS.below hx hT' (by omega) (by omega) hb; clear hx hT' hb; (try clear hc ht hv); (obtain ⟨_, _, _, _, _, _, _, _, _, _, _, _, _, rfl, _, _, _, _, _, _, _, _⟩ := hrs.rep); (try dsimp only); (refine no_implicit_lambda% (fct ?_)); intro hc ht hv)
    | (go_at_call 51; refine (l4Count_t hS.tw slA tyA).mono ?_; rintro e w ⟨x, rfl, hb⟩; replace hS := hS.past hb; clear hb; (try clear hc ht hv); (try dsimp only); (refine no_implicit_lambda% (fct ?_)); intro hc ht hv)
    | (go_at_call 106; refine (l5Finish_t hS.tw tyA tyA (by omega)).mono ?_; rintro e w ⟨c, rs, rfl, hrs, hx, hT', hb⟩; (try replace hobV := KB.call hx hb hobV); replace hS := hS.below hx hT' (by omega) (by omega) hb; clear hx hT' hb; (try clear hc ht hv); (obtain ⟨_, _, _, _, _, _, _, _, _, _, _, _, _, rfl, _, _, _, _, _, _, _, _⟩ := hrs.rep); (try dsimp only); (refine no_implicit_lambda% (fct ?_)); intro hc ht hv)
    | fail)
  clear hr g1 g2 g3 g4 g5 g6 g7 g8
  go_loopw [4, 5] (fun sv iv wr => ∃ (i m : Nat) (c : Cx) (rs : List Value) (A : Option Addr) (d : Nat), i ≤ T ∧ m ≤ i ∧ iv = .int .i64 (i : Int) ∧ sv = .slice A m d ∧ St ⟨c0, w0, none⟩ 0 T (D + i) c [(b2, 87, [.int .i64 0, .int .i64 0, .bool false, .int .i64 0, .slice none 0 0, .slice none 0 0, .slice none 0 0]), (b1, 87, rs)] [(34, bareP, .slice A m d)] wr) (fun _ iv _ => T - (intOf iv).toNat)
  case atStart => exact ⟨0, 0, c, _, _, _, Nat.zero_le _, Nat.le_refl _, rfl, rfl, hS⟩
  case round =>
    (try clear hc ht hv); clear hS
    obtain ⟨i, m, c, rs, A, d, hi, hm, rfl, rfl, hS⟩ := hrel
    have hr := hS.ty 1 rfl
    obtain ⟨me, vw, lv, nx, A1, n1, d1, A2, n2, d2, A3, n3, d3, rfl, g1, g2, g3, g4, g5, g6, g7, g8⟩ := hr.rep
    have hcap := g3.cap
    unfold maxLen at hcap
    by_cases hlti : i < n1
    · obtain ⟨g, off, rfl⟩ := g3.addr hlti
      obtain ⟨t, a0, a1, a2, a3, a4, a5, a6, u1⟩ := hS.tw.claimAt g3 hlti
      cases lv <;> cases f2 : (vw == t.2.1)
      all_goals
        (try clear hc ht hv); (refine no_implicit_lambda% (fct ?_)); intro hc ht hv
        go_wp2_with (first
    | ((refine no_implicit_lambda% (hdE ?_)); intro K hK; (first
      | ((with_reducible refine at_dst 1 ?_ ?_); (focus rfl); (refine no_implicit_lambda% (aB ?_)); (try clear hc ht hv); clear hS; intro b1 w hS hc ht hv)
      | ((with_reducible refine at_dst 2 ?_ ?_); (focus rfl); (refine no_implicit_lambda% (alzR ?_)); (try clear hc ht hv); clear hS; intro b2 w hS hc ht hv)
      | ((with_reducible refine at_dst 6 ?_ ?_); (focus rfl); (refine no_implicit_lambda% (alzC ?_)); (try clear hc ht hv); clear hS; intro b6 w hS hc ht hv)
      | ((with_reducible refine at_dst 7 ?_ ?_); (focus rfl); (refine no_implicit_lambda% (alzM ?_)); (try clear hc ht hv); clear hS; intro b7 w hS hc ht hv)
      | ((with_reducible refine at_dst 8 ?_ ?_); (focus rfl); ((refine no_implicit_lambda% (r0zMbareP ?_)); (try clear hc ht hv); clear hS; intro c b w hS hx; (try replace hrs := hrs.mono hx.le); (try clear hx); intro hc ht hv))
      | ((with_reducible refine at_dst 55 ?_ ?_); (focus rfl); ((refine no_implicit_lambda% (r1zMbareP ?_)); (try clear hc ht hv); clear hS; intro c b w hS hx; (try replace hrs := hrs.mono hx.le); (try clear hx); intro hc ht hv))
      | ((with_reducible refine at_dst 56 ?_ ?_); (focus rfl); ((refine no_implicit_lambda% (apzM ?_)); (try clear hc ht hv); clear hS; intro c A56 d56 w hS hx; (try replace hrs := hrs.mono hx.le); (try clear hx); intro hc ht hv))
      | ((refine no_implicit_lambda% (sazC ?_)); (try clear hc ht hv); clear hS; intro w hS hc ht hv)
      | ((refine no_implicit_lambda% (sazM ?_)); (try clear hc ht hv); clear hS; intro w hS hc ht hv)
      | ((refine no_implicit_lambda% (sazR ?_)); (try clear hc ht hv); clear hS; intro w hS hc ht hv)))
    | (go_at_call 105; refine (l5Is_t hS.tw tyA tyA).mono ?_; rintro e w ⟨bq, rfl, hb⟩; replace hS := hS.past hb; clear hb; (try clear hc ht hv); (try dsimp only); (refine no_implicit_lambda% (fct ?_)); intro hc ht hv; cases bq)
    | (go_at_call 77; refine (l3Has_t hS.tw slA tyA).mono ?_; rintro e w ⟨bq, rfl, hb⟩; replace hS := hS.past hb; clear hb; (try clear hc ht hv); (try dsimp only); (refine no_implicit_lambda% (fct ?_)); intro hc ht hv; cases bq)
    | (go_at_call 89; refine (l5Note_t hS.tw tyA tyA).mono ?_; rintro e w ⟨c, rs, rfl, hrs, hx, hT', hb⟩; (try replace hobV := KB.call hx hb hobV); replace hS := hS.below hx hT' (by omega) (by omega) hb; clear hx hT' hb; (try clear hc ht hv); (obtain ⟨_, _, _, _, _, _, _, _, _, _, _, _, _, rfl, _, _, _, _, _, _, _, _⟩ := hrs.rep); (try dsimp only); (refine no_implicit_lambda% (fct ?_)); intro hc ht hv)
    | (go_at_call 51; refine (l4Count_t hS.tw slA tyA).mono ?_; rintro e w ⟨x, rfl, hb⟩; replace hS := hS.past hb; clear hb; (try clear hc ht hv); (try dsimp only); (refine no_implicit_lambda% (fct ?_)); intro hc ht hv)
    | (go_at_call 106; refine (l5Finish_t hS.tw tyA tyA (by omega)).mono ?_; rintro e w ⟨c, rs, rfl, hrs, hx, hT', hb⟩; (try replace hobV := KB.call hx hb hobV); replace hS := hS.below hx hT' (by omega) (by omega) hb; clear hx hT' hb; (try clear hc ht hv); (obtain ⟨_, _, _, _, _, _, _, _, _, _, _, _, _, rfl, _, _, _, _, _, _, _, _⟩ := hrs.rep); (try dsimp only); (refine no_implicit_lambda% (fct ?_)); intro hc ht hv)
    | fail)
        all_goals
          go_roundw
          case rel => first | exact ⟨i + 1, m, c, _, _, _, by omega, by omega, by go_num, rfl, (hS.tailL.tailL).raise (Nat.le_refl T) (by omega)⟩ | exact ⟨i + 1, m, c, _, _, _, by omega, by omega, by go_num, rfl, (hS.tailL.tailL.tailV).raise (Nat.le_refl T) (by omega)⟩ | exact ⟨i + 1, m, c, _, _, _, by omega, by omega, by go_num, rfl, (hS.tailL).raise (Nat.le_refl T) (by omega)⟩ | exact ⟨i + 1, m, c, _, _, _, by omega, by omega, by go_num, rfl, (hS.tailL.tailV).raise (Nat.le_refl T) (by omega)⟩ | exact ⟨i + 1, m, c, _, _, _, by omega, by omega, by go_num, rfl, (hS).raise (Nat.le_refl T) (by omega)⟩ | exact ⟨i + 1, m, c, _, _, _, by omega, by omega, by go_num, rfl, (hS.tailV).raise (Nat.le_refl T) (by omega)⟩ | exact ⟨i + 1, m + 1, c, _, _, _, by omega, by omega, by go_num, rfl, (hS.tailL.tailL).raise (Nat.le_refl T) (by omega)⟩ | exact ⟨i + 1, m + 1, c, _, _, _, by omega, by omega, by go_num, rfl, (hS.tailL.tailL.tailV).raise (Nat.le_refl T) (by omega)⟩ | exact ⟨i + 1, m + 1, c, _, _, _, by omega, by omega, by go_num, rfl, (hS.tailL).raise (Nat.le_refl T) (by omega)⟩ | exact ⟨i + 1, m + 1, c, _, _, _, by omega, by omega, by go_num, rfl, (hS.tailL.tailV).raise (Nat.le_refl T) (by omega)⟩ | exact ⟨i + 1, m + 1, c, _, _, _, by omega, by omega, by go_num, rfl, (hS).raise (Nat.le_refl T) (by omega)⟩ | exact ⟨i + 1, m + 1, c, _, _, _, by omega, by omega, by go_num, rfl, (hS.tailV).raise (Nat.le_refl T) (by omega)⟩
          case measure => simp [intOf]; omega
    · have d0 : decide ((i : Int) < (n1 : Int)) = false := by simp; omega
      replace hS := hS.raise (Nat.le_refl T) (show D + i ≤ D + T by omega)
      (try clear hc ht hv); (refine no_implicit_lambda% (fct ?_)); intro hc ht hv
      go_wp2_with (first
    | ((refine no_implicit_lambda% (hdE ?_)); intro K hK; (first
      | ((with_reducible refine at_dst 1 ?_ ?_); (focus rfl); (refine no_implicit_lambda% (aB ?_)); (try clear hc ht hv); clear hS; intro b1 w hS hc ht hv)
      | ((with_reducible refine at_dst 2 ?_ ?_); (focus rfl); (refine no_implicit_lambda% (alzR ?_)); (try clear hc ht hv); clear hS; intro b2 w hS hc ht hv)
      | ((with_reducible refine at_dst 6 ?_ ?_); (focus rfl); (refine no_implicit_lambda% (alzC ?_)); (try clear hc ht hv); clear hS; intro b6 w hS hc ht hv)
      | ((with_reducible refine at_dst 7 ?_ ?_); (focus rfl); (refine no_implicit_lambda% (alzM ?_)); (try clear hc ht hv); clear hS; intro b7 w hS hc ht hv)
      | ((with_reducible refine at_dst 8 ?_ ?_); (focus rfl); ((refine no_implicit_lambda% (r0zMbareP ?_)); (try clear hc ht hv); clear hS; intro c b w hS hx; (try replace hrs := hrs.mono hx.le); (try clear hx); intro hc ht hv))
      | ((with_reducible refine at_dst 55 ?_ ?_); (focus rfl); ((refine no_implicit_lambda% (r1zMbareP ?_)); (try clear hc ht hv); clear hS; intro c b w hS hx; (try replace hrs := hrs.mono hx.le); (try clear hx); intro hc ht hv))
      | ((with_reducible refine at_dst 56 ?_ ?_); (focus rfl); ((refine no_implicit_lambda% (apzM ?_)); (try clear hc ht hv); clear hS; intro c A56 d56 w hS hx; (try replace hrs := hrs.mono hx.le); (try clear hx); intro hc ht hv))
      | ((refine no_implicit_lambda% (sazC ?_)); (try clear hc ht hv); clear hS; intro w hS hc ht hv)
      | ((refine no_implicit_lambda% (sazM ?_)); (try clear hc ht hv); clear hS; intro w hS hc ht hv)
      | ((refine no_implicit_lambda% (sazR ?_)); (try clear hc ht hv); clear hS; intro w hS hc ht hv)))
    | (go_at_call 105; refine (l5Is_t hS.tw tyA tyA).mono ?_; rintro e w ⟨bq, rfl, hb⟩; replace hS := hS.past hb; clear hb; (try clear hc ht hv); (try dsimp only); (refine no_implicit_lambda% (fct ?_)); intro hc ht hv; cases bq)
    | (go_at_call 77; refine (l3Has_t hS.tw slA tyA).mono ?_; rintro e w ⟨bq, rfl, hb⟩; replace hS := hS.past hb; clear hb; (try clear hc ht hv); (try dsimp only); (refine no_implicit_lambda% (fct ?_)); intro hc ht hv; cases bq)
    | (go_at_call 89; refine (l5Note_t hS.tw tyA tyA).mono ?_; rintro e w ⟨c, rs, rfl, hrs, hx, hT', hb⟩; (try replace hobV := KB.call hx hb hobV); replace hS := hS.below hx hT' (by omega) (by omega) hb; clear hx hT' hb; (try clear hc ht hv); (obtain ⟨_, _, _, _, _, _, _, _, _, _, _, _, _, rfl, _, _, _, _, _, _, _, _⟩ := hrs.rep); (try dsimp only); (refine no_implicit_lambda% (fct ?_)); intro hc ht hv)
    | (go_at_call 51; refine (l4Count_t hS.tw slA tyA).mono ?_; rintro e w ⟨x, rfl, hb⟩; replace hS := hS.past hb; clear hb; (try clear hc ht hv); (try dsimp only); (refine no_implicit_lambda% (fct ?_)); intro hc ht hv)
    | (go_at_call 106; refine (l5Finish_t hS.tw tyA tyA (by omega)).mono ?_; rintro e w ⟨c, rs, rfl, hrs, hx, hT', hb⟩; (try replace hobV := KB.call hx hb hobV); replace hS := hS.below hx hT' (by omega) (by omega) hb; clear hx hT' hb; (try clear hc ht hv); (obtain ⟨_, _, _, _, _, _, _, _, _, _, _, _, _, rfl, _, _, _, _, _, _, _, _⟩ := hrs.rep); (try dsimp only); (refine no_implicit_lambda% (fct ?_)); intro hc ht hv)
    | fail)
      all_goals (exact no_implicit_lambda% fRM4_3)
end
end Go.Proofs.Ytopmbnnjhoinkaa
