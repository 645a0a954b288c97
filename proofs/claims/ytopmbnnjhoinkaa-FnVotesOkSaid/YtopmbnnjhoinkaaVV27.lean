/-
  What 'FVd' rests on (texts of this seat put together: TX3).
  Conditions: none.
-/
import Derived.Test.YtopmbnnjhoinkaaVV26
namespace Go.Proofs.Ytopmbnnjhoinkaa
open Go Go.RowKit Rg
set_option linter.unusedVariables false
set_option linter.unusedSimpArgs false
set_option maxHeartbeats 1000000
theorem l3Leader_t (v : Int) (w : World) : Calls Try.prog 71 #[.int .i64 v] w fun e w' => ∃ x : Int, e = .returned (.int .i64 x) ∧ w = w' := by
  go_enter Try.func71, Try.ntmps71
  go_wp2
  go_ret
  exact ⟨_, rfl, rfl⟩
section
variable {T D : Nat} {c0 : Cx} {w0 : World} {rs cs us vs : List Value} {A : Option Addr} {n d : Nat} {kind view : Int}
set_option maxRecDepth 100000 in
set_option maxHeartbeats 4000000 in
theorem l4Count_t (hT : TW T D c0 w0) (hs : SlV c0 34 (.slice A n d)) (hq : TyE T D c0 tC cs) :
    Calls Try.prog 51 #[.slice A n d, .int .i64 kind, .agg cs.toArray] w0 fun e w' => ∃ x : Int, e = .returned (.int .i64 x) ∧ Below w0.heap.size w0 w' := by
  obtain ⟨t, rfl, h2⟩ := hq.claim
  have hS : St ⟨c0, w0, none⟩ 0 (T) (D) c0 [] [] w0 := (St.start hT (fun g hg => by cases hg)).raise (by omega) (by omega)
  have hcap := hs.cap
  unfold maxLen at hcap
  go_enter Try.func51, Try.ntmps51
  go_wp2_with (first
    | ((refine no_implicit_lambda% (hdE ?_)); intro K hK; (first
      | ((with_reducible refine at_dst 5 ?_ ?_); (focus rfl); (refine no_implicit_lambda% (aB ?_)); (try clear hc ht hv); clear hS; intro b5 w hS hc ht hv)
      | ((with_reducible refine at_dst 11 ?_ ?_); (focus rfl); (refine no_implicit_lambda% (alzM ?_)); (try clear hc ht hv); clear hS; intro b11 w hS hc ht hv)
      | ((refine no_implicit_lambda% (sazM ?_)); (try clear hc ht hv); clear hS; intro w hS hc ht hv)))
    | (go_at_call 71; refine (l3Leader_t _ _).mono ?_; rintro e w' ⟨x, rfl, rfl⟩; (try dsimp only))
    | fail)
  go_loopw [7, 8, 9, 10] (fun nv kv _ _ wr => ∃ (kk m : Nat), kk ≤ 4 ∧ m ≤ kk ∧ kv = .int .i64 (kk : Int) ∧ nv = .int .i64 (m : Int) ∧ St ⟨c0, w0, none⟩ 0 T D c0 [(b5, 27, [.int .i64 t.1, .int .i64 t.2.1, .int .i64 t.2.2.1, .int .i64 t.2.2.2.1, .int .i64 t.2.2.2.2.1, .int .i64 t.2.2.2.2.2.1, .int .i64 t.2.2.2.2.2.2])] [] wr) (fun _ kv _ _ _ => 4 - (intOf kv).toNat)
  case atStart => exact ⟨0, 0, by omega, by omega, rfl, rfl, hS⟩
  case round =>
    (try clear hc ht hv); clear hS
    obtain ⟨kk, m, hk4, hmk, rfl, rfl, hS⟩ := hrel
    by_cases hlt : kk < 4
    · (try clear hc ht hv); (refine no_implicit_lambda% (fct ?_)); intro hc ht hv
      go_wp2_with (first
    | ((refine no_implicit_lambda% (hdE ?_)); intro K hK; (first
      | ((with_reducible refine at_dst 5 ?_ ?_); (focus rfl); (refine no_implicit_lambda% (aB ?_)); (try clear hc ht hv); clear hS; intro b5 w hS hc ht hv)
      | ((with_reducible refine at_dst 11 ?_ ?_); (focus rfl); (refine no_implicit_lambda% (alzM ?_)); (try clear hc ht hv); clear hS; intro b11 w hS hc ht hv)
      | ((refine no_implicit_lambda% (sazM ?_)); (try clear hc ht hv); clear hS; intro w hS hc ht hv)))
    | (go_at_call 71; refine (l3Leader_t _ _).mono ?_; rintro e w' ⟨x, rfl, rfl⟩; (try dsimp only))
    | fail)
      go_loopw [9, 10] (fun isv iv ws => ∃ (i : Nat) (is : Bool), i ≤ n ∧ iv = .int .i64 (i : Int) ∧ isv = .bool is ∧ St ⟨c0, w0, none⟩ 0 T D c0 [(b5, 27, [.int .i64 t.1, .int .i64 t.2.1, .int .i64 t.2.2.1, .int .i64 t.2.2.2.1, .int .i64 t.2.2.2.2.1, .int .i64 t.2.2.2.2.2.1, .int .i64 t.2.2.2.2.2.2])] [] ws) (fun _ iv _ => n - (intOf iv).toNat)
      case atStart => exact ⟨0, false, Nat.zero_le _, rfl, rfl, hS⟩
      case round =>
        (try clear hc ht hv); clear hS
        obtain ⟨i, is, hi, rfl, rfl, hS⟩ := hrel
        by_cases hlti : i < n
        · obtain ⟨g, off, rfl⟩ := hs.addr hlti
          obtain ⟨kd, fr, mv, sq, mr, Ac, nc, dc, Av, nv, dv, a0, a1, a2, a3, a4, a5, a6, a7, a8, a9, a10, u1, u2, u3, u4, u5⟩ := hT.msgAt hs hlti
          have hr := fun W => run_eq_req mr t.2.2 W
          (try clear hc ht hv); (refine no_implicit_lambda% (fct ?_)); intro hc ht hv; (refine no_implicit_lambda% (fxee6d1 ?_)); intro e0 e1 e2 e3 e4 e5 e6 e7 e8 e9 e10
          cases f0 : (is)
          · cases f1 : (kd == kind)
            · (try simp only [f5] at hr)
              go_wp2_with (first
                  | ((refine no_implicit_lambda% (hdE ?_)); intro K hK; (first
                    | ((with_reducible refine at_dst 5 ?_ ?_); (focus rfl); (refine no_implicit_lambda% (aB ?_)); (try clear hc ht hv); (try clear e0 e1 e2 e3 e4 e5 e6 e7 e8 e9 e10); clear hS; intro b5 w hS hc ht hv; (refine no_implicit_lambda% (fxee6d1 ?_)); intro e0 e1 e2 e3 e4 e5 e6 e7 e8 e9 e10)
                    | ((with_reducible refine at_dst 11 ?_ ?_); (focus rfl); (refine no_implicit_lambda% (alzM ?_)); (try clear hc ht hv); (try clear e0 e1 e2 e3 e4 e5 e6 e7 e8 e9 e10); clear hS; intro b11 w hS hc ht hv; (refine no_implicit_lambda% (fxee6d1 ?_)); intro e0 e1 e2 e3 e4 e5 e6 e7 e8 e9 e10)
                    | ((refine no_implicit_lambda% (sazM ?_)); (try clear hc ht hv); (try clear e0 e1 e2 e3 e4 e5 e6 e7 e8 e9 e10); clear hS; intro w hS hc ht hv; (refine no_implicit_lambda% (fxee6d1 ?_)); intro e0 e1 e2 e3 e4 e5 e6 e7 e8 e9 e10)))
                  | (go_at_call 71; refine (l3Leader_t _ _).mono ?_; rintro e w' ⟨x, rfl, rfl⟩; (try dsimp only))
                  | fail)
              go_roundw
              case rel => exact ⟨i + 1, _, by omega, by go_num, rfl, hS.tailL⟩
              case measure => simp [intOf]; omega
            · cases f2 : (fr == (kk : Int))
              · (try simp only [f5] at hr)
                go_wp2_with (first
                    | ((refine no_implicit_lambda% (hdE ?_)); intro K hK; (first
                      | ((with_reducible refine at_dst 5 ?_ ?_); (focus rfl); (refine no_implicit_lambda% (aB ?_)); (try clear hc ht hv); (try clear e0 e1 e2 e3 e4 e5 e6 e7 e8 e9 e10); clear hS; intro b5 w hS hc ht hv; (refine no_implicit_lambda% (fxee6d1 ?_)); intro e0 e1 e2 e3 e4 e5 e6 e7 e8 e9 e10)
                      | ((with_reducible refine at_dst 11 ?_ ?_); (focus rfl); (refine no_implicit_lambda% (alzM ?_)); (try clear hc ht hv); (try clear e0 e1 e2 e3 e4 e5 e6 e7 e8 e9 e10); clear hS; intro b11 w hS hc ht hv; (refine no_implicit_lambda% (fxee6d1 ?_)); intro e0 e1 e2 e3 e4 e5 e6 e7 e8 e9 e10)
                      | ((refine no_implicit_lambda% (sazM ?_)); (try clear hc ht hv); (try clear e0 e1 e2 e3 e4 e5 e6 e7 e8 e9 e10); clear hS; intro w hS hc ht hv; (refine no_implicit_lambda% (fxee6d1 ?_)); intro e0 e1 e2 e3 e4 e5 e6 e7 e8 e9 e10)))
                    | (go_at_call 71; refine (l3Leader_t _ _).mono ?_; rintro e w' ⟨x, rfl, rfl⟩; (try dsimp only))
                    | fail)
                go_roundw
                case rel => exact ⟨i + 1, _, by omega, by go_num, rfl, hS.tailL⟩
                case measure => simp [intOf]; omega
              · cases f3 : (mv == t.2.1)
                · (try simp only [f5] at hr)
                  go_wp2_with (first
                      | ((refine no_implicit_lambda% (hdE ?_)); intro K hK; (first
                        | ((with_reducible refine at_dst 5 ?_ ?_); (focus rfl); (refine no_implicit_lambda% (aB ?_)); (try clear hc ht hv); (try clear e0 e1 e2 e3 e4 e5 e6 e7 e8 e9 e10); clear hS; intro b5 w hS hc ht hv; (refine no_implicit_lambda% (fxee6d1 ?_)); intro e0 e1 e2 e3 e4 e5 e6 e7 e8 e9 e10)
                        | ((with_reducible refine at_dst 11 ?_ ?_); (focus rfl); (refine no_implicit_lambda% (alzM ?_)); (try clear hc ht hv); (try clear e0 e1 e2 e3 e4 e5 e6 e7 e8 e9 e10); clear hS; intro b11 w hS hc ht hv; (refine no_implicit_lambda% (fxee6d1 ?_)); intro e0 e1 e2 e3 e4 e5 e6 e7 e8 e9 e10)
                        | ((refine no_implicit_lambda% (sazM ?_)); (try clear hc ht hv); (try clear e0 e1 e2 e3 e4 e5 e6 e7 e8 e9 e10); clear hS; intro w hS hc ht hv; (refine no_implicit_lambda% (fxee6d1 ?_)); intro e0 e1 e2 e3 e4 e5 e6 e7 e8 e9 e10)))
                      | (go_at_call 71; refine (l3Leader_t _ _).mono ?_; rintro e w' ⟨x, rfl, rfl⟩; (try dsimp only))
                      | fail)
                  go_roundw
                  case rel => exact ⟨i + 1, _, by omega, by go_num, rfl, hS.tailL⟩
                  case measure => simp [intOf]; omega
                · cases f4 : (sq == t.1)
                  · (try simp only [f5] at hr)
                    go_wp2_with (first
                        | ((refine no_implicit_lambda% (hdE ?_)); intro K hK; (first
                          | ((with_reducible refine at_dst 5 ?_ ?_); (focus rfl); (refine no_implicit_lambda% (aB ?_)); (try clear hc ht hv); (try clear e0 e1 e2 e3 e4 e5 e6 e7 e8 e9 e10); clear hS; intro b5 w hS hc ht hv; (refine no_implicit_lambda% (fxee6d1 ?_)); intro e0 e1 e2 e3 e4 e5 e6 e7 e8 e9 e10)
                          | ((with_reducible refine at_dst 11 ?_ ?_); (focus rfl); (refine no_implicit_lambda% (alzM ?_)); (try clear hc ht hv); (try clear e0 e1 e2 e3 e4 e5 e6 e7 e8 e9 e10); clear hS; intro b11 w hS hc ht hv; (refine no_implicit_lambda% (fxee6d1 ?_)); intro e0 e1 e2 e3 e4 e5 e6 e7 e8 e9 e10)
                          | ((refine no_implicit_lambda% (sazM ?_)); (try clear hc ht hv); (try clear e0 e1 e2 e3 e4 e5 e6 e7 e8 e9 e10); clear hS; intro w hS hc ht hv; (refine no_implicit_lambda% (fxee6d1 ?_)); intro e0 e1 e2 e3 e4 e5 e6 e7 e8 e9 e10)))
                        | (go_at_call 71; refine (l3Leader_t _ _).mono ?_; rintro e w' ⟨x, rfl, rfl⟩; (try dsimp only))
                        | fail)
                    go_roundw
                    case rel => exact ⟨i + 1, _, by omega, by go_num, rfl, hS.tailL⟩
                    case measure => simp [intOf]; omega
                  · cases f5 : (decide (mr = t.2.2))
                    · (try simp only [f5] at hr)
                      go_wp2_with (first
                          | ((refine no_implicit_lambda% (hdE ?_)); intro K hK; (first
                            | ((with_reducible refine at_dst 5 ?_ ?_); (focus rfl); (refine no_implicit_lambda% (aB ?_)); (try clear hc ht hv); (try clear e0 e1 e2 e3 e4 e5 e6 e7 e8 e9 e10); clear hS; intro b5 w hS hc ht hv; (refine no_implicit_lambda% (fxee6d1 ?_)); intro e0 e1 e2 e3 e4 e5 e6 e7 e8 e9 e10)
                            | ((with_reducible refine at_dst 11 ?_ ?_); (focus rfl); (refine no_implicit_lambda% (alzM ?_)); (try clear hc ht hv); (try clear e0 e1 e2 e3 e4 e5 e6 e7 e8 e9 e10); clear hS; intro b11 w hS hc ht hv; (refine no_implicit_lambda% (fxee6d1 ?_)); intro e0 e1 e2 e3 e4 e5 e6 e7 e8 e9 e10)
                            | ((refine no_implicit_lambda% (sazM ?_)); (try clear hc ht hv); (try clear e0 e1 e2 e3 e4 e5 e6 e7 e8 e9 e10); clear hS; intro w hS hc ht hv; (refine no_implicit_lambda% (fxee6d1 ?_)); intro e0 e1 e2 e3 e4 e5 e6 e7 e8 e9 e10)))
                          | (go_at_call 71; refine (l3Leader_t _ _).mono ?_; rintro e w' ⟨x, rfl, rfl⟩; (try dsimp only))
                          | fail)
                      go_roundw
                      case rel => exact ⟨i + 1, _, by omega, by go_num, rfl, hS.tailL⟩
                      case measure => simp [intOf]; omega
                    · (try simp only [f5] at hr)
                      go_wp2_with (first
                          | ((refine no_implicit_lambda% (hdE ?_)); intro K hK; (first
                            | ((with_reducible refine at_dst 5 ?_ ?_); (focus rfl); (refine no_implicit_lambda% (aB ?_)); (try clear hc ht hv); (try clear e0 e1 e2 e3 e4 e5 e6 e7 e8 e9 e10); clear hS; intro b5 w hS hc ht hv; (refine no_implicit_lambda% (fxee6d1 ?_)); intro e0 e1 e2 e3 e4 e5 e6 e7 e8 e9 e10)
                            | ((with_reducible refine at_dst 11 ?_ ?_); (focus rfl); (refine no_implicit_lambda% (alzM ?_)); (try clear hc ht hv); (try clear e0 e1 e2 e3 e4 e5 e6 e7 e8 e9 e10); clear hS; intro b11 w hS hc ht hv; (refine no_implicit_lambda% (fxee6d1 ?_)); intro e0 e1 e2 e3 e4 e5 e6 e7 e8 e9 e10)
                            | ((refine no_implicit_lambda% (sazM ?_)); (try clear hc ht hv); (try clear e0 e1 e2 e3 e4 e5 e6 e7 e8 e9 e10); clear hS; intro w hS hc ht hv; (refine no_implicit_lambda% (fxee6d1 ?_)); intro e0 e1 e2 e3 e4 e5 e6 e7 e8 e9 e10)))
                          | (go_at_call 71; refine (l3Leader_t _ _).mono ?_; rintro e w' ⟨x, rfl, rfl⟩; (try dsimp only))
                          | fail)
                      go_roundw
                      case rel => exact ⟨i + 1, _, by omega, by go_num, rfl, hS.tailL⟩
                      case measure => simp [intOf]; omega
          · (try simp only [f5] at hr)
            go_wp2_with (first
                | ((refine no_implicit_lambda% (hdE ?_)); intro K hK; (first
                  | ((with_reducible refine at_dst 5 ?_ ?_); (focus rfl); (refine no_implicit_lambda% (aB ?_)); (try clear hc ht hv); (try clear e0 e1 e2 e3 e4 e5 e6 e7 e8 e9 e10); clear hS; intro b5 w hS hc ht hv; (refine no_implicit_lambda% (fxee6d1 ?_)); intro e0 e1 e2 e3 e4 e5 e6 e7 e8 e9 e10)
                  | ((with_reducible refine at_dst 11 ?_ ?_); (focus rfl); (refine no_implicit_lambda% (alzM ?_)); (try clear hc ht hv); (try clear e0 e1 e2 e3 e4 e5 e6 e7 e8 e9 e10); clear hS; intro b11 w hS hc ht hv; (refine no_implicit_lambda% (fxee6d1 ?_)); intro e0 e1 e2 e3 e4 e5 e6 e7 e8 e9 e10)
                  | ((refine no_implicit_lambda% (sazM ?_)); (try clear hc ht hv); (try clear e0 e1 e2 e3 e4 e5 e6 e7 e8 e9 e10); clear hS; intro w hS hc ht hv; (refine no_implicit_lambda% (fxee6d1 ?_)); intro e0 e1 e2 e3 e4 e5 e6 e7 e8 e9 e10)))
                | (go_at_call 71; refine (l3Leader_t _ _).mono ?_; rintro e w' ⟨x, rfl, rfl⟩; (try dsimp only))
                | fail)
            go_roundw
            case rel => exact ⟨i + 1, _, by omega, by go_num, rfl, hS.tailL⟩
            case measure => simp [intOf]; omega
        · obtain rfl : i = n := by omega
          (try clear hc ht hv); (refine no_implicit_lambda% (fct ?_)); intro hc ht hv
          cases f0 : (is)
          · go_wp2_with (first
                | ((refine no_implicit_lambda% (hdE ?_)); intro K hK; (first
                  | ((with_reducible refine at_dst 5 ?_ ?_); (focus rfl); (refine no_implicit_lambda% (aB ?_)); (try clear hc ht hv); clear hS; intro b5 w hS hc ht hv)
                  | ((with_reducible refine at_dst 11 ?_ ?_); (focus rfl); (refine no_implicit_lambda% (alzM ?_)); (try clear hc ht hv); clear hS; intro b11 w hS hc ht hv)
                  | ((refine no_implicit_lambda% (sazM ?_)); (try clear hc ht hv); clear hS; intro w hS hc ht hv)))
                | (go_at_call 71; refine (l3Leader_t _ _).mono ?_; rintro e w' ⟨x, rfl, rfl⟩; (try dsimp only))
                | fail)
            all_goals
              go_roundw
              case rel => first | exact ⟨kk + 1, m, by omega, by omega, by go_num, by first | rfl | go_num, hS⟩ | exact ⟨kk + 1, m + 1, by omega, by omega, by go_num, by first | rfl | go_num, hS⟩
              case measure => simp [intOf]; omega
          · cases f1 : (kind != 3)
            · go_wp2_with (first
                  | ((refine no_implicit_lambda% (hdE ?_)); intro K hK; (first
                    | ((with_reducible refine at_dst 5 ?_ ?_); (focus rfl); (refine no_implicit_lambda% (aB ?_)); (try clear hc ht hv); clear hS; intro b5 w hS hc ht hv)
                    | ((with_reducible refine at_dst 11 ?_ ?_); (focus rfl); (refine no_implicit_lambda% (alzM ?_)); (try clear hc ht hv); clear hS; intro b11 w hS hc ht hv)
                    | ((refine no_implicit_lambda% (sazM ?_)); (try clear hc ht hv); clear hS; intro w hS hc ht hv)))
                  | (go_at_call 71; refine (l3Leader_t _ _).mono ?_; rintro e w' ⟨x, rfl, rfl⟩; (try dsimp only))
                  | fail)
              all_goals
                go_roundw
                case rel => first | exact ⟨kk + 1, m, by omega, by omega, by go_num, by first | rfl | go_num, hS⟩ | exact ⟨kk + 1, m + 1, by omega, by omega, by go_num, by first | rfl | go_num, hS⟩
                case measure => simp [intOf]; omega
            · go_wp2_with (first
                  | ((refine no_implicit_lambda% (hdE ?_)); intro K hK; (first
                    | ((with_reducible refine at_dst 5 ?_ ?_); (focus rfl); (refine no_implicit_lambda% (aB ?_)); (try clear hc ht hv); clear hS; intro b5 w hS hc ht hv)
                    | ((with_reducible refine at_dst 11 ?_ ?_); (focus rfl); (refine no_implicit_lambda% (alzM ?_)); (try clear hc ht hv); clear hS; intro b11 w hS hc ht hv)
                    | ((refine no_implicit_lambda% (sazM ?_)); (try clear hc ht hv); clear hS; intro w hS hc ht hv)))
                  | (go_at_call 71; refine (l3Leader_t _ _).mono ?_; rintro e w' ⟨x, rfl, rfl⟩; (try dsimp only))
                  | fail)
              all_goals
                go_roundw
                case rel => first | exact ⟨kk + 1, m, by omega, by omega, by go_num, by first | rfl | go_num, hS⟩ | exact ⟨kk + 1, m + 1, by omega, by omega, by go_num, by first | rfl | go_num, hS⟩
                case measure => simp [intOf]; omega
    · obtain rfl : kk = 4 := by omega
      (try clear hc ht hv); (refine no_implicit_lambda% (fct ?_)); intro hc ht hv
      go_wp2_with (first
    | ((refine no_implicit_lambda% (hdE ?_)); intro K hK; (first
      | ((with_reducible refine at_dst 5 ?_ ?_); (focus rfl); (refine no_implicit_lambda% (aB ?_)); (try clear hc ht hv); clear hS; intro b5 w hS hc ht hv)
      | ((with_reducible refine at_dst 11 ?_ ?_); (focus rfl); (refine no_implicit_lambda% (alzM ?_)); (try clear hc ht hv); clear hS; intro b11 w hS hc ht hv)
      | ((refine no_implicit_lambda% (sazM ?_)); (try clear hc ht hv); clear hS; intro w hS hc ht hv)))
    | (go_at_call 71; refine (l3Leader_t _ _).mono ?_; rintro e w' ⟨x, rfl, rfl⟩; (try dsimp only))
    | fail)
      all_goals (go_ret; exact ⟨_, rfl, hS.fin.2.2⟩)
end
end Go.Proofs.Ytopmbnnjhoinkaa
