/-
  What 'FVd' rests on (texts of this seat put together: TRd).
  Conditions: none.
-/
import Derived.Test.YtopmbnnjhoinkaaVV46
namespace Go.Proofs.Ytopmbnnjhoinkaa
open Go Go.RowKit Rg
set_option linter.unusedVariables false
set_option linter.unusedSimpArgs false
set_option maxHeartbeats 1000000
section
variable {T D P g : Nat} {c0 : Cx} {w0 : World} {bad : Int} {A : Option Addr} {d : Nat} {B : Option Addr} {p q : Nat} {C : Option Addr} {m f : Nat}
set_option maxRecDepth 100000 in
set_option maxHeartbeats 20000000 in
theorem l20Real_t (hT : TW T D c0 w0) (hR : Rd w0 g P) (hG : c0 g = none) (hP : P ≤ 800000) (h2 : SlV c0 tM (.slice B p q)) (hp : p ≤ 100) {vw : Int} (h1 : SlV c0 tR (.slice A 4 d)) :
    Calls Try.prog 27 #[.pointer (some ⟨g, 0, none⟩), .agg (List.toArray [.int .i64 bad, .slice A 4 d, .slice B p q]), .int .i64 vw] w0 fun e w' => PSlR tV noP 3 T D c0 w0 g (P + 400) e w' := by
  have hS : St ⟨c0, w0, some g⟩ P T D c0 [] [] w0 := St.startR hT hR hG
  go_enter Try.func27, Try.ntmps27
  go_wp2_with (first
    | ((refine no_implicit_lambda% (hdE ?_)); intro K hK; (first
      | ((with_reducible refine at_dst 4 ?_ ?_); (focus rfl); (refine no_implicit_lambda% (aB ?_)); (try clear hc ht hv); clear hS; intro b4 w hS hc ht hv)
      | ((with_reducible refine at_dst 10 ?_ ?_); (focus rfl); (refine no_implicit_lambda% (abzM ?_)); (try clear hc ht hv); clear hS; intro b10 w hS hbl; (try replace hobV := KB.below hbl hobV); clear hbl; intro hc ht hv)
      | ((with_reducible refine at_dst 11 ?_ ?_); (focus rfl); ((refine no_implicit_lambda% (r0zVnoP ?_)); (try clear hc ht hv); clear hS; intro c b w hS hx; (try clear hx); intro hc ht hv))
      | ((with_reducible refine at_dst 74 ?_ ?_); (focus rfl); ((refine no_implicit_lambda% (r1zVnoP ?_)); (try clear hc ht hv); clear hS; intro c b w hS hx; (try clear hx); intro hc ht hv))
      | ((with_reducible refine at_dst 75 ?_ ?_); (focus rfl); ((refine no_implicit_lambda% (apzV ?_)); (try clear hc ht hv); clear hS; intro c A75 d75 w hS hx; (try clear hx); intro hc ht hv))
      | ((refine no_implicit_lambda% (sbzM ?_)); (try clear hc ht hv); clear hS; intro w hS hks; (try replace hobV := hks _ _ hobV); clear hks; intro hc ht hv)))
    | (go_at_call 25; refine (pick_c _ _ _ _ (hS.rd _ rfl).1 (by omega) (by omega)).mono ?_; rintro e w ⟨kq, rfl, hkq, hr', ho⟩; replace hkq := hkq.1 (by omega); (try replace hobV := KB.callR (Ext.refl _ _) ho (hS.rdc rfl) hobV); replace hS := hS.pastR rfl ho hr'; clear hr' ho; (try clear hc ht hv); (try dsimp only); (refine no_implicit_lambda% (fct ?_)); intro hc ht hv)
    | fail)
  go_loopw [7, 8, 9] (fun sv kv _ wr => ∃ (kk m : Nat) (c : Cx) (A' : Option Addr) (d' : Nat), kk ≤ 4 ∧ m ≤ 3 ∧ kv = .int .i64 (kk : Int) ∧ sv = .slice A' m d' ∧ St ⟨c0, w0, some g⟩ (P + 100 * kk) T D c [(b4, tW, [.int .i64 bad, .slice A 4 d, .slice B p q])] [(tV, noP, .slice A' m d')] wr) (fun _ kv _ _ => 4 - (intOf kv).toNat)
  case atStart => exact ⟨0, 0, c, _, _, by omega, by omega, rfl, rfl, hS⟩
  case round =>
    (try clear hc ht hv); clear hS
    obtain ⟨kk, m, c, A', d', hk4, hm3, rfl, rfl, hS⟩ := hrel
    by_cases hlt : kk < 4
    · (try clear hc ht hv); (refine no_implicit_lambda% (fct ?_)); intro hc ht hv
      go_wp2_with (first
    | ((refine no_implicit_lambda% (hdE ?_)); intro K hK; (first
      | ((with_reducible refine at_dst 4 ?_ ?_); (focus rfl); (refine no_implicit_lambda% (aB ?_)); (try clear hc ht hv); clear hS; intro b4 w hS hc ht hv)
      | ((with_reducible refine at_dst 10 ?_ ?_); (focus rfl); (refine no_implicit_lambda% (abzM ?_)); (try clear hc ht hv); clear hS; intro b10 w hS hbl; (try replace hobV := KB.below hbl hobV); clear hbl; intro hc ht hv)
      | ((with_reducible refine at_dst 11 ?_ ?_); (focus rfl); ((refine no_implicit_lambda% (r0zVnoP ?_)); (try clear hc ht hv); clear hS; intro c b w hS hx; (try clear hx); intro hc ht hv))
      | ((with_reducible refine at_dst 74 ?_ ?_); (focus rfl); ((refine no_implicit_lambda% (r1zVnoP ?_)); (try clear hc ht hv); clear hS; intro c b w hS hx; (try clear hx); intro hc ht hv))
      | ((with_reducible refine at_dst 75 ?_ ?_); (focus rfl); ((refine no_implicit_lambda% (apzV ?_)); (try clear hc ht hv); clear hS; intro c A75 d75 w hS hx; (try clear hx); intro hc ht hv))
      | ((refine no_implicit_lambda% (sbzM ?_)); (try clear hc ht hv); clear hS; intro w hS hks; (try replace hobV := hks _ _ hobV); clear hks; intro hc ht hv)))
    | (go_at_call 25; refine (pick_c _ _ _ _ (hS.rd _ rfl).1 (by omega) (by omega)).mono ?_; rintro e w ⟨kq, rfl, hkq, hr', ho⟩; replace hkq := hkq.1 (by omega); (try replace hobV := KB.callR (Ext.refl _ _) ho (hS.rdc rfl) hobV); replace hS := hS.pastR rfl ho hr'; clear hr' ho; (try clear hc ht hv); (try dsimp only); (refine no_implicit_lambda% (fct ?_)); intro hc ht hv)
    | fail)
      go_loopw [7, 9] (fun sv iv ws => ∃ (i m : Nat) (c : Cx) (A' : Option Addr) (d' : Nat), i ≤ p ∧ m ≤ 3 ∧ iv = .int .i64 (i : Int) ∧ sv = .slice A' m d' ∧ St ⟨c0, w0, some g⟩ (P + 100 * kk + i) T D c [(b4, tW, [.int .i64 bad, .slice A 4 d, .slice B p q])] [(tV, noP, .slice A' m d')] ws) (fun _ iv _ => p - (intOf iv).toNat)
      case atStart => exact ⟨0, m, c, _, _, Nat.zero_le _, hm3, rfl, rfl, hS⟩
      case round =>
        (try clear hc ht hv); clear hS
        clear hm3
        obtain ⟨i, m, c, A', d', hi, hm3, rfl, rfl, hS⟩ := hrel
        by_cases hlti : i < p
        · obtain ⟨gs, os, rfl⟩ := h2.addr hlti
          obtain ⟨kd, fr, mv, sq, mr, Ac, nc, dc, Av, nv, dv, a0, a1, a2, a3, a4, a5, a6, a7, a8, a9, a10, u1, u2, u3, u4, u5⟩ := hT.msgAt h2 hlti
          have hoG : (Bs.mk c0 w0 (some g)).G ≠ some gs := hoG_of hG h2
          cases f0 : (kd == 5)
          · (try clear hc ht hv); (refine no_implicit_lambda% (fct ?_)); intro hc ht hv; (refine no_implicit_lambda% (fx32ee4 ?_)); intro e0 e1 e2 e3 e4 e5 e6 e7 e8 e9 e10 e12 e14 zz0
            go_wp2_with (first
                | ((refine no_implicit_lambda% (hdE ?_)); intro K hK; (first
                  | ((with_reducible refine at_dst 4 ?_ ?_); (focus rfl); (refine no_implicit_lambda% (aB ?_)); (try clear hc ht hv); (try clear e0 e1 e2 e3 e4 e5 e6 e7 e8 e9 e10 e12 e14 zz0); clear hS; intro b4 w hS hc ht hv; (refine no_implicit_lambda% (fx32ee4 ?_)); intro e0 e1 e2 e3 e4 e5 e6 e7 e8 e9 e10 e12 e14 zz0)
                  | ((with_reducible refine at_dst 10 ?_ ?_); (focus rfl); (refine no_implicit_lambda% (abzM ?_)); (try clear hc ht hv); (try clear e0 e1 e2 e3 e4 e5 e6 e7 e8 e9 e10 e12 e14 zz0); clear hS; intro b10 w hS hbl; (try replace hobV := KB.below hbl hobV); clear hbl; intro hc ht hv; (refine no_implicit_lambda% (fx32ee4 ?_)); intro e0 e1 e2 e3 e4 e5 e6 e7 e8 e9 e10 e12 e14 zz0)
                  | ((with_reducible refine at_dst 11 ?_ ?_); (focus rfl); ((refine no_implicit_lambda% (r0zVnoP ?_)); (try clear hc ht hv); (try clear e0 e1 e2 e3 e4 e5 e6 e7 e8 e9 e10 e12 e14 zz0); clear hS; intro c b w hS hx; (try clear hx); intro hc ht hv; (refine no_implicit_lambda% (fx32ee4 ?_)); intro e0 e1 e2 e3 e4 e5 e6 e7 e8 e9 e10 e12 e14 zz0))
                  | ((with_reducible refine at_dst 74 ?_ ?_); (focus rfl); ((refine no_implicit_lambda% (r1zVnoP ?_)); (try clear hc ht hv); (try clear e0 e1 e2 e3 e4 e5 e6 e7 e8 e9 e10 e12 e14 zz0); clear hS; intro c b w hS hx; (try clear hx); intro hc ht hv; (refine no_implicit_lambda% (fx32ee4 ?_)); intro e0 e1 e2 e3 e4 e5 e6 e7 e8 e9 e10 e12 e14 zz0))
                  | ((with_reducible refine at_dst 75 ?_ ?_); (focus rfl); ((refine no_implicit_lambda% (apzV ?_)); (try clear hc ht hv); (try clear e0 e1 e2 e3 e4 e5 e6 e7 e8 e9 e10 e12 e14 zz0); clear hS; intro c A75 d75 w hS hx; (try clear hx); intro hc ht hv; (refine no_implicit_lambda% (fx32ee4 ?_)); intro e0 e1 e2 e3 e4 e5 e6 e7 e8 e9 e10 e12 e14 zz0))
                  | ((refine no_implicit_lambda% (sbzM ?_)); (try clear hc ht hv); (try clear e0 e1 e2 e3 e4 e5 e6 e7 e8 e9 e10 e12 e14 zz0); clear hS; intro w hS hks; (try replace hobV := hks _ _ hobV); clear hks; intro hc ht hv; (refine no_implicit_lambda% (fx32ee4 ?_)); intro e0 e1 e2 e3 e4 e5 e6 e7 e8 e9 e10 e12 e14 zz0)))
                | (go_at_call 25; refine (pick_c _ _ _ _ (hS.rd _ rfl).1 (by omega) (by omega)).mono ?_; rintro e w ⟨kq, rfl, hkq, hr', ho⟩; replace hkq := hkq.1 (by omega); (try replace hobV := KB.callR (Ext.refl _ _) ho (hS.rdc rfl) hobV); replace hS := hS.pastR rfl ho hr'; clear hr' ho; (try clear hc ht hv); (try clear e0 e1 e2 e3 e4 e5 e6 e7 e8 e9 e10 e12 e14 zz0); (try dsimp only); (refine no_implicit_lambda% (fct ?_)); intro hc ht hv; (refine no_implicit_lambda% (fx32ee4 ?_)); intro e0 e1 e2 e3 e4 e5 e6 e7 e8 e9 e10 e12 e14 zz0)
                | fail)
            all_goals
              go_roundw
              case rel => first | exact ⟨i + 1, m, c, _, _, by omega, by omega, by go_num, rfl, hS.tailL.upP (by omega)⟩ | exact ⟨i + 1, m + 1, c, _, _, by omega, by omega, by go_num, rfl, hS.tailL.tailV.upP (by omega)⟩
              case measure => simp [intOf]; omega
          · cases f1 : (fr == (kk : Int))
            · (try clear hc ht hv); (refine no_implicit_lambda% (fct ?_)); intro hc ht hv; (refine no_implicit_lambda% (fx32ee4 ?_)); intro e0 e1 e2 e3 e4 e5 e6 e7 e8 e9 e10 e12 e14 zz0
              go_wp2_with (first
                  | ((refine no_implicit_lambda% (hdE ?_)); intro K hK; (first
                    | ((with_reducible refine at_dst 4 ?_ ?_); (focus rfl); (refine no_implicit_lambda% (aB ?_)); (try clear hc ht hv); (try clear e0 e1 e2 e3 e4 e5 e6 e7 e8 e9 e10 e12 e14 zz0); clear hS; intro b4 w hS hc ht hv; (refine no_implicit_lambda% (fx32ee4 ?_)); intro e0 e1 e2 e3 e4 e5 e6 e7 e8 e9 e10 e12 e14 zz0)
                    | ((with_reducible refine at_dst 10 ?_ ?_); (focus rfl); (refine no_implicit_lambda% (abzM ?_)); (try clear hc ht hv); (try clear e0 e1 e2 e3 e4 e5 e6 e7 e8 e9 e10 e12 e14 zz0); clear hS; intro b10 w hS hbl; (try replace hobV := KB.below hbl hobV); clear hbl; intro hc ht hv; (refine no_implicit_lambda% (fx32ee4 ?_)); intro e0 e1 e2 e3 e4 e5 e6 e7 e8 e9 e10 e12 e14 zz0)
                    | ((with_reducible refine at_dst 11 ?_ ?_); (focus rfl); ((refine no_implicit_lambda% (r0zVnoP ?_)); (try clear hc ht hv); (try clear e0 e1 e2 e3 e4 e5 e6 e7 e8 e9 e10 e12 e14 zz0); clear hS; intro c b w hS hx; (try clear hx); intro hc ht hv; (refine no_implicit_lambda% (fx32ee4 ?_)); intro e0 e1 e2 e3 e4 e5 e6 e7 e8 e9 e10 e12 e14 zz0))
                    | ((with_reducible refine at_dst 74 ?_ ?_); (focus rfl); ((refine no_implicit_lambda% (r1zVnoP ?_)); (try clear hc ht hv); (try clear e0 e1 e2 e3 e4 e5 e6 e7 e8 e9 e10 e12 e14 zz0); clear hS; intro c b w hS hx; (try clear hx); intro hc ht hv; (refine no_implicit_lambda% (fx32ee4 ?_)); intro e0 e1 e2 e3 e4 e5 e6 e7 e8 e9 e10 e12 e14 zz0))
                    | ((with_reducible refine at_dst 75 ?_ ?_); (focus rfl); ((refine no_implicit_lambda% (apzV ?_)); (try clear hc ht hv); (try clear e0 e1 e2 e3 e4 e5 e6 e7 e8 e9 e10 e12 e14 zz0); clear hS; intro c A75 d75 w hS hx; (try clear hx); intro hc ht hv; (refine no_implicit_lambda% (fx32ee4 ?_)); intro e0 e1 e2 e3 e4 e5 e6 e7 e8 e9 e10 e12 e14 zz0))
                    | ((refine no_implicit_lambda% (sbzM ?_)); (try clear hc ht hv); (try clear e0 e1 e2 e3 e4 e5 e6 e7 e8 e9 e10 e12 e14 zz0); clear hS; intro w hS hks; (try replace hobV := hks _ _ hobV); clear hks; intro hc ht hv; (refine no_implicit_lambda% (fx32ee4 ?_)); intro e0 e1 e2 e3 e4 e5 e6 e7 e8 e9 e10 e12 e14 zz0)))
                  | (go_at_call 25; refine (pick_c _ _ _ _ (hS.rd _ rfl).1 (by omega) (by omega)).mono ?_; rintro e w ⟨kq, rfl, hkq, hr', ho⟩; replace hkq := hkq.1 (by omega); (try replace hobV := KB.callR (Ext.refl _ _) ho (hS.rdc rfl) hobV); replace hS := hS.pastR rfl ho hr'; clear hr' ho; (try clear hc ht hv); (try clear e0 e1 e2 e3 e4 e5 e6 e7 e8 e9 e10 e12 e14 zz0); (try dsimp only); (refine no_implicit_lambda% (fct ?_)); intro hc ht hv; (refine no_implicit_lambda% (fx32ee4 ?_)); intro e0 e1 e2 e3 e4 e5 e6 e7 e8 e9 e10 e12 e14 zz0)
                  | fail)
              all_goals
                go_roundw
                case rel => first | exact ⟨i + 1, m, c, _, _, by omega, by omega, by go_num, rfl, hS.tailL.upP (by omega)⟩ | exact ⟨i + 1, m + 1, c, _, _, by omega, by omega, by go_num, rfl, hS.tailL.tailV.upP (by omega)⟩
                case measure => simp [intOf]; omega
            · cases f2 : (mv == vw)
              · (try clear hc ht hv); (refine no_implicit_lambda% (fct ?_)); intro hc ht hv; (refine no_implicit_lambda% (fx32ee4 ?_)); intro e0 e1 e2 e3 e4 e5 e6 e7 e8 e9 e10 e12 e14 zz0
                go_wp2_with (first
                    | ((refine no_implicit_lambda% (hdE ?_)); intro K hK; (first
                      | ((with_reducible refine at_dst 4 ?_ ?_); (focus rfl); (refine no_implicit_lambda% (aB ?_)); (try clear hc ht hv); (try clear e0 e1 e2 e3 e4 e5 e6 e7 e8 e9 e10 e12 e14 zz0); clear hS; intro b4 w hS hc ht hv; (refine no_implicit_lambda% (fx32ee4 ?_)); intro e0 e1 e2 e3 e4 e5 e6 e7 e8 e9 e10 e12 e14 zz0)
                      | ((with_reducible refine at_dst 10 ?_ ?_); (focus rfl); (refine no_implicit_lambda% (abzM ?_)); (try clear hc ht hv); (try clear e0 e1 e2 e3 e4 e5 e6 e7 e8 e9 e10 e12 e14 zz0); clear hS; intro b10 w hS hbl; (try replace hobV := KB.below hbl hobV); clear hbl; intro hc ht hv; (refine no_implicit_lambda% (fx32ee4 ?_)); intro e0 e1 e2 e3 e4 e5 e6 e7 e8 e9 e10 e12 e14 zz0)
                      | ((with_reducible refine at_dst 11 ?_ ?_); (focus rfl); ((refine no_implicit_lambda% (r0zVnoP ?_)); (try clear hc ht hv); (try clear e0 e1 e2 e3 e4 e5 e6 e7 e8 e9 e10 e12 e14 zz0); clear hS; intro c b w hS hx; (try clear hx); intro hc ht hv; (refine no_implicit_lambda% (fx32ee4 ?_)); intro e0 e1 e2 e3 e4 e5 e6 e7 e8 e9 e10 e12 e14 zz0))
                      | ((with_reducible refine at_dst 74 ?_ ?_); (focus rfl); ((refine no_implicit_lambda% (r1zVnoP ?_)); (try clear hc ht hv); (try clear e0 e1 e2 e3 e4 e5 e6 e7 e8 e9 e10 e12 e14 zz0); clear hS; intro c b w hS hx; (try clear hx); intro hc ht hv; (refine no_implicit_lambda% (fx32ee4 ?_)); intro e0 e1 e2 e3 e4 e5 e6 e7 e8 e9 e10 e12 e14 zz0))
                      | ((with_reducible refine at_dst 75 ?_ ?_); (focus rfl); ((refine no_implicit_lambda% (apzV ?_)); (try clear hc ht hv); (try clear e0 e1 e2 e3 e4 e5 e6 e7 e8 e9 e10 e12 e14 zz0); clear hS; intro c A75 d75 w hS hx; (try clear hx); intro hc ht hv; (refine no_implicit_lambda% (fx32ee4 ?_)); intro e0 e1 e2 e3 e4 e5 e6 e7 e8 e9 e10 e12 e14 zz0))
                      | ((refine no_implicit_lambda% (sbzM ?_)); (try clear hc ht hv); (try clear e0 e1 e2 e3 e4 e5 e6 e7 e8 e9 e10 e12 e14 zz0); clear hS; intro w hS hks; (try replace hobV := hks _ _ hobV); clear hks; intro hc ht hv; (refine no_implicit_lambda% (fx32ee4 ?_)); intro e0 e1 e2 e3 e4 e5 e6 e7 e8 e9 e10 e12 e14 zz0)))
                    | (go_at_call 25; refine (pick_c _ _ _ _ (hS.rd _ rfl).1 (by omega) (by omega)).mono ?_; rintro e w ⟨kq, rfl, hkq, hr', ho⟩; replace hkq := hkq.1 (by omega); (try replace hobV := KB.callR (Ext.refl _ _) ho (hS.rdc rfl) hobV); replace hS := hS.pastR rfl ho hr'; clear hr' ho; (try clear hc ht hv); (try clear e0 e1 e2 e3 e4 e5 e6 e7 e8 e9 e10 e12 e14 zz0); (try dsimp only); (refine no_implicit_lambda% (fct ?_)); intro hc ht hv; (refine no_implicit_lambda% (fx32ee4 ?_)); intro e0 e1 e2 e3 e4 e5 e6 e7 e8 e9 e10 e12 e14 zz0)
                    | fail)
                all_goals
                  go_roundw
                  case rel => first | exact ⟨i + 1, m, c, _, _, by omega, by omega, by go_num, rfl, hS.tailL.upP (by omega)⟩ | exact ⟨i + 1, m + 1, c, _, _, by omega, by omega, by go_num, rfl, hS.tailL.tailV.upP (by omega)⟩
                  case measure => simp [intOf]; omega
              · by_cases hm : m < 3
                · have d3 : decide ((m : Int) < 3) = true := by simp; omega
                  cases m with
                  | zero =>
                    (try clear hc ht hv); (refine no_implicit_lambda% (fct ?_)); intro hc ht hv; (refine no_implicit_lambda% (fx32ee4 ?_)); intro e0 e1 e2 e3 e4 e5 e6 e7 e8 e9 e10 e12 e14 zz0
                    go_wp2_with (first
                        | ((refine no_implicit_lambda% (hdE ?_)); intro K hK; (first
                          | ((with_reducible refine at_dst 4 ?_ ?_); (focus rfl); (refine no_implicit_lambda% (aB ?_)); (try clear hc ht hv); (try clear e0 e1 e2 e3 e4 e5 e6 e7 e8 e9 e10 e12 e14 zz0); clear hS; intro b4 w hS hc ht hv; (refine no_implicit_lambda% (fx32ee4 ?_)); intro e0 e1 e2 e3 e4 e5 e6 e7 e8 e9 e10 e12 e14 zz0)
                          | ((with_reducible refine at_dst 10 ?_ ?_); (focus rfl); (refine no_implicit_lambda% (abzM ?_)); (try clear hc ht hv); (try clear e0 e1 e2 e3 e4 e5 e6 e7 e8 e9 e10 e12 e14 zz0); clear hS; intro b10 w hS hbl; (try replace hobV := KB.below hbl hobV); clear hbl; intro hc ht hv; (refine no_implicit_lambda% (fx32ee4 ?_)); intro e0 e1 e2 e3 e4 e5 e6 e7 e8 e9 e10 e12 e14 zz0)
                          | ((with_reducible refine at_dst 11 ?_ ?_); (focus rfl); ((refine no_implicit_lambda% (r0zVnoP ?_)); (try clear hc ht hv); (try clear e0 e1 e2 e3 e4 e5 e6 e7 e8 e9 e10 e12 e14 zz0); clear hS; intro c b w hS hx; (try clear hx); intro hc ht hv; (refine no_implicit_lambda% (fx32ee4 ?_)); intro e0 e1 e2 e3 e4 e5 e6 e7 e8 e9 e10 e12 e14 zz0))
                          | ((with_reducible refine at_dst 74 ?_ ?_); (focus rfl); ((refine no_implicit_lambda% (r1zVnoP ?_)); (try clear hc ht hv); (try clear e0 e1 e2 e3 e4 e5 e6 e7 e8 e9 e10 e12 e14 zz0); clear hS; intro c b w hS hx; (try clear hx); intro hc ht hv; (refine no_implicit_lambda% (fx32ee4 ?_)); intro e0 e1 e2 e3 e4 e5 e6 e7 e8 e9 e10 e12 e14 zz0))
                          | ((with_reducible refine at_dst 75 ?_ ?_); (focus rfl); ((refine no_implicit_lambda% (apzV ?_)); (try clear hc ht hv); (try clear e0 e1 e2 e3 e4 e5 e6 e7 e8 e9 e10 e12 e14 zz0); clear hS; intro c A75 d75 w hS hx; (try clear hx); intro hc ht hv; (refine no_implicit_lambda% (fx32ee4 ?_)); intro e0 e1 e2 e3 e4 e5 e6 e7 e8 e9 e10 e12 e14 zz0))
                          | ((refine no_implicit_lambda% (sbzM ?_)); (try clear hc ht hv); (try clear e0 e1 e2 e3 e4 e5 e6 e7 e8 e9 e10 e12 e14 zz0); clear hS; intro w hS hks; (try replace hobV := hks _ _ hobV); clear hks; intro hc ht hv; (refine no_implicit_lambda% (fx32ee4 ?_)); intro e0 e1 e2 e3 e4 e5 e6 e7 e8 e9 e10 e12 e14 zz0)))
                        | (go_at_call 25; refine (pick_c _ _ _ _ (hS.rd _ rfl).1 (by omega) (by omega)).mono ?_; rintro e w ⟨kq, rfl, hkq, hr', ho⟩; replace hkq := hkq.1 (by omega); (try replace hobV := KB.callR (Ext.refl _ _) ho (hS.rdc rfl) hobV); replace hS := hS.pastR rfl ho hr'; clear hr' ho; (try clear hc ht hv); (try clear e0 e1 e2 e3 e4 e5 e6 e7 e8 e9 e10 e12 e14 zz0); (try dsimp only); (refine no_implicit_lambda% (fct ?_)); intro hc ht hv; (refine no_implicit_lambda% (fx32ee4 ?_)); intro e0 e1 e2 e3 e4 e5 e6 e7 e8 e9 e10 e12 e14 zz0)
                        | fail)
                    all_goals
                      go_roundw
                      case rel => first | exact ⟨i + 1, 0, c, _, _, by omega, by omega, by go_num, rfl, hS.tailL.upP (by omega)⟩ | exact ⟨i + 1, 0 + 1, c, _, _, by omega, by omega, by go_num, rfl, hS.tailL.tailV.upP (by omega)⟩
                      case measure => simp [intOf]; omega
                  | succ m' =>
                    have hsv := hS.slV (j := 0) rfl
                    obtain ⟨gv, ov, rfl⟩ := hsv.addr (Nat.succ_pos m')
                    obtain ⟨vf, Cv, rv, sv, z0, _, _, _⟩ := hS.tw.voteAt hsv (Nat.lt_succ_self m')
                    obtain ⟨ob, hobV⟩ := hS.tw.kb hsv
                    have hk0 := hobV
                    cases fq : decide (vf < (kk : Int))
                    all_goals
                      (try clear hc ht hv); (refine no_implicit_lambda% (fct ?_)); intro hc ht hv; (refine no_implicit_lambda% (fx32ee4 ?_)); intro e0 e1 e2 e3 e4 e5 e6 e7 e8 e9 e10 e12 e14 zz0
                      go_wp2_with (first
                          | ((refine no_implicit_lambda% (hdE ?_)); intro K hK; (first
                            | ((with_reducible refine at_dst 4 ?_ ?_); (focus rfl); (refine no_implicit_lambda% (aB ?_)); (try clear hc ht hv); (try clear e0 e1 e2 e3 e4 e5 e6 e7 e8 e9 e10 e12 e14 zz0); clear hS; intro b4 w hS hc ht hv; (refine no_implicit_lambda% (fx32ee4 ?_)); intro e0 e1 e2 e3 e4 e5 e6 e7 e8 e9 e10 e12 e14 zz0)
                            | ((with_reducible refine at_dst 10 ?_ ?_); (focus rfl); (refine no_implicit_lambda% (abzM ?_)); (try clear hc ht hv); (try clear e0 e1 e2 e3 e4 e5 e6 e7 e8 e9 e10 e12 e14 zz0); clear hS; intro b10 w hS hbl; (try replace hobV := KB.below hbl hobV); clear hbl; intro hc ht hv; (refine no_implicit_lambda% (fx32ee4 ?_)); intro e0 e1 e2 e3 e4 e5 e6 e7 e8 e9 e10 e12 e14 zz0)
                            | ((with_reducible refine at_dst 11 ?_ ?_); (focus rfl); ((refine no_implicit_lambda% (r0zVnoP ?_)); (try clear hc ht hv); (try clear e0 e1 e2 e3 e4 e5 e6 e7 e8 e9 e10 e12 e14 zz0); clear hS; intro c b w hS hx; (try clear hx); intro hc ht hv; (refine no_implicit_lambda% (fx32ee4 ?_)); intro e0 e1 e2 e3 e4 e5 e6 e7 e8 e9 e10 e12 e14 zz0))
                            | ((with_reducible refine at_dst 74 ?_ ?_); (focus rfl); ((refine no_implicit_lambda% (r1zVnoP ?_)); (try clear hc ht hv); (try clear e0 e1 e2 e3 e4 e5 e6 e7 e8 e9 e10 e12 e14 zz0); clear hS; intro c b w hS hx; (try clear hx); intro hc ht hv; (refine no_implicit_lambda% (fx32ee4 ?_)); intro e0 e1 e2 e3 e4 e5 e6 e7 e8 e9 e10 e12 e14 zz0))
                            | ((with_reducible refine at_dst 75 ?_ ?_); (focus rfl); ((refine no_implicit_lambda% (apzV ?_)); (try clear hc ht hv); (try clear e0 e1 e2 e3 e4 e5 e6 e7 e8 e9 e10 e12 e14 zz0); clear hS; intro c A75 d75 w hS hx; (try clear hx); intro hc ht hv; (refine no_implicit_lambda% (fx32ee4 ?_)); intro e0 e1 e2 e3 e4 e5 e6 e7 e8 e9 e10 e12 e14 zz0))
                            | ((refine no_implicit_lambda% (sbzM ?_)); (try clear hc ht hv); (try clear e0 e1 e2 e3 e4 e5 e6 e7 e8 e9 e10 e12 e14 zz0); clear hS; intro w hS hks; (try replace hobV := hks _ _ hobV); clear hks; intro hc ht hv; (refine no_implicit_lambda% (fx32ee4 ?_)); intro e0 e1 e2 e3 e4 e5 e6 e7 e8 e9 e10 e12 e14 zz0)))
                          | (go_at_call 25; refine (pick_c _ _ _ _ (hS.rd _ rfl).1 (by omega) (by omega)).mono ?_; rintro e w ⟨kq, rfl, hkq, hr', ho⟩; replace hkq := hkq.1 (by omega); (try replace hobV := KB.callR (Ext.refl _ _) ho (hS.rdc rfl) hobV); replace hS := hS.pastR rfl ho hr'; clear hr' ho; (try clear hc ht hv); (try clear e0 e1 e2 e3 e4 e5 e6 e7 e8 e9 e10 e12 e14 zz0); (try dsimp only); (refine no_implicit_lambda% (fct ?_)); intro hc ht hv; (refine no_implicit_lambda% (fx32ee4 ?_)); intro e0 e1 e2 e3 e4 e5 e6 e7 e8 e9 e10 e12 e14 zz0)
                          | fail)
                      all_goals
                        first
                          | (refine ⟨⟨i + 1, by omega, m' + 1, by omega, by omega, _, _, _, ⟨rfl, rfl, rfl⟩, hS.tailL.upP (by omega)⟩, by simp [intOf]; omega⟩)
                          | (refine ⟨⟨i + 1, by omega, m' + 1 + 1, by omega, by omega, _, _, _, ⟨rfl, rfl, rfl⟩, hS.tailL.tailV.upP (by omega)⟩, by simp [intOf]; omega⟩)
                · have d3 : decide ((m : Int) < 3) = false := by simp; omega
                  (try clear hc ht hv); (refine no_implicit_lambda% (fct ?_)); intro hc ht hv; (refine no_implicit_lambda% (fx32ee4 ?_)); intro e0 e1 e2 e3 e4 e5 e6 e7 e8 e9 e10 e12 e14 zz0
                  go_wp2_with (first
                      | ((refine no_implicit_lambda% (hdE ?_)); intro K hK; (first
                        | ((with_reducible refine at_dst 4 ?_ ?_); (focus rfl); (refine no_implicit_lambda% (aB ?_)); (try clear hc ht hv); (try clear e0 e1 e2 e3 e4 e5 e6 e7 e8 e9 e10 e12 e14 zz0); clear hS; intro b4 w hS hc ht hv; (refine no_implicit_lambda% (fx32ee4 ?_)); intro e0 e1 e2 e3 e4 e5 e6 e7 e8 e9 e10 e12 e14 zz0)
                        | ((with_reducible refine at_dst 10 ?_ ?_); (focus rfl); (refine no_implicit_lambda% (abzM ?_)); (try clear hc ht hv); (try clear e0 e1 e2 e3 e4 e5 e6 e7 e8 e9 e10 e12 e14 zz0); clear hS; intro b10 w hS hbl; (try replace hobV := KB.below hbl hobV); clear hbl; intro hc ht hv; (refine no_implicit_lambda% (fx32ee4 ?_)); intro e0 e1 e2 e3 e4 e5 e6 e7 e8 e9 e10 e12 e14 zz0)
                        | ((with_reducible refine at_dst 11 ?_ ?_); (focus rfl); ((refine no_implicit_lambda% (r0zVnoP ?_)); (try clear hc ht hv); (try clear e0 e1 e2 e3 e4 e5 e6 e7 e8 e9 e10 e12 e14 zz0); clear hS; intro c b w hS hx; (try clear hx); intro hc ht hv; (refine no_implicit_lambda% (fx32ee4 ?_)); intro e0 e1 e2 e3 e4 e5 e6 e7 e8 e9 e10 e12 e14 zz0))
                        | ((with_reducible refine at_dst 74 ?_ ?_); (focus rfl); ((refine no_implicit_lambda% (r1zVnoP ?_)); (try clear hc ht hv); (try clear e0 e1 e2 e3 e4 e5 e6 e7 e8 e9 e10 e12 e14 zz0); clear hS; intro c b w hS hx; (try clear hx); intro hc ht hv; (refine no_implicit_lambda% (fx32ee4 ?_)); intro e0 e1 e2 e3 e4 e5 e6 e7 e8 e9 e10 e12 e14 zz0))
                        | ((with_reducible refine at_dst 75 ?_ ?_); (focus rfl); ((refine no_implicit_lambda% (apzV ?_)); (try clear hc ht hv); (try clear e0 e1 e2 e3 e4 e5 e6 e7 e8 e9 e10 e12 e14 zz0); clear hS; intro c A75 d75 w hS hx; (try clear hx); intro hc ht hv; (refine no_implicit_lambda% (fx32ee4 ?_)); intro e0 e1 e2 e3 e4 e5 e6 e7 e8 e9 e10 e12 e14 zz0))
                        | ((refine no_implicit_lambda% (sbzM ?_)); (try clear hc ht hv); (try clear e0 e1 e2 e3 e4 e5 e6 e7 e8 e9 e10 e12 e14 zz0); clear hS; intro w hS hks; (try replace hobV := hks _ _ hobV); clear hks; intro hc ht hv; (refine no_implicit_lambda% (fx32ee4 ?_)); intro e0 e1 e2 e3 e4 e5 e6 e7 e8 e9 e10 e12 e14 zz0)))
                      | (go_at_call 25; refine (pick_c _ _ _ _ (hS.rd _ rfl).1 (by omega) (by omega)).mono ?_; rintro e w ⟨kq, rfl, hkq, hr', ho⟩; replace hkq := hkq.1 (by omega); (try replace hobV := KB.callR (Ext.refl _ _) ho (hS.rdc rfl) hobV); replace hS := hS.pastR rfl ho hr'; clear hr' ho; (try clear hc ht hv); (try clear e0 e1 e2 e3 e4 e5 e6 e7 e8 e9 e10 e12 e14 zz0); (try dsimp only); (refine no_implicit_lambda% (fct ?_)); intro hc ht hv; (refine no_implicit_lambda% (fx32ee4 ?_)); intro e0 e1 e2 e3 e4 e5 e6 e7 e8 e9 e10 e12 e14 zz0)
                      | fail)
                  all_goals
                    go_roundw
                    case rel => first | exact ⟨i + 1, m, c, _, _, by omega, by omega, by go_num, rfl, hS.tailL.upP (by omega)⟩ | exact ⟨i + 1, m + 1, c, _, _, by omega, by omega, by go_num, rfl, hS.tailL.tailV.upP (by omega)⟩
                    case measure => simp [intOf]; omega
        · obtain rfl : i = p := by omega
          (try clear hc ht hv); (refine no_implicit_lambda% (fct ?_)); intro hc ht hv
          go_wp2_with (first
    | ((refine no_implicit_lambda% (hdE ?_)); intro K hK; (first
      | ((with_reducible refine at_dst 4 ?_ ?_); (focus rfl); (refine no_implicit_lambda% (aB ?_)); (try clear hc ht hv); clear hS; intro b4 w hS hc ht hv)
      | ((with_reducible refine at_dst 10 ?_ ?_); (focus rfl); (refine no_implicit_lambda% (abzM ?_)); (try clear hc ht hv); clear hS; intro b10 w hS hbl; (try replace hobV := KB.below hbl hobV); clear hbl; intro hc ht hv)
      | ((with_reducible refine at_dst 11 ?_ ?_); (focus rfl); ((refine no_implicit_lambda% (r0zVnoP ?_)); (try clear hc ht hv); clear hS; intro c b w hS hx; (try clear hx); intro hc ht hv))
      | ((with_reducible refine at_dst 74 ?_ ?_); (focus rfl); ((refine no_implicit_lambda% (r1zVnoP ?_)); (try clear hc ht hv); clear hS; intro c b w hS hx; (try clear hx); intro hc ht hv))
      | ((with_reducible refine at_dst 75 ?_ ?_); (focus rfl); ((refine no_implicit_lambda% (apzV ?_)); (try clear hc ht hv); clear hS; intro c A75 d75 w hS hx; (try clear hx); intro hc ht hv))
      | ((refine no_implicit_lambda% (sbzM ?_)); (try clear hc ht hv); clear hS; intro w hS hks; (try replace hobV := hks _ _ hobV); clear hks; intro hc ht hv)))
    | (go_at_call 25; refine (pick_c _ _ _ _ (hS.rd _ rfl).1 (by omega) (by omega)).mono ?_; rintro e w ⟨kq, rfl, hkq, hr', ho⟩; replace hkq := hkq.1 (by omega); (try replace hobV := KB.callR (Ext.refl _ _) ho (hS.rdc rfl) hobV); replace hS := hS.pastR rfl ho hr'; clear hr' ho; (try clear hc ht hv); (try dsimp only); (refine no_implicit_lambda% (fct ?_)); intro hc ht hv)
    | fail)
          all_goals
            go_roundw
            case rel => exact ⟨kk + 1, m, c, _, _, by omega, by omega, by go_num, rfl, hS.upP (by omega)⟩
            case measure => simp [intOf]; omega
    · obtain rfl : kk = 4 := by omega
      (try clear hc ht hv); (refine no_implicit_lambda% (fct ?_)); intro hc ht hv
      go_wp2_with (first
    | ((refine no_implicit_lambda% (hdE ?_)); intro K hK; (first
      | ((with_reducible refine at_dst 4 ?_ ?_); (focus rfl); (refine no_implicit_lambda% (aB ?_)); (try clear hc ht hv); clear hS; intro b4 w hS hc ht hv)
      | ((with_reducible refine at_dst 10 ?_ ?_); (focus rfl); (refine no_implicit_lambda% (abzM ?_)); (try clear hc ht hv); clear hS; intro b10 w hS hbl; (try replace hobV := KB.below hbl hobV); clear hbl; intro hc ht hv)
      | ((with_reducible refine at_dst 11 ?_ ?_); (focus rfl); ((refine no_implicit_lambda% (r0zVnoP ?_)); (try clear hc ht hv); clear hS; intro c b w hS hx; (try clear hx); intro hc ht hv))
      | ((with_reducible refine at_dst 74 ?_ ?_); (focus rfl); ((refine no_implicit_lambda% (r1zVnoP ?_)); (try clear hc ht hv); clear hS; intro c b w hS hx; (try clear hx); intro hc ht hv))
      | ((with_reducible refine at_dst 75 ?_ ?_); (focus rfl); ((refine no_implicit_lambda% (apzV ?_)); (try clear hc ht hv); clear hS; intro c A75 d75 w hS hx; (try clear hx); intro hc ht hv))
      | ((refine no_implicit_lambda% (sbzM ?_)); (try clear hc ht hv); clear hS; intro w hS hks; (try replace hobV := hks _ _ hobV); clear hks; intro hc ht hv)))
    | (go_at_call 25; refine (pick_c _ _ _ _ (hS.rd _ rfl).1 (by omega) (by omega)).mono ?_; rintro e w ⟨kq, rfl, hkq, hr', ho⟩; replace hkq := hkq.1 (by omega); (try replace hobV := KB.callR (Ext.refl _ _) ho (hS.rdc rfl) hobV); replace hS := hS.pastR rfl ho hr'; clear hr' ho; (try clear hc ht hv); (try dsimp only); (refine no_implicit_lambda% (fct ?_)); intro hc ht hv)
    | fail)
      all_goals ((try simp only [Exit.inBlock, Exit.then]); first | exact bodyPost_ret (by simp [results, Try.results27, go_sem, hc] <;> rfl) rfl (hS.pslR 0 rfl (by omega) (by omega)) | exact bodyPost_ret (by simp [results, Try.results27, go_sem, hc] <;> rfl) rfl (hS.pslR 1 rfl (by omega) (by omega)) | exact bodyPost_ret (by simp [results, Try.results27, go_sem, hc] <;> rfl) rfl (hS.pslR 2 rfl (by omega) (by omega)))
end
end Go.Proofs.Ytopmbnnjhoinkaa
