/-
  What 'LAc' rests on (texts of this seat put together: TRf).
  Conditions: none.
-/
import Derived.Test.YtopmbnnjhoinkaaGreatZZ49
import Derived.Test.YtopmbnnjhoinkaaGreatZZ45
namespace Go.Proofs.YtopmbnnjhoinkaaGreat
open Go Go.RowKit Rg
set_option linter.unusedVariables false
set_option linter.unusedSimpArgs false
set_option maxHeartbeats 1000000
section
variable {T D P g : Nat} {c0 : Cx} {w0 : World} {bad : Int} {A : Option Addr} {d : Nat} {B : Option Addr} {p q : Nat} {C : Option Addr} {m f : Nat}
set_option maxRecDepth 100000 in
set_option maxHeartbeats 20000000 in
theorem l20Events_t (hR : Rd w0 g P) (hP : P ≤ 100000) {mo : Int} (hmo : 0 ≤ mo ∧ mo ≤ 120) :
    Calls Tryz.prog 56 #[.pointer (some ⟨g, 0, none⟩), .int .i64 bad, .int .i64 mo] w0 fun e w' => PSlR tE noP 120 12000 2400000 cE w0 g (P + 110000) e w' := by
  have hT := TW.empty 0 0 w0
  have hG : cE g = none := rfl
  obtain ⟨mn, rfl, hmn⟩ : ∃ mn : Nat, mo = (mn : Int) ∧ mn ≤ 120 := ⟨mo.toNat, by omega, by omega⟩
  clear hmo
  have hS : St ⟨cE, w0, some g⟩ P 0 0 cE [] [] w0 := St.startR hT hR hG
  go_enter Tryz.func56, Tryz.ntmps56
  go_wp2_with (first
    | ((refine no_implicit_lambda% (hdE ?_)); intro K hK; (first
      | ((with_reducible refine at_dst 7 ?_ ?_); (focus rfl); (refine no_implicit_lambda% (alzW ?_)); (try clear hc ht hv); clear hS; intro b7 w hS hc ht hv)
      | ((with_reducible refine at_dst 10 ?_ ?_); (focus rfl); (refine no_implicit_lambda% (alzE ?_)); (try clear hc ht hv); clear hS; intro b10 w hS hc ht hv)
      | ((with_reducible refine at_dst 11 ?_ ?_); (focus rfl); (refine no_implicit_lambda% (alzW ?_)); (try clear hc ht hv); clear hS; intro b11 w hS hc ht hv)
      | ((with_reducible refine at_dst 15 ?_ ?_); (focus rfl); ((refine no_implicit_lambda% (r0zEnoP ?_)); (try clear hc ht hv); clear hS; intro c b w hS hx; (try replace hus := hus.mono hx.le); (try clear hx); intro hc ht hv))
      | ((with_reducible refine at_dst 40 ?_ ?_); (focus rfl); ((refine no_implicit_lambda% (r1zEnoP ?_)); (try clear hc ht hv); clear hS; intro c b w hS hx; (try replace hus := hus.mono hx.le); (try clear hx); intro hc ht hv))
      | ((with_reducible refine at_dst 41 ?_ ?_); (focus rfl); ((refine no_implicit_lambda% (apzE ?_)); (try clear hc ht hv); clear hS; intro c A41 d41 w hS hx; (try replace hus := hus.mono hx.le); (try clear hx); intro hc ht hv))
      | ((refine no_implicit_lambda% (sazW ?_)); (try clear hc ht hv); clear hS; intro w hS hc ht hv)
      | ((refine no_implicit_lambda% (sazE ?_)); (try clear hc ht hv); clear hS; intro w hS hc ht hv)))
    | (go_at_call 67; refine (l6New_t hS.tw (T := _) (D := _) _).mono ?_; rintro e w ⟨c, bad', Aw, dw, Bw, pw, qw, rfl, s1, s2, hpw, ⟨ls, ho, hP⟩, hx, hT', hb⟩; have hlt_ := hS.ownLt; replace hS := (hS.below hx hT' (by omega) (by omega) hb).addV s2 ho hP hS.base hlt_; clear hx hT' hb hlt_ ho hP ls; (try clear hc ht hv); (try dsimp only); (refine no_implicit_lambda% (fct ?_)); intro hc ht hv)
    | (go_at_call 68; refine (l20Event_t hS.tw (hS.rd _ rfl).1 (hS.rdc rfl) (by omega) slA (by omega) slA).mono ?_; rintro e w ⟨c, us, rfl, hus, hx, hT', hr', ho⟩; replace hS := hS.belowR rfl hx hT' (Nat.le_refl _) (Nat.le_refl _) ho hr'; clear hx hT' hr' ho; (try clear hc ht hv); (obtain ⟨_, _, _, _, _, _, _, _, _, _, _, _, _, _, rfl, _, _, _, _, _⟩ := hus.event); (try dsimp only); (refine no_implicit_lambda% (fct ?_)); intro hc ht hv)
    | (go_at_call 60; refine (l6Do_t hS.tw slA slA (by omega) brA tyA (by omega)).mono ?_; rintro e w ⟨c, hres, hx, hT', hb⟩; have hlt_ := hS.ownLt; have hbs_ := hS.base; (try replace hobV := KB.call hx hb hobV); replace hS := hS.below hx hT' (by omega) (by omega) hb; clear hx hT' hb; (rcases hres with rfl | ⟨bad', Aw, dw, Bw, pw, qw, rfl, s1, s2, hpw, ls, ho, hP⟩) <;> ((try replace hS := hS.addV s2 ho hP hbs_ hlt_); (try clear ho hP ls); clear hlt_ hbs_; (try clear hc ht hv); (try dsimp only); (refine no_implicit_lambda% (fct ?_)); intro hc ht hv))
    | (go_at_call 16; refine (pick_c _ _ _ _ (hS.rd _ rfl).1 (by omega) (by omega)).mono ?_; rintro e w ⟨kq, rfl, hkq, hr', ho⟩; replace hkq := hkq.1 (by omega); (try replace hobV := KB.callR (Ext.refl _ _) ho (hS.rdc rfl) hobV); replace hS := hS.pastR rfl ho hr'; clear hr' ho; (try clear hc ht hv); (try dsimp only); (refine no_implicit_lambda% (fct ?_)); intro hc ht hv)
    | fail)
  replace hS := hS.swapV
  go_loopw [8, 9] (fun sv iv wr => ∃ (i m : Nat) (c : Cx) (bad : Int) (A : Option Addr) (d : Nat) (B : Option Addr) (p q : Nat) (Ae : Option Addr) (de : Nat), i ≤ mn ∧ m ≤ i ∧ p ≤ 100 ∧ iv = .int .i64 (i : Int) ∧ sv = .slice Ae m de ∧ St ⟨cE, w0, some g⟩ (P + 910 * i) (100 * i) (20000 * i) c [(b7, tW, [.int .i64 bad, .slice A 4 d, .slice B p q])] [(tM, bareP, .slice B p q), (tE, noP, .slice Ae m de)] wr) (fun _ iv _ => mn - (intOf iv).toNat)
  case atStart => exact ⟨0, 0, c, _, _, _, _, _, _, _, _, by omega, by omega, by omega, rfl, rfl, hS⟩
  case round =>
    (try clear hc ht hv); clear hS
    obtain ⟨i, m, c, bad, A, d, B, p, q, Ae, de, hi, hm, hp, rfl, rfl, hS⟩ := hrel
    by_cases hlt : i < mn
    · have d0 : decide ((i : Int) < (mn : Int)) = true := by simp; omega
      (try clear hc ht hv); (refine no_implicit_lambda% (fct ?_)); intro hc ht hv
      go_wp2_with (first
    | ((refine no_implicit_lambda% (hdE ?_)); intro K hK; (first
      | ((with_reducible refine at_dst 7 ?_ ?_); (focus rfl); (refine no_implicit_lambda% (alzW ?_)); (try clear hc ht hv); clear hS; intro b7 w hS hc ht hv)
      | ((with_reducible refine at_dst 10 ?_ ?_); (focus rfl); (refine no_implicit_lambda% (alzE ?_)); (try clear hc ht hv); clear hS; intro b10 w hS hc ht hv)
      | ((with_reducible refine at_dst 11 ?_ ?_); (focus rfl); (refine no_implicit_lambda% (alzW ?_)); (try clear hc ht hv); clear hS; intro b11 w hS hc ht hv)
      | ((with_reducible refine at_dst 15 ?_ ?_); (focus rfl); ((refine no_implicit_lambda% (r0zEnoP ?_)); (try clear hc ht hv); clear hS; intro c b w hS hx; (try replace hus := hus.mono hx.le); (try clear hx); intro hc ht hv))
      | ((with_reducible refine at_dst 40 ?_ ?_); (focus rfl); ((refine no_implicit_lambda% (r1zEnoP ?_)); (try clear hc ht hv); clear hS; intro c b w hS hx; (try replace hus := hus.mono hx.le); (try clear hx); intro hc ht hv))
      | ((with_reducible refine at_dst 41 ?_ ?_); (focus rfl); ((refine no_implicit_lambda% (apzE ?_)); (try clear hc ht hv); clear hS; intro c A41 d41 w hS hx; (try replace hus := hus.mono hx.le); (try clear hx); intro hc ht hv))
      | ((refine no_implicit_lambda% (sazW ?_)); (try clear hc ht hv); clear hS; intro w hS hc ht hv)
      | ((refine no_implicit_lambda% (sazE ?_)); (try clear hc ht hv); clear hS; intro w hS hc ht hv)))
    | (go_at_call 67; refine (l6New_t hS.tw (T := _) (D := _) _).mono ?_; rintro e w ⟨c, bad', Aw, dw, Bw, pw, qw, rfl, s1, s2, hpw, ⟨ls, ho, hP⟩, hx, hT', hb⟩; have hlt_ := hS.ownLt; replace hS := (hS.below hx hT' (by omega) (by omega) hb).addV s2 ho hP hS.base hlt_; clear hx hT' hb hlt_ ho hP ls; (try clear hc ht hv); (try dsimp only); (refine no_implicit_lambda% (fct ?_)); intro hc ht hv)
    | (go_at_call 68; refine (l20Event_t hS.tw (hS.rd _ rfl).1 (hS.rdc rfl) (by omega) slA (by omega) slA).mono ?_; rintro e w ⟨c, us, rfl, hus, hx, hT', hr', ho⟩; replace hS := hS.belowR rfl hx hT' (Nat.le_refl _) (Nat.le_refl _) ho hr'; clear hx hT' hr' ho; (try clear hc ht hv); (obtain ⟨_, _, _, _, _, _, _, _, _, _, _, _, _, _, rfl, _, _, _, _, _⟩ := hus.event); (try dsimp only); (refine no_implicit_lambda% (fct ?_)); intro hc ht hv)
    | (go_at_call 60; refine (l6Do_t hS.tw slA slA (by omega) brA tyA (by omega)).mono ?_; rintro e w ⟨c, hres, hx, hT', hb⟩; have hlt_ := hS.ownLt; have hbs_ := hS.base; (try replace hobV := KB.call hx hb hobV); replace hS := hS.below hx hT' (by omega) (by omega) hb; clear hx hT' hb; (rcases hres with rfl | ⟨bad', Aw, dw, Bw, pw, qw, rfl, s1, s2, hpw, ls, ho, hP⟩) <;> ((try replace hS := hS.addV s2 ho hP hbs_ hlt_); (try clear ho hP ls); clear hlt_ hbs_; (try clear hc ht hv); (try dsimp only); (refine no_implicit_lambda% (fct ?_)); intro hc ht hv))
    | (go_at_call 16; refine (pick_c _ _ _ _ (hS.rd _ rfl).1 (by omega) (by omega)).mono ?_; rintro e w ⟨kq, rfl, hkq, hr', ho⟩; replace hkq := hkq.1 (by omega); (try replace hobV := KB.callR (Ext.refl _ _) ho (hS.rdc rfl) hobV); replace hS := hS.pastR rfl ho hr'; clear hr' ho; (try clear hc ht hv); (try dsimp only); (refine no_implicit_lambda% (fct ?_)); intro hc ht hv)
    | fail)
      all_goals
        go_roundw
        case rel => first | exact ⟨i + 1, m, c, _, _, _, _, _, _, _, _, by omega, by omega, by omega, by go_num, rfl, (hS.tailL.tailL.raise (by omega) (by omega)).upP (by omega)⟩ | exact ⟨i + 1, m + 1, c, _, _, _, _, _, _, _, _, by omega, by omega, by omega, by go_num, rfl, (hS.tailL.tailL.tailV.raise (by omega) (by omega)).upP (by omega)⟩ | exact ⟨i + 1, m + 1, c, _, _, _, _, _, _, _, _, by omega, by omega, by omega, by go_num, rfl, (hS.tailL.tailL.tailV.tailV1.raise (by omega) (by omega)).upP (by omega)⟩
        case measure => simp [intOf]; omega
    · have d0 : decide ((i : Int) < (mn : Int)) = false := by simp; omega
      replace hS := (hS.raise (show 100 * i ≤ 12000 by omega) (show 20000 * i ≤ 2400000 by omega)).upP (show P + 910 * i ≤ P + 110000 by omega)
      (try clear hc ht hv); (refine no_implicit_lambda% (fct ?_)); intro hc ht hv
      go_wp2_with (first
    | ((refine no_implicit_lambda% (hdE ?_)); intro K hK; (first
      | ((with_reducible refine at_dst 7 ?_ ?_); (focus rfl); (refine no_implicit_lambda% (alzW ?_)); (try clear hc ht hv); clear hS; intro b7 w hS hc ht hv)
      | ((with_reducible refine at_dst 10 ?_ ?_); (focus rfl); (refine no_implicit_lambda% (alzE ?_)); (try clear hc ht hv); clear hS; intro b10 w hS hc ht hv)
      | ((with_reducible refine at_dst 11 ?_ ?_); (focus rfl); (refine no_implicit_lambda% (alzW ?_)); (try clear hc ht hv); clear hS; intro b11 w hS hc ht hv)
      | ((with_reducible refine at_dst 15 ?_ ?_); (focus rfl); ((refine no_implicit_lambda% (r0zEnoP ?_)); (try clear hc ht hv); clear hS; intro c b w hS hx; (try replace hus := hus.mono hx.le); (try clear hx); intro hc ht hv))
      | ((with_reducible refine at_dst 40 ?_ ?_); (focus rfl); ((refine no_implicit_lambda% (r1zEnoP ?_)); (try clear hc ht hv); clear hS; intro c b w hS hx; (try replace hus := hus.mono hx.le); (try clear hx); intro hc ht hv))
      | ((with_reducible refine at_dst 41 ?_ ?_); (focus rfl); ((refine no_implicit_lambda% (apzE ?_)); (try clear hc ht hv); clear hS; intro c A41 d41 w hS hx; (try replace hus := hus.mono hx.le); (try clear hx); intro hc ht hv))
      | ((refine no_implicit_lambda% (sazW ?_)); (try clear hc ht hv); clear hS; intro w hS hc ht hv)
      | ((refine no_implicit_lambda% (sazE ?_)); (try clear hc ht hv); clear hS; intro w hS hc ht hv)))
    | (go_at_call 67; refine (l6New_t hS.tw (T := _) (D := _) _).mono ?_; rintro e w ⟨c, bad', Aw, dw, Bw, pw, qw, rfl, s1, s2, hpw, ⟨ls, ho, hP⟩, hx, hT', hb⟩; have hlt_ := hS.ownLt; replace hS := (hS.below hx hT' (by omega) (by omega) hb).addV s2 ho hP hS.base hlt_; clear hx hT' hb hlt_ ho hP ls; (try clear hc ht hv); (try dsimp only); (refine no_implicit_lambda% (fct ?_)); intro hc ht hv)
    | (go_at_call 68; refine (l20Event_t hS.tw (hS.rd _ rfl).1 (hS.rdc rfl) (by omega) slA (by omega) slA).mono ?_; rintro e w ⟨c, us, rfl, hus, hx, hT', hr', ho⟩; replace hS := hS.belowR rfl hx hT' (Nat.le_refl _) (Nat.le_refl _) ho hr'; clear hx hT' hr' ho; (try clear hc ht hv); (obtain ⟨_, _, _, _, _, _, _, _, _, _, _, _, _, _, rfl, _, _, _, _, _⟩ := hus.event); (try dsimp only); (refine no_implicit_lambda% (fct ?_)); intro hc ht hv)
    | (go_at_call 60; refine (l6Do_t hS.tw slA slA (by omega) brA tyA (by omega)).mono ?_; rintro e w ⟨c, hres, hx, hT', hb⟩; have hlt_ := hS.ownLt; have hbs_ := hS.base; (try replace hobV := KB.call hx hb hobV); replace hS := hS.below hx hT' (by omega) (by omega) hb; clear hx hT' hb; (rcases hres with rfl | ⟨bad', Aw, dw, Bw, pw, qw, rfl, s1, s2, hpw, ls, ho, hP⟩) <;> ((try replace hS := hS.addV s2 ho hP hbs_ hlt_); (try clear ho hP ls); clear hlt_ hbs_; (try clear hc ht hv); (try dsimp only); (refine no_implicit_lambda% (fct ?_)); intro hc ht hv))
    | (go_at_call 16; refine (pick_c _ _ _ _ (hS.rd _ rfl).1 (by omega) (by omega)).mono ?_; rintro e w ⟨kq, rfl, hkq, hr', ho⟩; replace hkq := hkq.1 (by omega); (try replace hobV := KB.callR (Ext.refl _ _) ho (hS.rdc rfl) hobV); replace hS := hS.pastR rfl ho hr'; clear hr' ho; (try clear hc ht hv); (try dsimp only); (refine no_implicit_lambda% (fct ?_)); intro hc ht hv)
    | fail)
      all_goals ((try simp only [Exit.inBlock, Exit.then]); first | exact bodyPost_ret (by simp [results, Tryz.results56, go_sem, hc] <;> rfl) rfl (hS.pslR 0 rfl (by omega) (by omega)) | exact bodyPost_ret (by simp [results, Tryz.results56, go_sem, hc] <;> rfl) rfl (hS.pslR 1 rfl (by omega) (by omega)) | exact bodyPost_ret (by simp [results, Tryz.results56, go_sem, hc] <;> rfl) rfl (hS.pslR 2 rfl (by omega) (by omega)))
end
end Go.Proofs.YtopmbnnjhoinkaaGreat
