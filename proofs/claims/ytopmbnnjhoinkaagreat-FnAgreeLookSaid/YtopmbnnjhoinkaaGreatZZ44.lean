/-
  What 'LAc' rests on (texts of this seat put together: TX15).
  Conditions: none.
-/
import Derived.Test.YtopmbnnjhoinkaaGreatZZ43
namespace Go.Proofs.YtopmbnnjhoinkaaGreat
open Go Go.RowKit Rg
set_option linter.unusedVariables false
set_option linter.unusedSimpArgs false
set_option maxHeartbeats 1000000
section
variable {T D : Nat} {c0 : Cx} {w0 : World} {rs cs us vs : List Value} {bad : Int} {A : Option Addr} {d : Nat} {B : Option Addr} {p q : Nat} {C : Option Addr} {m f : Nat}
set_option maxRecDepth 100000 in
set_option maxHeartbeats 4000000 in
theorem l6New_t (hT : TW T D c0 w0) (bad : Int) :
    Calls Tryz.prog 67 #[.int .i64 bad] w0 fun e w' => PWd T D c0 w0 e w' := by
  have hS : St ⟨c0, w0, none⟩ 0 (T) (D) c0 [] [] w0 := (St.start hT (fun g hg => by cases hg)).raise (by omega) (by omega)
  go_enter Tryz.func67, Tryz.ntmps67
  go_wp2_with (first
    | ((refine no_implicit_lambda% (hdE ?_)); intro K hK; (first
      | ((with_reducible refine at_dst 2 ?_ ?_); (focus rfl); (refine no_implicit_lambda% (alzW ?_)); (try clear hc ht hv); clear hS; intro b2 w hS hc ht hv)
      | ((with_reducible refine at_dst 3 ?_ ?_); (focus rfl); (refine no_implicit_lambda% (alzW ?_)); (try clear hc ht hv); clear hS; intro b3 w hS hc ht hv)
      | ((with_reducible refine at_dst 15 ?_ ?_); (focus rfl); ((refine no_implicit_lambda% (r1zRnoP ?_)); (try clear hc ht hv); clear hS; intro c b w hS hx; (try clear hx); intro hc ht hv))
      | ((with_reducible refine at_dst 16 ?_ ?_); (focus rfl); ((refine no_implicit_lambda% (apzR ?_)); (try clear hc ht hv); clear hS; intro c A16 d16 w hS hx; (try clear hx); intro hc ht hv))
      | ((refine no_implicit_lambda% (sazW ?_)); (try clear hc ht hv); clear hS; intro w hS hc ht hv)
      | ((refine no_implicit_lambda% (stS ?_)); (try clear hc ht hv); clear hS; intro w hS hc ht hv)))
    | (go_at_call 76; refine (l5New_c _ _).mono ?_; rintro e w ⟨rfl, hb⟩; replace hS := hS.past hb; clear hb; (try clear hc ht hv); (try dsimp only); (refine no_implicit_lambda% (fct ?_)); intro hc ht hv)
    | ((refine no_implicit_lambda% (rgspecl6New5 ?_)); (try clear hc ht hv); clear hS; intro hS hc ht hv)
    | ((with_reducible refine wpOF_both ?_ ?_) <;> (refine no_implicit_lambda% (pk_ ?_))) | ((with_reducible refine wpOF_three ?_ ?_ ?_) <;> (refine no_implicit_lambda% (pk_ ?_))) | ((with_reducible refine MS.and_ ?_ ?_); (focus (exact msA)); intro hM) | (refine no_implicit_lambda% (ofS ?_)) | ((refine no_implicit_lambda% (ofK ?_)); intro K hK) | (refine no_implicit_lambda% (ofL ?_)) | ((refine no_implicit_lambda% (ofM ?_)); intro K hK) | ((refine no_implicit_lambda% (ofX ?_)); intro K hK) | (refine no_implicit_lambda% (ofN ?_)) | ((with_reducible apply wpT_split); (focus rfl); (focus rfl); (focus rfl); all_goals (intro hxx; simp only [hxx]))
    | fail)
  replace hS := hS.nilV tR noP
  go_loopw [4] (fun iv wr => ∃ (i : Nat) (c : Cx) (A : Option Addr) (d : Nat), i ≤ 4 ∧ iv = .int .i64 (i : Int) ∧ St ⟨c0, w0, none⟩ 0 T D c [(b3, tW, [.int .i64 bad, .slice A i d, .slice none 0 0]), (b2, tW, [.int .i64 0, .slice none 0 0, .slice none 0 0])] [(tR, noP, .slice A i d)] wr) (fun iv _ => 4 - (intOf iv).toNat)
  case atStart => exact ⟨0, c0, none, 0, Nat.zero_le _, rfl, hS⟩
  case round =>
    (try clear hc ht hv); clear hS
    obtain ⟨i, c, A, d, hi, rfl, hS⟩ := hrel
    by_cases hlti : i < 4
    · (try clear hc ht hv); (refine no_implicit_lambda% (fct ?_)); intro hc ht hv
      go_wp2_with (first
    | ((refine no_implicit_lambda% (hdE ?_)); intro K hK; (first
      | ((with_reducible refine at_dst 2 ?_ ?_); (focus rfl); (refine no_implicit_lambda% (alzW ?_)); (try clear hc ht hv); clear hS; intro b2 w hS hc ht hv)
      | ((with_reducible refine at_dst 3 ?_ ?_); (focus rfl); (refine no_implicit_lambda% (alzW ?_)); (try clear hc ht hv); clear hS; intro b3 w hS hc ht hv)
      | ((with_reducible refine at_dst 15 ?_ ?_); (focus rfl); ((refine no_implicit_lambda% (r1zRnoP ?_)); (try clear hc ht hv); clear hS; intro c b w hS hx; (try clear hx); intro hc ht hv))
      | ((with_reducible refine at_dst 16 ?_ ?_); (focus rfl); ((refine no_implicit_lambda% (apzR ?_)); (try clear hc ht hv); clear hS; intro c A16 d16 w hS hx; (try clear hx); intro hc ht hv))
      | ((refine no_implicit_lambda% (sazW ?_)); (try clear hc ht hv); clear hS; intro w hS hc ht hv)
      | ((refine no_implicit_lambda% (stS ?_)); (try clear hc ht hv); clear hS; intro w hS hc ht hv)))
    | (go_at_call 76; refine (l5New_c _ _).mono ?_; rintro e w ⟨rfl, hb⟩; replace hS := hS.past hb; clear hb; (try clear hc ht hv); (try dsimp only); (refine no_implicit_lambda% (fct ?_)); intro hc ht hv)
    | ((refine no_implicit_lambda% (rgspecl6New5 ?_)); (try clear hc ht hv); clear hS; intro hS hc ht hv)
    | ((with_reducible refine wpOF_both ?_ ?_) <;> (refine no_implicit_lambda% (pk_ ?_))) | ((with_reducible refine wpOF_three ?_ ?_ ?_) <;> (refine no_implicit_lambda% (pk_ ?_))) | ((with_reducible refine MS.and_ ?_ ?_); (focus (exact msA)); intro hM) | (refine no_implicit_lambda% (ofS ?_)) | ((refine no_implicit_lambda% (ofK ?_)); intro K hK) | (refine no_implicit_lambda% (ofL ?_)) | ((refine no_implicit_lambda% (ofM ?_)); intro K hK) | ((refine no_implicit_lambda% (ofX ?_)); intro K hK) | (refine no_implicit_lambda% (ofN ?_)) | ((with_reducible apply wpT_split); (focus rfl); (focus rfl); (focus rfl); all_goals (intro hxx; simp only [hxx]))
    | fail)
      all_goals
        go_roundw
        case rel => exact ⟨i + 1, c, _, _, by omega, by go_num, hS.tailV⟩
        case measure => simp [intOf]; omega
    · obtain rfl : i = 4 := by omega
      replace hS := hS.nilV tM bareP
      (try clear hc ht hv); (refine no_implicit_lambda% (fct ?_)); intro hc ht hv
      go_wp2_with (first
    | ((refine no_implicit_lambda% (hdE ?_)); intro K hK; (first
      | ((with_reducible refine at_dst 2 ?_ ?_); (focus rfl); (refine no_implicit_lambda% (alzW ?_)); (try clear hc ht hv); clear hS; intro b2 w hS hc ht hv)
      | ((with_reducible refine at_dst 3 ?_ ?_); (focus rfl); (refine no_implicit_lambda% (alzW ?_)); (try clear hc ht hv); clear hS; intro b3 w hS hc ht hv)
      | ((with_reducible refine at_dst 15 ?_ ?_); (focus rfl); ((refine no_implicit_lambda% (r1zRnoP ?_)); (try clear hc ht hv); clear hS; intro c b w hS hx; (try clear hx); intro hc ht hv))
      | ((with_reducible refine at_dst 16 ?_ ?_); (focus rfl); ((refine no_implicit_lambda% (apzR ?_)); (try clear hc ht hv); clear hS; intro c A16 d16 w hS hx; (try clear hx); intro hc ht hv))
      | ((refine no_implicit_lambda% (sazW ?_)); (try clear hc ht hv); clear hS; intro w hS hc ht hv)
      | ((refine no_implicit_lambda% (stS ?_)); (try clear hc ht hv); clear hS; intro w hS hc ht hv)))
    | (go_at_call 76; refine (l5New_c _ _).mono ?_; rintro e w ⟨rfl, hb⟩; replace hS := hS.past hb; clear hb; (try clear hc ht hv); (try dsimp only); (refine no_implicit_lambda% (fct ?_)); intro hc ht hv)
    | ((refine no_implicit_lambda% (rgspecl6New5 ?_)); (try clear hc ht hv); clear hS; intro hS hc ht hv)
    | ((with_reducible refine wpOF_both ?_ ?_) <;> (refine no_implicit_lambda% (pk_ ?_))) | ((with_reducible refine wpOF_three ?_ ?_ ?_) <;> (refine no_implicit_lambda% (pk_ ?_))) | ((with_reducible refine MS.and_ ?_ ?_); (focus (exact msA)); intro hM) | (refine no_implicit_lambda% (ofS ?_)) | ((refine no_implicit_lambda% (ofK ?_)); intro K hK) | (refine no_implicit_lambda% (ofL ?_)) | ((refine no_implicit_lambda% (ofM ?_)); intro K hK) | ((refine no_implicit_lambda% (ofX ?_)); intro K hK) | (refine no_implicit_lambda% (ofN ?_)) | ((with_reducible apply wpT_split); (focus rfl); (focus rfl); (focus rfl); all_goals (intro hxx; simp only [hxx]))
    | fail)
      all_goals (exact no_implicit_lambda% fW4_3)
set_option maxRecDepth 100000 in
set_option maxHeartbeats 4000000 in
theorem WorldNew_t (hT : TW T D c0 w0) {bad : Int} (hb : inB bad 0 3 = true) :
    Calls Tryz.prog 59 #[.int .i64 bad] w0 fun e w' => PWd T D c0 w0 e w' := by
  have hS : St ⟨c0, w0, none⟩ 0 (T) (D) c0 [] [] w0 := (St.start hT (fun g hg => by cases hg)).raise (by omega) (by omega)
  go_enter Tryz.func59, Tryz.ntmps59
  go_wp2_with (first
    | ((refine no_implicit_lambda% (hdE ?_)); intro K hK; (first
      | ((with_reducible refine at_dst 2 ?_ ?_); (focus rfl); (refine no_implicit_lambda% (alzW ?_)); (try clear hc ht hv); clear hS; intro b2 w hS hc ht hv)
      | ((refine no_implicit_lambda% (sazW ?_)); (try clear hc ht hv); clear hS; intro w hS hc ht hv)))
    | (go_at_call 26; refine (l1In_c _ _ _ _).mono ?_; rintro e w ⟨rfl, rfl⟩; (try clear hc ht hv); (try dsimp only); (refine no_implicit_lambda% (fct ?_)); intro hc ht hv)
    | (go_at_call 67; refine (l6New_t hS.tw (T := _) (D := _) _).mono ?_; rintro e w ⟨c, bad', Aw, dw, Bw, pw, qw, rfl, s1, s2, hpw, ⟨ls, ho, hP⟩, hx, hT', hb⟩; have hlt_ := hS.ownLt; replace hS := (hS.below hx hT' (by omega) (by omega) hb).addV s2 ho hP hS.base hlt_; clear hx hT' hb hlt_ ho hP ls; (try clear hc ht hv); (try dsimp only); (refine no_implicit_lambda% (fct ?_)); intro hc ht hv)
    | fail)
  all_goals (exact no_implicit_lambda% fW4_3)
set_option maxRecDepth 100000 in
set_option maxHeartbeats 4000000 in
theorem l6Copy_t (hT : TW T D c0 w0) (h1 : SlV c0 tR (.slice A 4 d)) (h2 : SlV c0 tM (.slice B p q)) (hp : p ≤ 100) (hb : BareS w0 B p) (hB : T ≤ 100000000 ∧ D ≤ 1000000000) :
    Calls Tryz.prog 33 #[.agg (List.toArray [.int .i64 bad, .slice A 4 d, .slice B p q])] w0 fun e w' => PWd T D c0 w0 e w' := by
  have hS : St ⟨c0, w0, none⟩ 0 (T) (D) c0 [] [] w0 := (St.start hT (fun g hg => by cases hg)).raise (by omega) (by omega)
  go_enter Tryz.func33, Tryz.ntmps33
  go_wp2_with (first
    | ((refine no_implicit_lambda% (hdE ?_)); intro K hK; (first
      | ((with_reducible refine at_dst 1 ?_ ?_); (focus rfl); (refine no_implicit_lambda% (aB ?_)); (try clear hc ht hv); clear hS; intro b1 w hS hc ht hv)
      | ((with_reducible refine at_dst 2 ?_ ?_); (focus rfl); (refine no_implicit_lambda% (alzW ?_)); (try clear hc ht hv); clear hS; intro b2 w hS hc ht hv)
      | ((with_reducible refine at_dst 3 ?_ ?_); (focus rfl); (refine no_implicit_lambda% (alzW ?_)); (try clear hc ht hv); clear hS; intro b3 w hS hc ht hv)
      | ((with_reducible refine at_dst 24 ?_ ?_); (focus rfl); ((refine no_implicit_lambda% (r1zRnoP ?_)); (try clear hc ht hv); clear hS; intro c b w hS hx; (try replace hrs := hrs.mono hx.le); (try replace hus := hus.mono hx.le); (try clear hx); intro hc ht hv))
      | ((with_reducible refine at_dst 42 ?_ ?_); (focus rfl); ((refine no_implicit_lambda% (r1zMbareP ?_)); (try clear hc ht hv); clear hS; intro c b w hS hx; (try replace hrs := hrs.mono hx.le); (try replace hus := hus.mono hx.le); (try clear hx); intro hc ht hv))
      | ((with_reducible refine at_dst 25 ?_ ?_); (focus rfl); ((refine no_implicit_lambda% (apzR ?_)); (try clear hc ht hv); clear hS; intro c A25 d25 w hS hx; (try replace hrs := hrs.mono hx.le); (try replace hus := hus.mono hx.le); (try clear hx); intro hc ht hv))
      | ((with_reducible refine at_dst 43 ?_ ?_); (focus rfl); ((refine no_implicit_lambda% (apzM ?_)); (try clear hc ht hv); clear hS; intro c A43 d43 w hS hx; (try replace hrs := hrs.mono hx.le); (try replace hus := hus.mono hx.le); (try clear hx); intro hc ht hv))
      | ((refine no_implicit_lambda% (sazW ?_)); (try clear hc ht hv); clear hS; intro w hS hc ht hv)
      | ((refine no_implicit_lambda% (stS ?_)); (try clear hc ht hv); clear hS; intro w hS hc ht hv)))
    | (go_at_call 57; refine (l5Copy_t hS.tw tyA (by omega)).mono ?_; rintro e w ⟨c, rs, rfl, hrs, hx, hT', hb⟩; (try replace hobV := KB.call hx hb hobV); replace hS := hS.below hx hT' (by omega) (by omega) hb; clear hx hT' hb; (try clear hc ht hv); (obtain ⟨_, _, _, _, _, _, _, _, _, _, _, _, _, rfl, _, _, _, _, _, _, _, _⟩ := hrs.rep); (try dsimp only); (refine no_implicit_lambda% (fct ?_)); intro hc ht hv)
    | (go_at_call 58; refine (l3Copy_t hS.tw tyA).mono ?_; rintro e w ⟨c, us, rfl, hus, hx, hT', hb, hbare⟩; replace hS := hS.below hx hT' (by omega) (by omega) hb; clear hx hT' hb; (try clear hc ht hv); (obtain ⟨_, _, _, _, _, _, _, _, _, _, _, rfl, _, _, _, _, _⟩ := hus.msg); (try dsimp only); (refine no_implicit_lambda% (fct ?_)); intro hc ht hv)
    | ((refine no_implicit_lambda% (rgspecl6Copy5XO ?_)); (try clear hc ht hv); clear hS; intro hS hc ht hv)
    | ((refine no_implicit_lambda% (rgspecl6Copy9XO ?_)); (try clear hc ht hv); clear hS; intro hS hc ht hv)
    | ((with_reducible refine wpOF_both ?_ ?_) <;> (refine no_implicit_lambda% (pk_ ?_))) | ((with_reducible refine wpOF_three ?_ ?_ ?_) <;> (refine no_implicit_lambda% (pk_ ?_))) | ((with_reducible refine MS.and_ ?_ ?_); (focus (exact msA)); intro hM) | (refine no_implicit_lambda% (ofS ?_)) | ((refine no_implicit_lambda% (ofK ?_)); intro K hK) | (refine no_implicit_lambda% (ofL ?_)) | ((refine no_implicit_lambda% (ofM ?_)); intro K hK) | ((refine no_implicit_lambda% (ofX ?_)); intro K hK) | (refine no_implicit_lambda% (ofN ?_)) | ((with_reducible apply wpT_split); (focus rfl); (focus rfl); (focus rfl); all_goals (intro hxx; simp only [hxx]))
    | fail)
  replace hS := hS.nilV tR noP
  go_loopw [4] (fun iv wr => ∃ (i : Nat) (c : Cx) (A' : Option Addr) (d' : Nat), i ≤ 4 ∧ iv = .int .i64 (i : Int) ∧ St ⟨c0, w0, none⟩ 0 T D c [(b3, tW, [.int .i64 bad, .slice A' i d', .slice none 0 0]), (b2, tW, [.int .i64 0, .slice none 0 0, .slice none 0 0]), (b1, tW, [.int .i64 bad, .slice A 4 d, .slice B p q])] [(tR, noP, .slice A' i d')] wr) (fun iv _ => 4 - (intOf iv).toNat)
  case atStart => exact ⟨0, c0, none, 0, Nat.zero_le _, rfl, hS⟩
  case round =>
    (try clear hc ht hv); clear hS
    obtain ⟨i, c, A', d', hi, rfl, hS⟩ := hrel
    by_cases hlti : i < 4
    · obtain ⟨g, off, rfl⟩ := h1.addr hlti
      obtain ⟨me', vw', lv', nx', Aa, na, da, Ab, nb_, db, Ac, nc, dc, a0, a1, a2, a3, a4, a5, a6, u1⟩ := hT.repAt h1 hlti
      obtain ⟨ob, hob⟩ := hT.rowOb h1
      have hoG : (Bs.mk c0 w0 none).G ≠ some g := (by intro h; cases h)
      (try clear hc ht hv); (refine no_implicit_lambda% (fct ?_)); intro hc ht hv; (refine no_implicit_lambda% (fx371c6 ?_)); intro e0 e1 e2 e3 e4 e5 e6 e9
      go_wp2_with (first
    | ((refine no_implicit_lambda% (hdE ?_)); intro K hK; (first
      | ((with_reducible refine at_dst 1 ?_ ?_); (focus rfl); (refine no_implicit_lambda% (aB ?_)); (try clear hc ht hv); (try clear e0 e1 e2 e3 e4 e5 e6 e9); clear hS; intro b1 w hS hc ht hv; (refine no_implicit_lambda% (fx371c6 ?_)); intro e0 e1 e2 e3 e4 e5 e6 e9)
      | ((with_reducible refine at_dst 2 ?_ ?_); (focus rfl); (refine no_implicit_lambda% (alzW ?_)); (try clear hc ht hv); (try clear e0 e1 e2 e3 e4 e5 e6 e9); clear hS; intro b2 w hS hc ht hv; (refine no_implicit_lambda% (fx371c6 ?_)); intro e0 e1 e2 e3 e4 e5 e6 e9)
      | ((with_reducible refine at_dst 3 ?_ ?_); (focus rfl); (refine no_implicit_lambda% (alzW ?_)); (try clear hc ht hv); (try clear e0 e1 e2 e3 e4 e5 e6 e9); clear hS; intro b3 w hS hc ht hv; (refine no_implicit_lambda% (fx371c6 ?_)); intro e0 e1 e2 e3 e4 e5 e6 e9)
      | ((with_reducible refine at_dst 24 ?_ ?_); (focus rfl); ((refine no_implicit_lambda% (r1zRnoP ?_)); (try clear hc ht hv); (try clear e0 e1 e2 e3 e4 e5 e6 e9); clear hS; intro c b w hS hx; (try replace hrs := hrs.mono hx.le); (try replace hus := hus.mono hx.le); (try clear hx); intro hc ht hv; (refine no_implicit_lambda% (fx371c6 ?_)); intro e0 e1 e2 e3 e4 e5 e6 e9))
      | ((with_reducible refine at_dst 42 ?_ ?_); (focus rfl); ((refine no_implicit_lambda% (r1zMbareP ?_)); (try clear hc ht hv); (try clear e0 e1 e2 e3 e4 e5 e6 e9); clear hS; intro c b w hS hx; (try replace hrs := hrs.mono hx.le); (try replace hus := hus.mono hx.le); (try clear hx); intro hc ht hv; (refine no_implicit_lambda% (fx371c6 ?_)); intro e0 e1 e2 e3 e4 e5 e6 e9))
      | ((with_reducible refine at_dst 25 ?_ ?_); (focus rfl); ((refine no_implicit_lambda% (apzR ?_)); (try clear hc ht hv); (try clear e0 e1 e2 e3 e4 e5 e6 e9); clear hS; intro c A25 d25 w hS hx; (try replace hrs := hrs.mono hx.le); (try replace hus := hus.mono hx.le); (try clear hx); intro hc ht hv; (refine no_implicit_lambda% (fx371c6 ?_)); intro e0 e1 e2 e3 e4 e5 e6 e9))
      | ((with_reducible refine at_dst 43 ?_ ?_); (focus rfl); ((refine no_implicit_lambda% (apzM ?_)); (try clear hc ht hv); (try clear e0 e1 e2 e3 e4 e5 e6 e9); clear hS; intro c A43 d43 w hS hx; (try replace hrs := hrs.mono hx.le); (try replace hus := hus.mono hx.le); (try clear hx); intro hc ht hv; (refine no_implicit_lambda% (fx371c6 ?_)); intro e0 e1 e2 e3 e4 e5 e6 e9))
      | ((refine no_implicit_lambda% (sazW ?_)); (try clear hc ht hv); (try clear e0 e1 e2 e3 e4 e5 e6 e9); clear hS; intro w hS hc ht hv; (refine no_implicit_lambda% (fx371c6 ?_)); intro e0 e1 e2 e3 e4 e5 e6 e9)
      | ((refine no_implicit_lambda% (stS ?_)); (try clear hc ht hv); (try clear e0 e1 e2 e3 e4 e5 e6 e9); clear hS; intro w hS hc ht hv; (refine no_implicit_lambda% (fx371c6 ?_)); intro e0 e1 e2 e3 e4 e5 e6 e9)))
    | (go_at_call 57; refine (l5Copy_t hS.tw tyA (by omega)).mono ?_; rintro e w ⟨c, rs, rfl, hrs, hx, hT', hb⟩; (try replace hobV := KB.call hx hb hobV); replace hS := hS.below hx hT' (by omega) (by omega) hb; clear hx hT' hb; (try clear hc ht hv); (try clear e0 e1 e2 e3 e4 e5 e6 e9); (obtain ⟨_, _, _, _, _, _, _, _, _, _, _, _, _, rfl, _, _, _, _, _, _, _, _⟩ := hrs.rep); (try dsimp only); (refine no_implicit_lambda% (fct ?_)); intro hc ht hv; (refine no_implicit_lambda% (fx371c6 ?_)); intro e0 e1 e2 e3 e4 e5 e6 e9)
    | (go_at_call 58; refine (l3Copy_t hS.tw tyA).mono ?_; rintro e w ⟨c, us, rfl, hus, hx, hT', hb, hbare⟩; replace hS := hS.below hx hT' (by omega) (by omega) hb; clear hx hT' hb; (try clear hc ht hv); (try clear e0 e1 e2 e3 e4 e5 e6 e9); (obtain ⟨_, _, _, _, _, _, _, _, _, _, _, rfl, _, _, _, _, _⟩ := hus.msg); (try dsimp only); (refine no_implicit_lambda% (fct ?_)); intro hc ht hv; (refine no_implicit_lambda% (fx371c6 ?_)); intro e0 e1 e2 e3 e4 e5 e6 e9)
    | ((refine no_implicit_lambda% (rgspecl6Copy5XO ?_)); (try clear hc ht hv); (try clear e0 e1 e2 e3 e4 e5 e6 e9); clear hS; intro hS hc ht hv; (refine no_implicit_lambda% (fx371c6 ?_)); intro e0 e1 e2 e3 e4 e5 e6 e9)
    | ((refine no_implicit_lambda% (rgspecl6Copy9XO ?_)); (try clear hc ht hv); (try clear e0 e1 e2 e3 e4 e5 e6 e9); clear hS; intro hS hc ht hv; (refine no_implicit_lambda% (fx371c6 ?_)); intro e0 e1 e2 e3 e4 e5 e6 e9)
    | ((with_reducible refine wpOF_both ?_ ?_) <;> (refine no_implicit_lambda% (pk_ ?_))) | ((with_reducible refine wpOF_three ?_ ?_ ?_) <;> (refine no_implicit_lambda% (pk_ ?_))) | ((with_reducible refine MS.and_ ?_ ?_); (focus (exact msA)); intro hM) | (refine no_implicit_lambda% (ofS ?_)) | ((refine no_implicit_lambda% (ofK ?_)); intro K hK) | (refine no_implicit_lambda% (ofL ?_)) | ((refine no_implicit_lambda% (ofM ?_)); intro K hK) | ((refine no_implicit_lambda% (ofX ?_)); intro K hK) | (refine no_implicit_lambda% (ofN ?_)) | ((with_reducible apply wpT_split); (focus rfl); (focus rfl); (focus rfl); all_goals (intro hxx; simp only [hxx]))
    | fail)
      all_goals
        go_roundw
        case rel => exact ⟨i + 1, c, _, _, by omega, by go_num, hS.tailV⟩
        case measure => simp [intOf]; omega
    · obtain rfl : i = 4 := by omega
      have hsR := hS.slV (j := 0) rfl
      (try clear hc ht hv); (refine no_implicit_lambda% (fct ?_)); intro hc ht hv
      go_wp2_with (first
    | ((refine no_implicit_lambda% (hdE ?_)); intro K hK; (first
      | ((with_reducible refine at_dst 1 ?_ ?_); (focus rfl); (refine no_implicit_lambda% (aB ?_)); (try clear hc ht hv); clear hS; intro b1 w hS hc ht hv)
      | ((with_reducible refine at_dst 2 ?_ ?_); (focus rfl); (refine no_implicit_lambda% (alzW ?_)); (try clear hc ht hv); clear hS; intro b2 w hS hc ht hv)
      | ((with_reducible refine at_dst 3 ?_ ?_); (focus rfl); (refine no_implicit_lambda% (alzW ?_)); (try clear hc ht hv); clear hS; intro b3 w hS hc ht hv)
      | ((with_reducible refine at_dst 24 ?_ ?_); (focus rfl); ((refine no_implicit_lambda% (r1zRnoP ?_)); (try clear hc ht hv); clear hS; intro c b w hS hx; (try replace hrs := hrs.mono hx.le); (try replace hus := hus.mono hx.le); (try clear hx); intro hc ht hv))
      | ((with_reducible refine at_dst 42 ?_ ?_); (focus rfl); ((refine no_implicit_lambda% (r1zMbareP ?_)); (try clear hc ht hv); clear hS; intro c b w hS hx; (try replace hrs := hrs.mono hx.le); (try replace hus := hus.mono hx.le); (try clear hx); intro hc ht hv))
      | ((with_reducible refine at_dst 25 ?_ ?_); (focus rfl); ((refine no_implicit_lambda% (apzR ?_)); (try clear hc ht hv); clear hS; intro c A25 d25 w hS hx; (try replace hrs := hrs.mono hx.le); (try replace hus := hus.mono hx.le); (try clear hx); intro hc ht hv))
      | ((with_reducible refine at_dst 43 ?_ ?_); (focus rfl); ((refine no_implicit_lambda% (apzM ?_)); (try clear hc ht hv); clear hS; intro c A43 d43 w hS hx; (try replace hrs := hrs.mono hx.le); (try replace hus := hus.mono hx.le); (try clear hx); intro hc ht hv))
      | ((refine no_implicit_lambda% (sazW ?_)); (try clear hc ht hv); clear hS; intro w hS hc ht hv)
      | ((refine no_implicit_lambda% (stS ?_)); (try clear hc ht hv); clear hS; intro w hS hc ht hv)))
    | (go_at_call 57; refine (l5Copy_t hS.tw tyA (by omega)).mono ?_; rintro e w ⟨c, rs, rfl, hrs, hx, hT', hb⟩; (try replace hobV := KB.call hx hb hobV); replace hS := hS.below hx hT' (by omega) (by omega) hb; clear hx hT' hb; (try clear hc ht hv); (obtain ⟨_, _, _, _, _, _, _, _, _, _, _, _, _, rfl, _, _, _, _, _, _, _, _⟩ := hrs.rep); (try dsimp only); (refine no_implicit_lambda% (fct ?_)); intro hc ht hv)
    | (go_at_call 58; refine (l3Copy_t hS.tw tyA).mono ?_; rintro e w ⟨c, us, rfl, hus, hx, hT', hb, hbare⟩; replace hS := hS.below hx hT' (by omega) (by omega) hb; clear hx hT' hb; (try clear hc ht hv); (obtain ⟨_, _, _, _, _, _, _, _, _, _, _, rfl, _, _, _, _, _⟩ := hus.msg); (try dsimp only); (refine no_implicit_lambda% (fct ?_)); intro hc ht hv)
    | ((refine no_implicit_lambda% (rgspecl6Copy5XO ?_)); (try clear hc ht hv); clear hS; intro hS hc ht hv)
    | ((refine no_implicit_lambda% (rgspecl6Copy9XO ?_)); (try clear hc ht hv); clear hS; intro hS hc ht hv)
    | ((with_reducible refine wpOF_both ?_ ?_) <;> (refine no_implicit_lambda% (pk_ ?_))) | ((with_reducible refine wpOF_three ?_ ?_ ?_) <;> (refine no_implicit_lambda% (pk_ ?_))) | ((with_reducible refine MS.and_ ?_ ?_); (focus (exact msA)); intro hM) | (refine no_implicit_lambda% (ofS ?_)) | ((refine no_implicit_lambda% (ofK ?_)); intro K hK) | (refine no_implicit_lambda% (ofL ?_)) | ((refine no_implicit_lambda% (ofM ?_)); intro K hK) | ((refine no_implicit_lambda% (ofX ?_)); intro K hK) | (refine no_implicit_lambda% (ofN ?_)) | ((with_reducible apply wpT_split); (focus rfl); (focus rfl); (focus rfl); all_goals (intro hxx; simp only [hxx]))
    | fail)
      replace hS := hS.nilV tM bareP
      go_loopw [5] (fun iv wr => ∃ (i : Nat) (c : Cx) (B' : Option Addr) (q' : Nat), i ≤ p ∧ iv = .int .i64 (i : Int) ∧ St ⟨c0, w0, none⟩ 0 T D c [(b3, tW, [.int .i64 bad, .slice A' 4 d', .slice B' i q']), (b2, tW, [.int .i64 0, .slice none 0 0, .slice none 0 0]), (b1, tW, [.int .i64 bad, .slice A 4 d, .slice B p q])] [(tM, bareP, .slice B' i q')] wr) (fun iv _ => p - (intOf iv).toNat)
      case atStart => exact ⟨0, c, none, 0, Nat.zero_le _, rfl, hS.tailV1⟩
      case round =>
        (try clear hc ht hv); clear hS hsR
        obtain ⟨i, c, B', q', hi, rfl, hS⟩ := hrel
        by_cases hlti : i < p
        · obtain ⟨g, off, rfl⟩ := h2.addr hlti
          obtain ⟨kd, fr, mv, sq, mr, Ac, nc, dc, Av, nv, dv, a0, a1, a2, a3, a4, a5, a6, a7, a8, a9, a10, u1, u2, u3, u4, u5⟩ := hT.msgAt h2 hlti
          have hbz := hT.bareAt h2 hb hlti a0 a1 a2 a3 a4 a5 a6 a7 a8 a9 a10
          obtain ⟨ob, hob⟩ := hT.rowOb h2
          have hoG : (Bs.mk c0 w0 none).G ≠ some g := (by intro h; cases h)
          (try clear hc ht hv); (refine no_implicit_lambda% (fct ?_)); intro hc ht hv; (refine no_implicit_lambda% (fx2eb15 ?_)); intro e0 e1 e2 e3 e4 e5 e6 e7 e8 e9 e10 e12 e14
          go_wp2_with (first
    | ((refine no_implicit_lambda% (hdE ?_)); intro K hK; (first
      | ((with_reducible refine at_dst 1 ?_ ?_); (focus rfl); (refine no_implicit_lambda% (aB ?_)); (try clear hc ht hv); (try clear e0 e1 e2 e3 e4 e5 e6 e7 e8 e9 e10 e12 e14); clear hS; intro b1 w hS hc ht hv; (refine no_implicit_lambda% (fx2eb15 ?_)); intro e0 e1 e2 e3 e4 e5 e6 e7 e8 e9 e10 e12 e14)
      | ((with_reducible refine at_dst 2 ?_ ?_); (focus rfl); (refine no_implicit_lambda% (alzW ?_)); (try clear hc ht hv); (try clear e0 e1 e2 e3 e4 e5 e6 e7 e8 e9 e10 e12 e14); clear hS; intro b2 w hS hc ht hv; (refine no_implicit_lambda% (fx2eb15 ?_)); intro e0 e1 e2 e3 e4 e5 e6 e7 e8 e9 e10 e12 e14)
      | ((with_reducible refine at_dst 3 ?_ ?_); (focus rfl); (refine no_implicit_lambda% (alzW ?_)); (try clear hc ht hv); (try clear e0 e1 e2 e3 e4 e5 e6 e7 e8 e9 e10 e12 e14); clear hS; intro b3 w hS hc ht hv; (refine no_implicit_lambda% (fx2eb15 ?_)); intro e0 e1 e2 e3 e4 e5 e6 e7 e8 e9 e10 e12 e14)
      | ((with_reducible refine at_dst 24 ?_ ?_); (focus rfl); ((refine no_implicit_lambda% (r1zRnoP ?_)); (try clear hc ht hv); (try clear e0 e1 e2 e3 e4 e5 e6 e7 e8 e9 e10 e12 e14); clear hS; intro c b w hS hx; (try replace hrs := hrs.mono hx.le); (try replace hus := hus.mono hx.le); (try clear hx); intro hc ht hv; (refine no_implicit_lambda% (fx2eb15 ?_)); intro e0 e1 e2 e3 e4 e5 e6 e7 e8 e9 e10 e12 e14))
      | ((with_reducible refine at_dst 42 ?_ ?_); (focus rfl); ((refine no_implicit_lambda% (r1zMbareP ?_)); (try clear hc ht hv); (try clear e0 e1 e2 e3 e4 e5 e6 e7 e8 e9 e10 e12 e14); clear hS; intro c b w hS hx; (try replace hrs := hrs.mono hx.le); (try replace hus := hus.mono hx.le); (try clear hx); intro hc ht hv; (refine no_implicit_lambda% (fx2eb15 ?_)); intro e0 e1 e2 e3 e4 e5 e6 e7 e8 e9 e10 e12 e14))
      | ((with_reducible refine at_dst 25 ?_ ?_); (focus rfl); ((refine no_implicit_lambda% (apzR ?_)); (try clear hc ht hv); (try clear e0 e1 e2 e3 e4 e5 e6 e7 e8 e9 e10 e12 e14); clear hS; intro c A25 d25 w hS hx; (try replace hrs := hrs.mono hx.le); (try replace hus := hus.mono hx.le); (try clear hx); intro hc ht hv; (refine no_implicit_lambda% (fx2eb15 ?_)); intro e0 e1 e2 e3 e4 e5 e6 e7 e8 e9 e10 e12 e14))
      | ((with_reducible refine at_dst 43 ?_ ?_); (focus rfl); ((refine no_implicit_lambda% (apzM ?_)); (try clear hc ht hv); (try clear e0 e1 e2 e3 e4 e5 e6 e7 e8 e9 e10 e12 e14); clear hS; intro c A43 d43 w hS hx; (try replace hrs := hrs.mono hx.le); (try replace hus := hus.mono hx.le); (try clear hx); intro hc ht hv; (refine no_implicit_lambda% (fx2eb15 ?_)); intro e0 e1 e2 e3 e4 e5 e6 e7 e8 e9 e10 e12 e14))
      | ((refine no_implicit_lambda% (sazW ?_)); (try clear hc ht hv); (try clear e0 e1 e2 e3 e4 e5 e6 e7 e8 e9 e10 e12 e14); clear hS; intro w hS hc ht hv; (refine no_implicit_lambda% (fx2eb15 ?_)); intro e0 e1 e2 e3 e4 e5 e6 e7 e8 e9 e10 e12 e14)
      | ((refine no_implicit_lambda% (stS ?_)); (try clear hc ht hv); (try clear e0 e1 e2 e3 e4 e5 e6 e7 e8 e9 e10 e12 e14); clear hS; intro w hS hc ht hv; (refine no_implicit_lambda% (fx2eb15 ?_)); intro e0 e1 e2 e3 e4 e5 e6 e7 e8 e9 e10 e12 e14)))
    | (go_at_call 57; refine (l5Copy_t hS.tw tyA (by omega)).mono ?_; rintro e w ⟨c, rs, rfl, hrs, hx, hT', hb⟩; (try replace hobV := KB.call hx hb hobV); replace hS := hS.below hx hT' (by omega) (by omega) hb; clear hx hT' hb; (try clear hc ht hv); (try clear e0 e1 e2 e3 e4 e5 e6 e7 e8 e9 e10 e12 e14); (obtain ⟨_, _, _, _, _, _, _, _, _, _, _, _, _, rfl, _, _, _, _, _, _, _, _⟩ := hrs.rep); (try dsimp only); (refine no_implicit_lambda% (fct ?_)); intro hc ht hv; (refine no_implicit_lambda% (fx2eb15 ?_)); intro e0 e1 e2 e3 e4 e5 e6 e7 e8 e9 e10 e12 e14)
    | (go_at_call 58; refine (l3Copy_t hS.tw tyA).mono ?_; rintro e w ⟨c, us, rfl, hus, hx, hT', hb, hbare⟩; replace hS := hS.below hx hT' (by omega) (by omega) hb; clear hx hT' hb; (try clear hc ht hv); (try clear e0 e1 e2 e3 e4 e5 e6 e7 e8 e9 e10 e12 e14); (obtain ⟨_, _, _, _, _, _, _, _, _, _, _, rfl, _, _, _, _, _⟩ := hus.msg); (try dsimp only); (refine no_implicit_lambda% (fct ?_)); intro hc ht hv; (refine no_implicit_lambda% (fx2eb15 ?_)); intro e0 e1 e2 e3 e4 e5 e6 e7 e8 e9 e10 e12 e14)
    | ((refine no_implicit_lambda% (rgspecl6Copy5XO ?_)); (try clear hc ht hv); (try clear e0 e1 e2 e3 e4 e5 e6 e7 e8 e9 e10 e12 e14); clear hS; intro hS hc ht hv; (refine no_implicit_lambda% (fx2eb15 ?_)); intro e0 e1 e2 e3 e4 e5 e6 e7 e8 e9 e10 e12 e14)
    | ((refine no_implicit_lambda% (rgspecl6Copy9XO ?_)); (try clear hc ht hv); (try clear e0 e1 e2 e3 e4 e5 e6 e7 e8 e9 e10 e12 e14); clear hS; intro hS hc ht hv; (refine no_implicit_lambda% (fx2eb15 ?_)); intro e0 e1 e2 e3 e4 e5 e6 e7 e8 e9 e10 e12 e14)
    | ((with_reducible refine wpOF_both ?_ ?_) <;> (refine no_implicit_lambda% (pk_ ?_))) | ((with_reducible refine wpOF_three ?_ ?_ ?_) <;> (refine no_implicit_lambda% (pk_ ?_))) | ((with_reducible refine MS.and_ ?_ ?_); (focus (exact msA)); intro hM) | (refine no_implicit_lambda% (ofS ?_)) | ((refine no_implicit_lambda% (ofK ?_)); intro K hK) | (refine no_implicit_lambda% (ofL ?_)) | ((refine no_implicit_lambda% (ofM ?_)); intro K hK) | ((refine no_implicit_lambda% (ofX ?_)); intro K hK) | (refine no_implicit_lambda% (ofN ?_)) | ((with_reducible apply wpT_split); (focus rfl); (focus rfl); (focus rfl); all_goals (intro hxx; simp only [hxx]))
    | fail)
          all_goals
            go_roundw
            case rel => exact ⟨i + 1, c, _, _, by omega, by go_num, hS.tailV⟩
            case measure => simp [intOf]; omega
        · obtain rfl : i = p := by omega
          (try clear hc ht hv); (refine no_implicit_lambda% (fct ?_)); intro hc ht hv
          go_wp2_with (first
    | ((refine no_implicit_lambda% (hdE ?_)); intro K hK; (first
      | ((with_reducible refine at_dst 1 ?_ ?_); (focus rfl); (refine no_implicit_lambda% (aB ?_)); (try clear hc ht hv); clear hS; intro b1 w hS hc ht hv)
      | ((with_reducible refine at_dst 2 ?_ ?_); (focus rfl); (refine no_implicit_lambda% (alzW ?_)); (try clear hc ht hv); clear hS; intro b2 w hS hc ht hv)
      | ((with_reducible refine at_dst 3 ?_ ?_); (focus rfl); (refine no_implicit_lambda% (alzW ?_)); (try clear hc ht hv); clear hS; intro b3 w hS hc ht hv)
      | ((with_reducible refine at_dst 24 ?_ ?_); (focus rfl); ((refine no_implicit_lambda% (r1zRnoP ?_)); (try clear hc ht hv); clear hS; intro c b w hS hx; (try replace hrs := hrs.mono hx.le); (try replace hus := hus.mono hx.le); (try clear hx); intro hc ht hv))
      | ((with_reducible refine at_dst 42 ?_ ?_); (focus rfl); ((refine no_implicit_lambda% (r1zMbareP ?_)); (try clear hc ht hv); clear hS; intro c b w hS hx; (try replace hrs := hrs.mono hx.le); (try replace hus := hus.mono hx.le); (try clear hx); intro hc ht hv))
      | ((with_reducible refine at_dst 25 ?_ ?_); (focus rfl); ((refine no_implicit_lambda% (apzR ?_)); (try clear hc ht hv); clear hS; intro c A25 d25 w hS hx; (try replace hrs := hrs.mono hx.le); (try replace hus := hus.mono hx.le); (try clear hx); intro hc ht hv))
      | ((with_reducible refine at_dst 43 ?_ ?_); (focus rfl); ((refine no_implicit_lambda% (apzM ?_)); (try clear hc ht hv); clear hS; intro c A43 d43 w hS hx; (try replace hrs := hrs.mono hx.le); (try replace hus := hus.mono hx.le); (try clear hx); intro hc ht hv))
      | ((refine no_implicit_lambda% (sazW ?_)); (try clear hc ht hv); clear hS; intro w hS hc ht hv)
      | ((refine no_implicit_lambda% (stS ?_)); (try clear hc ht hv); clear hS; intro w hS hc ht hv)))
    | (go_at_call 57; refine (l5Copy_t hS.tw tyA (by omega)).mono ?_; rintro e w ⟨c, rs, rfl, hrs, hx, hT', hb⟩; (try replace hobV := KB.call hx hb hobV); replace hS := hS.below hx hT' (by omega) (by omega) hb; clear hx hT' hb; (try clear hc ht hv); (obtain ⟨_, _, _, _, _, _, _, _, _, _, _, _, _, rfl, _, _, _, _, _, _, _, _⟩ := hrs.rep); (try dsimp only); (refine no_implicit_lambda% (fct ?_)); intro hc ht hv)
    | (go_at_call 58; refine (l3Copy_t hS.tw tyA).mono ?_; rintro e w ⟨c, us, rfl, hus, hx, hT', hb, hbare⟩; replace hS := hS.below hx hT' (by omega) (by omega) hb; clear hx hT' hb; (try clear hc ht hv); (obtain ⟨_, _, _, _, _, _, _, _, _, _, _, rfl, _, _, _, _, _⟩ := hus.msg); (try dsimp only); (refine no_implicit_lambda% (fct ?_)); intro hc ht hv)
    | ((refine no_implicit_lambda% (rgspecl6Copy5XO ?_)); (try clear hc ht hv); clear hS; intro hS hc ht hv)
    | ((refine no_implicit_lambda% (rgspecl6Copy9XO ?_)); (try clear hc ht hv); clear hS; intro hS hc ht hv)
    | ((with_reducible refine wpOF_both ?_ ?_) <;> (refine no_implicit_lambda% (pk_ ?_))) | ((with_reducible refine wpOF_three ?_ ?_ ?_) <;> (refine no_implicit_lambda% (pk_ ?_))) | ((with_reducible refine MS.and_ ?_ ?_); (focus (exact msA)); intro hM) | (refine no_implicit_lambda% (ofS ?_)) | ((refine no_implicit_lambda% (ofK ?_)); intro K hK) | (refine no_implicit_lambda% (ofL ?_)) | ((refine no_implicit_lambda% (ofM ?_)); intro K hK) | ((refine no_implicit_lambda% (ofX ?_)); intro K hK) | (refine no_implicit_lambda% (ofN ?_)) | ((with_reducible apply wpT_split); (focus rfl); (focus rfl); (focus rfl); all_goals (intro hxx; simp only [hxx]))
    | fail)
          all_goals (exact no_implicit_lambda% fW4_3)
end
end Go.Proofs.YtopmbnnjhoinkaaGreat
