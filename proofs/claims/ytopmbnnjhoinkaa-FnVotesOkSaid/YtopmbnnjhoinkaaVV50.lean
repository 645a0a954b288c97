/-
  What 'FVd' rests on (texts of this seat put together: TX21 TX22).
  Conditions: none.
-/
import Derived.Test.YtopmbnnjhoinkaaVV46
import Derived.Test.YtopmbnnjhoinkaaVV33
import Derived.Test.YtopmbnnjhoinkaaVV42
import Derived.Test.YtopmbnnjhoinkaaVV44
namespace Go.Proofs.Ytopmbnnjhoinkaa
open Go Go.RowKit Rg
set_option linter.unusedVariables false
set_option linter.unusedSimpArgs false
set_option maxHeartbeats 1000000
section
variable {T D : Nat} {c0 : Cx} {w0 : World} {rs cs us vs : List Value} {bad : Int} {A : Option Addr} {d : Nat} {B : Option Addr} {p q : Nat} {C : Option Addr} {m f : Nat}
set_option maxRecDepth 100000 in
set_option maxHeartbeats 20000000 in
theorem l6Do_t (hT : TW T D c0 w0) (h1 : SlV c0 tR (.slice A 4 d)) (h2 : SlV c0 tM (.slice B p q)) (hp : p ≤ 100) (hb : BareS w0 B p) (he : TyE T D c0 tE us) (hB : T ≤ 100000 ∧ D ≤ 100000000) :
    Calls Try.prog 68 #[.agg (List.toArray [.int .i64 bad, .slice A 4 d, .slice B p q]), .agg us.toArray] w0 fun e w' => PWb [.int .i64 bad, .slice A 4 d, .slice B p q] (T + 100) (D + T + 100) c0 w0 e w' := by
  have he' := he
  obtain ⟨ek, at_, to, kd, fr, mv, sq, mr, B1, p1, q1, B2, p2, q2, rfl, v1, v2, v3, v4, v5⟩ := he.event
  by_cases i1 : ek = 1
  · exact l6Do_ask hT h1 h2 hp hb he' (by rw [i1]; rfl) hB
  by_cases i2 : ek = 2
  · exact l6Do_hear hT h1 h2 hp hb he' (by rw [i2]; rfl) hB
  by_cases i3 : ek = 3
  · exact l6Do_turn hT h1 h2 hp hb he' (by rw [i3]; rfl) hB
  by_cases i4 : ek = 4
  · exact l6Do_fake hT h1 h2 hp hb he' (by rw [i4]; rfl) hB
  have k1 : (ek == 1) = false := by simpa using i1
  have k2 : (ek == 2) = false := by simpa using i2
  have k3 : (ek == 3) = false := by simpa using i3
  have k4 : (ek == 4) = false := by simpa using i4
  cases fI : inB to 0 3
  all_goals
    have hS : St ⟨c0, w0, none⟩ 0 (T) (D) c0 [] [] w0 := (St.start hT (fun g hg => by cases hg)).raise (by omega) (by omega)
    go_enter Try.func68, Try.ntmps68
    go_wp2_with (first
        | ((refine no_implicit_lambda% (hdE ?_)); intro K hK; (first
          | ((with_reducible refine at_dst 2 ?_ ?_); (focus rfl); (refine no_implicit_lambda% (aB ?_)); (try clear hc ht hv); clear hS; intro b2 w hS hc ht hv)
          | ((with_reducible refine at_dst 3 ?_ ?_); (focus rfl); (refine no_implicit_lambda% (aB ?_)); (try clear hc ht hv); clear hS; intro b3 w hS hc ht hv)
          | ((with_reducible refine at_dst 4 ?_ ?_); (focus rfl); (refine no_implicit_lambda% (alzW ?_)); (try clear hc ht hv); clear hS; intro b4 w hS hc ht hv)
          | ((with_reducible refine at_dst 7 ?_ ?_); (focus rfl); (refine no_implicit_lambda% (alzM ?_)); (try clear hc ht hv); clear hS; intro b7 w hS hc ht hv)
          | ((with_reducible refine at_dst 8 ?_ ?_); (focus rfl); (refine no_implicit_lambda% (alzR ?_)); (try clear hc ht hv); clear hS; intro b8 w hS hc ht hv)
          | ((with_reducible refine at_dst 10 ?_ ?_); (focus rfl); (refine no_implicit_lambda% (alzR ?_)); (try clear hc ht hv); clear hS; intro b10 w hS hc ht hv)
          | ((with_reducible refine at_dst 12 ?_ ?_); (focus rfl); (refine no_implicit_lambda% (alzM ?_)); (try clear hc ht hv); clear hS; intro b12 w hS hc ht hv)
          | ((with_reducible refine at_dst 43 ?_ ?_); (focus rfl); ((refine no_implicit_lambda% (r1zMbareP ?_)); (try clear hc ht hv); clear hS; intro c b w hS hx; (try replace hrs := hrs.mono hx.le); (try replace hus := hus.mono hx.le); (try clear hx); intro hc ht hv))
          | ((with_reducible refine at_dst 144 ?_ ?_); (focus rfl); ((refine no_implicit_lambda% (r1zMbareP ?_)); (try clear hc ht hv); clear hS; intro c b w hS hx; (try replace hrs := hrs.mono hx.le); (try replace hus := hus.mono hx.le); (try clear hx); intro hc ht hv))
          | ((refine no_implicit_lambda% (sazM ?_)); (try clear hc ht hv); clear hS; intro w hS hc ht hv)
          | ((refine no_implicit_lambda% (sazW ?_)); (try clear hc ht hv); clear hS; intro w hS hc ht hv)
          | ((refine no_implicit_lambda% (sazR ?_)); (try clear hc ht hv); clear hS; intro w hS hc ht hv)
          | ((refine no_implicit_lambda% (stI ?_)); (try clear hc ht hv); clear hS; intro w hS hc ht hv)))
        | (go_at_call 34; refine (l1In_c _ _ _ _).mono ?_; rintro e w ⟨rfl, rfl⟩; (try clear hc ht hv); (try dsimp only); (refine no_implicit_lambda% (fct ?_)); intro hc ht hv)
        | (go_at_call 81; refine (l3Ok_t hS.tw tyA).mono ?_; rintro e w ⟨bq, rfl, hbare, hb⟩; replace hS := hS.past hb; clear hb; (try clear hc ht hv); (try dsimp only); (refine no_implicit_lambda% (fct ?_)); intro hc ht hv; cases bq)
        | (go_at_call 77; refine (l3Has_t hS.tw slA tyA).mono ?_; rintro e w ⟨bq, rfl, hb⟩; replace hS := hS.past hb; clear hb; (try clear hc ht hv); (try dsimp only); (refine no_implicit_lambda% (fct ?_)); intro hc ht hv; cases bq)
        | (go_at_call 82; refine (l6Say_t hS.tw slA slA (by omega) brA slA (by omega) brA).mono ?_; rintro e w ⟨c, hres, hx, hT', hb⟩; have hlt_ := hS.ownLt; have hbs_ := hS.base; (try replace hobV := KB.call hx hb hobV); replace hS := hS.below hx hT' (by omega) (by omega) hb; clear hx hT' hb; (rcases hres with rfl | ⟨bad', Aw, dw, Bw, pw, qw, rfl, s1, s2, hpw, ls, ho, hP⟩) <;> ((try replace hS := hS.addV s2 ho hP hbs_ hlt_); (try clear ho hP ls); clear hlt_ hbs_; (try clear hc ht hv); (try dsimp only); (refine no_implicit_lambda% (fct ?_)); intro hc ht hv))
        | (go_at_call 83; refine (l5Hear_t hS.tw tyA tyA slA (by omega)).mono ?_; rintro e w ⟨c, rs, Am, nm, dm, rfl, hrs, hnm, hsm, ⟨lsm, hom, hpm⟩, hx, hT', hb⟩; (try replace hobV := KB.call hx hb hobV); have hlt_ := hS.ownLt; replace hS := (hS.below hx hT' (by omega) (by omega) hb).addV hsm hom hpm hS.base hlt_; clear hx hT' hb hlt_ hom hpm hsm lsm; (try clear hc ht hv); (obtain ⟨_, _, _, _, _, _, _, _, _, _, _, _, _, rfl, _, _, _, _, _, _, _, _⟩ := hrs.rep); (try dsimp only); (refine no_implicit_lambda% (fct ?_)); intro hc ht hv)
        | (go_at_call 84; refine (l6Set_t hS.tw slA slA (by omega) brA tyA slA (by omega) brA).mono ?_; rintro e w ⟨c, hres, hx, hT', hb⟩; have hlt_ := hS.ownLt; have hbs_ := hS.base; (try replace hobV := KB.call hx hb hobV); replace hS := hS.below hx hT' (by omega) (by omega) hb; clear hx hT' hb; (rcases hres with rfl | ⟨bad', Aw, dw, Bw, pw, qw, rfl, s1, s2, hpw, ls, ho, hP⟩) <;> ((try replace hS := hS.addV s2 ho hP hbs_ hlt_); (try clear ho hP ls); clear hlt_ hbs_; (try clear hc ht hv); (try dsimp only); (refine no_implicit_lambda% (fct ?_)); intro hc ht hv))
        | (go_at_call 85; refine (l5Turns_t hS.tw tyA slA (by omega) (by omega)).mono ?_; rintro e w ⟨c, rs, Am, nm, dm, rfl, hrs, hnm, hsm, ⟨lsm, hom, hpm⟩, hx, hT', hb⟩; (try replace hobV := KB.call hx hb hobV); have hlt_ := hS.ownLt; replace hS := (hS.below hx hT' (by omega) (by omega) hb).addV hsm hom hpm hS.base hlt_; clear hx hT' hb hlt_ hom hpm hsm lsm; (try clear hc ht hv); (obtain ⟨_, _, _, _, _, _, _, _, _, _, _, _, _, rfl, _, _, _, _, _, _, _, _⟩ := hrs.rep); (try dsimp only); (refine no_implicit_lambda% (fct ?_)); intro hc ht hv)
        | (go_at_call 66; refine (l3Copy_t hS.tw tyA).mono ?_; rintro e w ⟨c, us, rfl, hus, hx, hT', hb, hbare⟩; replace hS := hS.below hx hT' (by omega) (by omega) hb; clear hx hT' hb; (try clear hc ht hv); (obtain ⟨_, _, _, _, _, _, _, _, _, _, _, rfl, _, _, _, _, _⟩ := hus.msg); (try dsimp only); (refine no_implicit_lambda% (fct ?_)); intro hc ht hv)
        | ((refine no_implicit_lambda% (rgspecl6Do11XOO ?_)); (try clear hc ht hv); clear hS; intro hS hc ht hv)
        | ((refine no_implicit_lambda% (rgspecl6Do16XO ?_)); (try clear hc ht hv); clear hS; intro hS hc ht hv)
        | ((with_reducible refine wpOF_both ?_ ?_) <;> (refine no_implicit_lambda% (pk_ ?_))) | ((with_reducible refine wpOF_three ?_ ?_ ?_) <;> (refine no_implicit_lambda% (pk_ ?_))) | ((with_reducible refine MS.and_ ?_ ?_); (focus (exact msA)); intro hM) | (refine no_implicit_lambda% (ofS ?_)) | ((refine no_implicit_lambda% (ofK ?_)); intro K hK) | (refine no_implicit_lambda% (ofL ?_)) | ((refine no_implicit_lambda% (ofM ?_)); intro K hK) | ((refine no_implicit_lambda% (ofX ?_)); intro K hK) | (refine no_implicit_lambda% (ofN ?_)) | ((with_reducible apply wpT_split); (focus rfl); (focus rfl); (focus rfl); all_goals (intro hxx; simp only [hxx]))
        | fail)
    all_goals (exact no_implicit_lambda% fWb3_3r)
end
section
variable {T D : Nat} {c0 : Cx} {w0 : World} {rs cs us vs : List Value} {bad : Int} {A : Option Addr} {d : Nat} {B : Option Addr} {p q : Nat} {C : Option Addr} {m f : Nat}
set_option maxRecDepth 100000 in
set_option maxHeartbeats 20000000 in
theorem WorldPlay_t (hT : TW 12000 2400000 c0 w0) (hs : SlV c0 tE (.slice A m d)) (hb : inB bad 0 3 = true) :
    Calls Try.prog 40 #[.int .i64 bad, .slice A m d] w0 fun e w' => PWd 21000 6000000 c0 w0 e w' := by
  have hcap := hs.cap
  unfold maxLen at hcap
  have hS : St ⟨c0, w0, none⟩ 0 (12000) (2400000) c0 [] [] w0 := (St.start hT (fun g hg => by cases hg)).raise (by omega) (by omega)
  go_enter Try.func40, Try.ntmps40
  go_wp2_with (first
    | ((refine no_implicit_lambda% (hdE ?_)); intro K hK; (first
      | ((with_reducible refine at_dst 4 ?_ ?_); (focus rfl); (refine no_implicit_lambda% (alzW ?_)); (try clear hc ht hv); clear hS; intro b4 w hS hc ht hv)
      | ((with_reducible refine at_dst 5 ?_ ?_); (focus rfl); (refine no_implicit_lambda% (alzW ?_)); (try clear hc ht hv); clear hS; intro b5 w hS hc ht hv)
      | ((with_reducible refine at_dst 7 ?_ ?_); (focus rfl); (refine no_implicit_lambda% (alzW ?_)); (try clear hc ht hv); clear hS; intro b7 w hS hc ht hv)
      | ((refine no_implicit_lambda% (sazW ?_)); (try clear hc ht hv); clear hS; intro w hS hc ht hv)))
    | (go_at_call 67; refine (WorldNew_t hS.tw (by assumption)).mono ?_; rintro e w ⟨c, bad', Aw, dw, Bw, pw, qw, rfl, s1, s2, hpw, ⟨ls, ho, hP⟩, hx, hT', hb⟩; have hlt_ := hS.ownLt; replace hS := (hS.below hx hT' (by omega) (by omega) hb).addV s2 ho hP hS.base hlt_; clear hx hT' hb hlt_ ho hP ls; (try clear hc ht hv); (try dsimp only); (refine no_implicit_lambda% (fct ?_)); intro hc ht hv)
    | (go_at_call 68; refine (l6Do_t hS.tw slA slA (by omega) brA tyA (by omega)).mono ?_; rintro e w ⟨c, hres, hx, hT', hb⟩; have hlt_ := hS.ownLt; have hbs_ := hS.base; (try replace hobV := KB.call hx hb hobV); replace hS := hS.below hx hT' (by omega) (by omega) hb; clear hx hT' hb; (rcases hres with rfl | ⟨bad', Aw, dw, Bw, pw, qw, rfl, s1, s2, hpw, ls, ho, hP⟩) <;> ((try replace hS := hS.addV s2 ho hP hbs_ hlt_); (try clear ho hP ls); clear hlt_ hbs_; (try clear hc ht hv); (try dsimp only); (refine no_implicit_lambda% (fct ?_)); intro hc ht hv))
    | ((refine no_implicit_lambda% (rgspecWorldPlay5XO ?_)); (try clear hc ht hv); clear hS; intro hS hc ht hv)
    | ((with_reducible refine wpOF_both ?_ ?_) <;> (refine no_implicit_lambda% (pk_ ?_))) | ((with_reducible refine wpOF_three ?_ ?_ ?_) <;> (refine no_implicit_lambda% (pk_ ?_))) | ((with_reducible refine MS.and_ ?_ ?_); (focus (exact msA)); intro hM) | (refine no_implicit_lambda% (ofS ?_)) | ((refine no_implicit_lambda% (ofK ?_)); intro K hK) | (refine no_implicit_lambda% (ofL ?_)) | ((refine no_implicit_lambda% (ofM ?_)); intro K hK) | ((refine no_implicit_lambda% (ofX ?_)); intro K hK) | (refine no_implicit_lambda% (ofN ?_)) | ((with_reducible apply wpT_split); (focus rfl); (focus rfl); (focus rfl); all_goals (intro hxx; simp only [hxx]))
    | fail)
  go_loopw [6] (fun iv wr => ∃ (i : Nat) (c : Cx) (bad : Int) (A' : Option Addr) (d' : Nat) (B : Option Addr) (p q : Nat), i ≤ m ∧ i ≤ 90 ∧ p ≤ 100 ∧ iv = .int .i64 (i : Int) ∧ St ⟨c0, w0, none⟩ 0 (12000 + 100 * i) (2400000 + 40000 * i) c [(b5, tW, [.int .i64 bad, .slice A' 4 d', .slice B p q]), (b4, tW, [.int .i64 0, .slice none 0 0, .slice none 0 0])] [(tM, bareP, .slice B p q)] wr) (fun iv _ => 90 - (intOf iv).toNat)
  case atStart => exact ⟨0, c, _, _, _, _, _, _, Nat.zero_le _, Nat.zero_le _, by omega, rfl, hS⟩
  case round =>
    (try clear hc ht hv); clear hS
    obtain ⟨i, c, bad, A', d', B, p, q, hi, hi90, hp, rfl, hS⟩ := hrel
    by_cases hlti : i < m
    · have d0 : decide ((i : Int) < (m : Int)) = true := by simp; omega
      by_cases hlt9 : i < 90
      · have d1 : decide ((i : Int) < 90) = true := by simp; omega
        obtain ⟨g, off, rfl⟩ := hs.addr hlti
        obtain ⟨ek, at_, to, kd, fr, mv, sq, mr, B1, p1, q1, B2, p2, q2, a0, a1, a2, a3, a4, a5, a6, a7, a8, a9, a10, a11, a12, a13, u0⟩ := (hT.up (show 12000 ≤ 12000 + 100 * i by omega) (show 2400000 ≤ 2400000 + 40000 * i by omega)).eventAt hs hlti
        obtain ⟨ob, hob⟩ := hT.rowOb hs
        have hoG : (Bs.mk c0 w0 none).G ≠ some g := (by intro h; cases h)
        (try clear hc ht hv); (refine no_implicit_lambda% (fct ?_)); intro hc ht hv; (refine no_implicit_lambda% (fx6da60 ?_)); intro e0 e1 e2 e3 e4 e5 e6 e7 e8 e9 e10 e11 e12 e13 e20
        go_wp2_with (first
    | ((refine no_implicit_lambda% (hdE ?_)); intro K hK; (first
      | ((with_reducible refine at_dst 4 ?_ ?_); (focus rfl); (refine no_implicit_lambda% (alzW ?_)); (try clear hc ht hv); (try clear e0 e1 e2 e3 e4 e5 e6 e7 e8 e9 e10 e11 e12 e13 e20); clear hS; intro b4 w hS hc ht hv; (refine no_implicit_lambda% (fx6da60 ?_)); intro e0 e1 e2 e3 e4 e5 e6 e7 e8 e9 e10 e11 e12 e13 e20)
      | ((with_reducible refine at_dst 5 ?_ ?_); (focus rfl); (refine no_implicit_lambda% (alzW ?_)); (try clear hc ht hv); (try clear e0 e1 e2 e3 e4 e5 e6 e7 e8 e9 e10 e11 e12 e13 e20); clear hS; intro b5 w hS hc ht hv; (refine no_implicit_lambda% (fx6da60 ?_)); intro e0 e1 e2 e3 e4 e5 e6 e7 e8 e9 e10 e11 e12 e13 e20)
      | ((with_reducible refine at_dst 7 ?_ ?_); (focus rfl); (refine no_implicit_lambda% (alzW ?_)); (try clear hc ht hv); (try clear e0 e1 e2 e3 e4 e5 e6 e7 e8 e9 e10 e11 e12 e13 e20); clear hS; intro b7 w hS hc ht hv; (refine no_implicit_lambda% (fx6da60 ?_)); intro e0 e1 e2 e3 e4 e5 e6 e7 e8 e9 e10 e11 e12 e13 e20)
      | ((refine no_implicit_lambda% (sazW ?_)); (try clear hc ht hv); (try clear e0 e1 e2 e3 e4 e5 e6 e7 e8 e9 e10 e11 e12 e13 e20); clear hS; intro w hS hc ht hv; (refine no_implicit_lambda% (fx6da60 ?_)); intro e0 e1 e2 e3 e4 e5 e6 e7 e8 e9 e10 e11 e12 e13 e20)))
    | (go_at_call 67; refine (WorldNew_t hS.tw (by assumption)).mono ?_; rintro e w ⟨c, bad', Aw, dw, Bw, pw, qw, rfl, s1, s2, hpw, ⟨ls, ho, hP⟩, hx, hT', hb⟩; have hlt_ := hS.ownLt; replace hS := (hS.below hx hT' (by omega) (by omega) hb).addV s2 ho hP hS.base hlt_; clear hx hT' hb hlt_ ho hP ls; (try clear hc ht hv); (try clear e0 e1 e2 e3 e4 e5 e6 e7 e8 e9 e10 e11 e12 e13 e20); (try dsimp only); (refine no_implicit_lambda% (fct ?_)); intro hc ht hv; (refine no_implicit_lambda% (fx6da60 ?_)); intro e0 e1 e2 e3 e4 e5 e6 e7 e8 e9 e10 e11 e12 e13 e20)
    | (go_at_call 68; refine (l6Do_t hS.tw slA slA (by omega) brA tyA (by omega)).mono ?_; rintro e w ⟨c, hres, hx, hT', hb⟩; have hlt_ := hS.ownLt; have hbs_ := hS.base; (try replace hobV := KB.call hx hb hobV); replace hS := hS.below hx hT' (by omega) (by omega) hb; clear hx hT' hb; (rcases hres with rfl | ⟨bad', Aw, dw, Bw, pw, qw, rfl, s1, s2, hpw, ls, ho, hP⟩) <;> ((try replace hS := hS.addV s2 ho hP hbs_ hlt_); (try clear ho hP ls); clear hlt_ hbs_; (try clear hc ht hv); (try clear e0 e1 e2 e3 e4 e5 e6 e7 e8 e9 e10 e11 e12 e13 e20); (try dsimp only); (refine no_implicit_lambda% (fct ?_)); intro hc ht hv; (refine no_implicit_lambda% (fx6da60 ?_)); intro e0 e1 e2 e3 e4 e5 e6 e7 e8 e9 e10 e11 e12 e13 e20))
    | ((refine no_implicit_lambda% (rgspecWorldPlay5XO ?_)); (try clear hc ht hv); (try clear e0 e1 e2 e3 e4 e5 e6 e7 e8 e9 e10 e11 e12 e13 e20); clear hS; intro hS hc ht hv; (refine no_implicit_lambda% (fx6da60 ?_)); intro e0 e1 e2 e3 e4 e5 e6 e7 e8 e9 e10 e11 e12 e13 e20)
    | ((with_reducible refine wpOF_both ?_ ?_) <;> (refine no_implicit_lambda% (pk_ ?_))) | ((with_reducible refine wpOF_three ?_ ?_ ?_) <;> (refine no_implicit_lambda% (pk_ ?_))) | ((with_reducible refine MS.and_ ?_ ?_); (focus (exact msA)); intro hM) | (refine no_implicit_lambda% (ofS ?_)) | ((refine no_implicit_lambda% (ofK ?_)); intro K hK) | (refine no_implicit_lambda% (ofL ?_)) | ((refine no_implicit_lambda% (ofM ?_)); intro K hK) | ((refine no_implicit_lambda% (ofX ?_)); intro K hK) | (refine no_implicit_lambda% (ofN ?_)) | ((with_reducible apply wpT_split); (focus rfl); (focus rfl); (focus rfl); all_goals (intro hxx; simp only [hxx]))
    | fail)
        all_goals
          go_roundw
          case rel => first | exact ⟨i + 1, c, _, _, _, _, _, _, by omega, by omega, by omega, by go_num, (hS.tailL.raise (by omega) (by omega))⟩ | exact ⟨i + 1, c, _, _, _, _, _, _, by omega, by omega, by omega, by go_num, (hS.tailL.tailV1.raise (by omega) (by omega))⟩
          case measure => simp [intOf]; omega
      · have d1 : decide ((i : Int) < 90) = false := by simp; omega
        replace hS := hS.raise (show 12000 + 100 * i ≤ 21000 by omega) (show 2400000 + 40000 * i ≤ 6000000 by omega)
        (try clear hc ht hv); (refine no_implicit_lambda% (fct ?_)); intro hc ht hv
        go_wp2_with (first
    | ((refine no_implicit_lambda% (hdE ?_)); intro K hK; (first
      | ((with_reducible refine at_dst 4 ?_ ?_); (focus rfl); (refine no_implicit_lambda% (alzW ?_)); (try clear hc ht hv); clear hS; intro b4 w hS hc ht hv)
      | ((with_reducible refine at_dst 5 ?_ ?_); (focus rfl); (refine no_implicit_lambda% (alzW ?_)); (try clear hc ht hv); clear hS; intro b5 w hS hc ht hv)
      | ((with_reducible refine at_dst 7 ?_ ?_); (focus rfl); (refine no_implicit_lambda% (alzW ?_)); (try clear hc ht hv); clear hS; intro b7 w hS hc ht hv)
      | ((refine no_implicit_lambda% (sazW ?_)); (try clear hc ht hv); clear hS; intro w hS hc ht hv)))
    | (go_at_call 67; refine (WorldNew_t hS.tw (by assumption)).mono ?_; rintro e w ⟨c, bad', Aw, dw, Bw, pw, qw, rfl, s1, s2, hpw, ⟨ls, ho, hP⟩, hx, hT', hb⟩; have hlt_ := hS.ownLt; replace hS := (hS.below hx hT' (by omega) (by omega) hb).addV s2 ho hP hS.base hlt_; clear hx hT' hb hlt_ ho hP ls; (try clear hc ht hv); (try dsimp only); (refine no_implicit_lambda% (fct ?_)); intro hc ht hv)
    | (go_at_call 68; refine (l6Do_t hS.tw slA slA (by omega) brA tyA (by omega)).mono ?_; rintro e w ⟨c, hres, hx, hT', hb⟩; have hlt_ := hS.ownLt; have hbs_ := hS.base; (try replace hobV := KB.call hx hb hobV); replace hS := hS.below hx hT' (by omega) (by omega) hb; clear hx hT' hb; (rcases hres with rfl | ⟨bad', Aw, dw, Bw, pw, qw, rfl, s1, s2, hpw, ls, ho, hP⟩) <;> ((try replace hS := hS.addV s2 ho hP hbs_ hlt_); (try clear ho hP ls); clear hlt_ hbs_; (try clear hc ht hv); (try dsimp only); (refine no_implicit_lambda% (fct ?_)); intro hc ht hv))
    | ((refine no_implicit_lambda% (rgspecWorldPlay5XO ?_)); (try clear hc ht hv); clear hS; intro hS hc ht hv)
    | ((with_reducible refine wpOF_both ?_ ?_) <;> (refine no_implicit_lambda% (pk_ ?_))) | ((with_reducible refine wpOF_three ?_ ?_ ?_) <;> (refine no_implicit_lambda% (pk_ ?_))) | ((with_reducible refine MS.and_ ?_ ?_); (focus (exact msA)); intro hM) | (refine no_implicit_lambda% (ofS ?_)) | ((refine no_implicit_lambda% (ofK ?_)); intro K hK) | (refine no_implicit_lambda% (ofL ?_)) | ((refine no_implicit_lambda% (ofM ?_)); intro K hK) | ((refine no_implicit_lambda% (ofX ?_)); intro K hK) | (refine no_implicit_lambda% (ofN ?_)) | ((with_reducible apply wpT_split); (focus rfl); (focus rfl); (focus rfl); all_goals (intro hxx; simp only [hxx]))
    | fail)
        all_goals (exact no_implicit_lambda% fW4_3)
    · have d0 : decide ((i : Int) < (m : Int)) = false := by simp; omega
      replace hS := hS.raise (show 12000 + 100 * i ≤ 21000 by omega) (show 2400000 + 40000 * i ≤ 6000000 by omega)
      (try clear hc ht hv); (refine no_implicit_lambda% (fct ?_)); intro hc ht hv
      go_wp2_with (first
    | ((refine no_implicit_lambda% (hdE ?_)); intro K hK; (first
      | ((with_reducible refine at_dst 4 ?_ ?_); (focus rfl); (refine no_implicit_lambda% (alzW ?_)); (try clear hc ht hv); clear hS; intro b4 w hS hc ht hv)
      | ((with_reducible refine at_dst 5 ?_ ?_); (focus rfl); (refine no_implicit_lambda% (alzW ?_)); (try clear hc ht hv); clear hS; intro b5 w hS hc ht hv)
      | ((with_reducible refine at_dst 7 ?_ ?_); (focus rfl); (refine no_implicit_lambda% (alzW ?_)); (try clear hc ht hv); clear hS; intro b7 w hS hc ht hv)
      | ((refine no_implicit_lambda% (sazW ?_)); (try clear hc ht hv); clear hS; intro w hS hc ht hv)))
    | (go_at_call 67; refine (WorldNew_t hS.tw (by assumption)).mono ?_; rintro e w ⟨c, bad', Aw, dw, Bw, pw, qw, rfl, s1, s2, hpw, ⟨ls, ho, hP⟩, hx, hT', hb⟩; have hlt_ := hS.ownLt; replace hS := (hS.below hx hT' (by omega) (by omega) hb).addV s2 ho hP hS.base hlt_; clear hx hT' hb hlt_ ho hP ls; (try clear hc ht hv); (try dsimp only); (refine no_implicit_lambda% (fct ?_)); intro hc ht hv)
    | (go_at_call 68; refine (l6Do_t hS.tw slA slA (by omega) brA tyA (by omega)).mono ?_; rintro e w ⟨c, hres, hx, hT', hb⟩; have hlt_ := hS.ownLt; have hbs_ := hS.base; (try replace hobV := KB.call hx hb hobV); replace hS := hS.below hx hT' (by omega) (by omega) hb; clear hx hT' hb; (rcases hres with rfl | ⟨bad', Aw, dw, Bw, pw, qw, rfl, s1, s2, hpw, ls, ho, hP⟩) <;> ((try replace hS := hS.addV s2 ho hP hbs_ hlt_); (try clear ho hP ls); clear hlt_ hbs_; (try clear hc ht hv); (try dsimp only); (refine no_implicit_lambda% (fct ?_)); intro hc ht hv))
    | ((refine no_implicit_lambda% (rgspecWorldPlay5XO ?_)); (try clear hc ht hv); clear hS; intro hS hc ht hv)
    | ((with_reducible refine wpOF_both ?_ ?_) <;> (refine no_implicit_lambda% (pk_ ?_))) | ((with_reducible refine wpOF_three ?_ ?_ ?_) <;> (refine no_implicit_lambda% (pk_ ?_))) | ((with_reducible refine MS.and_ ?_ ?_); (focus (exact msA)); intro hM) | (refine no_implicit_lambda% (ofS ?_)) | ((refine no_implicit_lambda% (ofK ?_)); intro K hK) | (refine no_implicit_lambda% (ofL ?_)) | ((refine no_implicit_lambda% (ofM ?_)); intro K hK) | ((refine no_implicit_lambda% (ofX ?_)); intro K hK) | (refine no_implicit_lambda% (ofN ?_)) | ((with_reducible apply wpT_split); (focus rfl); (focus rfl); (focus rfl); all_goals (intro hxx; simp only [hxx]))
    | fail)
      all_goals (exact no_implicit_lambda% fW4_3)
end
end Go.Proofs.Ytopmbnnjhoinkaa
