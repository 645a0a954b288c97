/-
  What 'FVd' rests on (texts of this seat put together: TRf TRg FCb FCc).
  Conditions: none.
-/
import Derived.Test.YtopmbnnjhoinkaaVV51
import Derived.Test.YtopmbnnjhoinkaaVV49
import Derived.Test.YtopmbnnjhoinkaaVV50
namespace Go.Proofs.Ytopmbnnjhoinkaa
open Go Go.RowKit Rg
set_option linter.unusedVariables false
set_option linter.unusedSimpArgs false
set_option maxHeartbeats 1000000
section
variable {T D P g : Nat} {c0 : Cx} {w0 : World} {bad : Int} {A : Option Addr} {d : Nat} {B : Option Addr} {p q : Nat} {C : Option Addr} {m f : Nat}
set_option maxRecDepth 100000 in
set_option maxHeartbeats 20000000 in
theorem l20Events_t (hR : Rd w0 g P) (hP : P ≤ 100000) {mo : Int} (hmo : 0 ≤ mo ∧ mo ≤ 120) :
    Calls Try.prog 64 #[.pointer (some ⟨g, 0, none⟩), .int .i64 bad, .int .i64 mo] w0 fun e w' => PSlR tE noP 120 12000 2400000 cE w0 g (P + 110000) e w' := by
  have hT := TW.empty 0 0 w0
  have hG : cE g = none := rfl
  obtain ⟨mn, rfl, hmn⟩ : ∃ mn : Nat, mo = (mn : Int) ∧ mn ≤ 120 := ⟨mo.toNat, by omega, by omega⟩
  clear hmo
  have hS : St ⟨cE, w0, some g⟩ P 0 0 cE [] [] w0 := St.startR hT hR hG
  go_enter Try.func64, Try.ntmps64
  go_wp2_with (first
    | ((refine no_implicit_lambda% (hdE ?_)); intro K hK; (first
      | ((with_reducible refine at_dst 7 ?_ ?_); (focus rfl); (refine no_implicit_lambda% (alzW ?_)); (try clear hc ht hv); clear hS; intro b7 w hS hc ht hv)
      | ((with_reducible refine at_dst 10 ?_ ?_); (focus rfl); (refine no_implicit_lambda% (alzE ?_)); (try clear hc ht hv); clear hS; intro b10 w hS hc ht hv)
      | ((with_reducible refine at_dst 11 ?_ ?_); (focus rfl); (refine no_implicit_lambda% (alzW ?_)); (try clear hc ht hv); clear hS; intro b11 w hS hc ht hv)
      | ((with_reducible refine at_dst 15 ?_ ?_); (focus rfl); ((refine no_implicit_lambda% (r0zEnoP ?_)); (try clear hc ht hv); clear hS; intro c b w hS hx; (try replace hus := hus.mono hx.le); (try clear hx); intro hc ht hv))
      | ((with_reducible refine at_dst 40 ?_ ?_); (focus rfl); ((refine no_implicit_lambda% (r1zEnoP ?_)); (try clear hc ht hv); clear hS; intro c b w hS hx; (try replace hus := hus.mono hx.le); (try clear hx); intro hc ht hv))
      | ((with_reducible refine at_dst 41 ?_ ?_); (focus rfl); ((refine no_implicit_lambda% (apzE ?_)); (try clear hc ht hv); clear hS; intro c A41 d41 w hS hx; (try replace hus := hus.mono hx.le); (try clear hx); intro hc ht hv))
      | ((refine no_implicit_lambda% (sazW ?_)); (try clear hc ht hv); clear hS; intro w hS hc ht hv)
      | ((refine no_implicit_lambda% (sazE ?_)); (try clear hc ht hv); clear hS; intro w hS hc ht hv)))
    | (go_at_call 79; refine (l6New_t hS.tw (T := _) (D := _) _).mono ?_; rintro e w ⟨c, bad', Aw, dw, Bw, pw, qw, rfl, s1, s2, hpw, ⟨ls, ho, hP⟩, hx, hT', hb⟩; have hlt_ := hS.ownLt; replace hS := (hS.below hx hT' (by omega) (by omega) hb).addV s2 ho hP hS.base hlt_; clear hx hT' hb hlt_ ho hP ls; (try clear hc ht hv); (try dsimp only); (refine no_implicit_lambda% (fct ?_)); intro hc ht hv)
    | (go_at_call 80; refine (l20Event_t hS.tw (hS.rd _ rfl).1 (hS.rdc rfl) (by omega) slA (by omega) slA).mono ?_; rintro e w ⟨c, us, rfl, hus, hx, hT', hr', ho⟩; replace hS := hS.belowR rfl hx hT' (Nat.le_refl _) (Nat.le_refl _) ho hr'; clear hx hT' hr' ho; (try clear hc ht hv); (obtain ⟨_, _, _, _, _, _, _, _, _, _, _, _, _, _, rfl, _, _, _, _, _⟩ := hus.event); (try dsimp only); (refine no_implicit_lambda% (fct ?_)); intro hc ht hv)
    | (go_at_call 68; refine (l6Do_t hS.tw slA slA (by omega) brA tyA (by omega)).mono ?_; rintro e w ⟨c, hres, hx, hT', hb⟩; have hlt_ := hS.ownLt; have hbs_ := hS.base; (try replace hobV := KB.call hx hb hobV); replace hS := hS.below hx hT' (by omega) (by omega) hb; clear hx hT' hb; (rcases hres with rfl | ⟨bad', Aw, dw, Bw, pw, qw, rfl, s1, s2, hpw, ls, ho, hP⟩) <;> ((try replace hS := hS.addV s2 ho hP hbs_ hlt_); (try clear ho hP ls); clear hlt_ hbs_; (try clear hc ht hv); (try dsimp only); (refine no_implicit_lambda% (fct ?_)); intro hc ht hv))
    | (go_at_call 25; refine (pick_c _ _ _ _ (hS.rd _ rfl).1 (by omega) (by omega)).mono ?_; rintro e w ⟨kq, rfl, hkq, hr', ho⟩; replace hkq := hkq.1 (by omega); (try replace hobV := KB.callR (Ext.refl _ _) ho (hS.rdc rfl) hobV); replace hS := hS.pastR rfl ho hr'; clear hr' ho; (try clear hc ht hv); (try dsimp only); (refine no_implicit_lambda% (fct ?_)); intro hc ht hv)
    | fail)
  replace hS := hS.swapV
  go_loopw [8, 9] (fun sv iv wr => ∃ (i m : Nat) (c : Cx) (bad : Int) (A : Option Addr) (d : Nat) (B : Option Addr) (p q : Nat) (Ae : Option Addr) (de : Nat), i ≤ mn ∧ m ≤ i ∧ p ≤ 100 ∧ iv = .int .i64 (i : Int) ∧ sv = .slice Ae m de ∧ St ⟨cE, w0, some g⟩ (P + 910 * i) (100 * i) (20000 * i) c [(b7, tW, [.int .i64 bad, .slice A 4 d, .slice B p q])] [(tM, bareP, .slice B p q), (tE, noP, .slice Ae m de)] wr) (fun _ iv _ => mn - (intOf iv).toNat)
  case atStart => exact ⟨0, 0, c, _, _, _, _, _, _, _, _, by omega, by omega, by omega, rfl, rfl, hS⟩
  case round =>
    (try clear hc ht hv); clear hS
    obtain ⟨i, m, c, bad, A, d, B, p, q, Ae, de, hi, hm, hp, rfl, rfl, hS⟩ := hrel
    by_cases hlt : i < mn
    · have d0 : decide ((i : Int) < (mn : Int)) = true := by simp; omega
      (try clear hc ht hv); (refine no_implicit_lambda% (fct ?_)); intro hc ht hv
      go_wp2_with (first
    | ((refine no_implicit_lambda% (hdE ?_)); intro K hK; (first
      | ((with_reducible refine at_dst 7 ?_ ?_); (focus rfl); (refine no_implicit_lambda% (alzW ?_)); (try clear hc ht hv); clear hS; intro b7 w hS hc ht hv)
      | ((with_reducible refine at_dst 10 ?_ ?_); (focus rfl); (refine no_implicit_lambda% (alzE ?_)); (try clear hc ht hv); clear hS; intro b10 w hS hc ht hv)
      | ((with_reducible refine at_dst 11 ?_ ?_); (focus rfl); (refine no_implicit_lambda% (alzW ?_)); (try clear hc ht hv); clear hS; intro b11 w hS hc ht hv)
      | ((with_reducible refine at_dst 15 ?_ ?_); (focus rfl); ((refine no_implicit_lambda% (r0zEnoP ?_)); (try clear hc ht hv); clear hS; intro c b w hS hx; (try replace hus := hus.mono hx.le); (try clear hx); intro hc ht hv))
      | ((with_reducible refine at_dst 40 ?_ ?_); (focus rfl); ((refine no_implicit_lambda% (r1zEnoP ?_)); (try clear hc ht hv); clear hS; intro c b w hS hx; (try replace hus := hus.mono hx.le); (try clear hx); intro hc ht hv))
      | ((with_reducible refine at_dst 41 ?_ ?_); (focus rfl); ((refine no_implicit_lambda% (apzE ?_)); (try clear hc ht hv); clear hS; intro c A41 d41 w hS hx; (try replace hus := hus.mono hx.le); (try clear hx); intro hc ht hv))
      | ((refine no_implicit_lambda% (sazW ?_)); (try clear hc ht hv); clear hS; intro w hS hc ht hv)
      | ((refine no_implicit_lambda% (sazE ?_)); (try clear hc ht hv); clear hS; intro w hS hc ht hv)))
    | (go_at_call 79; refine (l6New_t hS.tw (T := _) (D := _) _).mono ?_; rintro e w ⟨c, bad', Aw, dw, Bw, pw, qw, rfl, s1, s2, hpw, ⟨ls, ho, hP⟩, hx, hT', hb⟩; have hlt_ := hS.ownLt; replace hS := (hS.below hx hT' (by omega) (by omega) hb).addV s2 ho hP hS.base hlt_; clear hx hT' hb hlt_ ho hP ls; (try clear hc ht hv); (try dsimp only); (refine no_implicit_lambda% (fct ?_)); intro hc ht hv)
    | (go_at_call 80; refine (l20Event_t hS.tw (hS.rd _ rfl).1 (hS.rdc rfl) (by omega) slA (by omega) slA).mono ?_; rintro e w ⟨c, us, rfl, hus, hx, hT', hr', ho⟩; replace hS := hS.belowR rfl hx hT' (Nat.le_refl _) (Nat.le_refl _) ho hr'; clear hx hT' hr' ho; (try clear hc ht hv); (obtain ⟨_, _, _, _, _, _, _, _, _, _, _, _, _, _, rfl, _, _, _, _, _⟩ := hus.event); (try dsimp only); (refine no_implicit_lambda% (fct ?_)); intro hc ht hv)
    | (go_at_call 68; refine (l6Do_t hS.tw slA slA (by omega) brA tyA (by omega)).mono ?_; rintro e w ⟨c, hres, hx, hT', hb⟩; have hlt_ := hS.ownLt; have hbs_ := hS.base; (try replace hobV := KB.call hx hb hobV); replace hS := hS.below hx hT' (by omega) (by omega) hb; clear hx hT' hb; (rcases hres with rfl | ⟨bad', Aw, dw, Bw, pw, qw, rfl, s1, s2, hpw, ls, ho, hP⟩) <;> ((try replace hS := hS.addV s2 ho hP hbs_ hlt_); (try clear ho hP ls); clear hlt_ hbs_; (try clear hc ht hv); (try dsimp only); (refine no_implicit_lambda% (fct ?_)); intro hc ht hv))
    | (go_at_call 25; refine (pick_c _ _ _ _ (hS.rd _ rfl).1 (by omega) (by omega)).mono ?_; rintro e w ⟨kq, rfl, hkq, hr', ho⟩; replace hkq := hkq.1 (by omega); (try replace hobV := KB.callR (Ext.refl _ _) ho (hS.rdc rfl) hobV); replace hS := hS.pastR rfl ho hr'; clear hr' ho; (try clear hc ht hv); (try dsimp only); (refine no_implicit_lambda% (fct ?_)); intro hc ht hv)
    | fail)
      all_goals
        go_roundw
        case rel => first | exact ⟨i + 1, m, c, _, _, _, _, _, _, _, _, by omega, by omega, by omega, by go_num, rfl, (hS.tailL.tailL.raise (by omega) (by omega)).upP (by omega)⟩ | exact ⟨i + 1, m + 1, c, _, _, _, _, _, _, _, _, by omega, by omega, by omega, by go_num, rfl, (hS.tailL.tailL.tailV.raise (by omega) (by omega)).upP (by omega)⟩ | exact ⟨i + 1, m + 1, c, _, _, _, _, _, _, _, _, by omega, by omega, by omega, by go_num, rfl, (hS.tailL.tailL.tailV.tailV1.raise (by omega) (by omega)).upP (by omega)⟩
        case measure => simp [intOf]; omega
    · have d0 : decide ((i : Int) < (mn : Int)) = false := by simp; omega
      replace hS := (hS.raise (show 100 * i ≤ 12000 by omega) (show 20000 * i ≤ 2400000 by omega)).upP (show P + 910 * i ≤ P + 110000 by omega)
      (try clear hc ht hv); (refine no_implicit_lambda% (fct ?_)); intro hc ht hv
      go_wp2_with (first
    | ((refine no_implicit_lambda% (hdE ?_)); intro K hK; (first
      | ((with_reducible refine at_dst 7 ?_ ?_); (focus rfl); (refine no_implicit_lambda% (alzW ?_)); (try clear hc ht hv); clear hS; intro b7 w hS hc ht hv)
      | ((with_reducible refine at_dst 10 ?_ ?_); (focus rfl); (refine no_implicit_lambda% (alzE ?_)); (try clear hc ht hv); clear hS; intro b10 w hS hc ht hv)
      | ((with_reducible refine at_dst 11 ?_ ?_); (focus rfl); (refine no_implicit_lambda% (alzW ?_)); (try clear hc ht hv); clear hS; intro b11 w hS hc ht hv)
      | ((with_reducible refine at_dst 15 ?_ ?_); (focus rfl); ((refine no_implicit_lambda% (r0zEnoP ?_)); (try clear hc ht hv); clear hS; intro c b w hS hx; (try replace hus := hus.mono hx.le); (try clear hx); intro hc ht hv))
      | ((with_reducible refine at_dst 40 ?_ ?_); (focus rfl); ((refine no_implicit_lambda% (r1zEnoP ?_)); (try clear hc ht hv); clear hS; intro c b w hS hx; (try replace hus := hus.mono hx.le); (try clear hx); intro hc ht hv))
      | ((with_reducible refine at_dst 41 ?_ ?_); (focus rfl); ((refine no_implicit_lambda% (apzE ?_)); (try clear hc ht hv); clear hS; intro c A41 d41 w hS hx; (try replace hus := hus.mono hx.le); (try clear hx); intro hc ht hv))
      | ((refine no_implicit_lambda% (sazW ?_)); (try clear hc ht hv); clear hS; intro w hS hc ht hv)
      | ((refine no_implicit_lambda% (sazE ?_)); (try clear hc ht hv); clear hS; intro w hS hc ht hv)))
    | (go_at_call 79; refine (l6New_t hS.tw (T := _) (D := _) _).mono ?_; rintro e w ⟨c, bad', Aw, dw, Bw, pw, qw, rfl, s1, s2, hpw, ⟨ls, ho, hP⟩, hx, hT', hb⟩; have hlt_ := hS.ownLt; replace hS := (hS.below hx hT' (by omega) (by omega) hb).addV s2 ho hP hS.base hlt_; clear hx hT' hb hlt_ ho hP ls; (try clear hc ht hv); (try dsimp only); (refine no_implicit_lambda% (fct ?_)); intro hc ht hv)
    | (go_at_call 80; refine (l20Event_t hS.tw (hS.rd _ rfl).1 (hS.rdc rfl) (by omega) slA (by omega) slA).mono ?_; rintro e w ⟨c, us, rfl, hus, hx, hT', hr', ho⟩; replace hS := hS.belowR rfl hx hT' (Nat.le_refl _) (Nat.le_refl _) ho hr'; clear hx hT' hr' ho; (try clear hc ht hv); (obtain ⟨_, _, _, _, _, _, _, _, _, _, _, _, _, _, rfl, _, _, _, _, _⟩ := hus.event); (try dsimp only); (refine no_implicit_lambda% (fct ?_)); intro hc ht hv)
    | (go_at_call 68; refine (l6Do_t hS.tw slA slA (by omega) brA tyA (by omega)).mono ?_; rintro e w ⟨c, hres, hx, hT', hb⟩; have hlt_ := hS.ownLt; have hbs_ := hS.base; (try replace hobV := KB.call hx hb hobV); replace hS := hS.below hx hT' (by omega) (by omega) hb; clear hx hT' hb; (rcases hres with rfl | ⟨bad', Aw, dw, Bw, pw, qw, rfl, s1, s2, hpw, ls, ho, hP⟩) <;> ((try replace hS := hS.addV s2 ho hP hbs_ hlt_); (try clear ho hP ls); clear hlt_ hbs_; (try clear hc ht hv); (try dsimp only); (refine no_implicit_lambda% (fct ?_)); intro hc ht hv))
    | (go_at_call 25; refine (pick_c _ _ _ _ (hS.rd _ rfl).1 (by omega) (by omega)).mono ?_; rintro e w ⟨kq, rfl, hkq, hr', ho⟩; replace hkq := hkq.1 (by omega); (try replace hobV := KB.callR (Ext.refl _ _) ho (hS.rdc rfl) hobV); replace hS := hS.pastR rfl ho hr'; clear hr' ho; (try clear hc ht hv); (try dsimp only); (refine no_implicit_lambda% (fct ?_)); intro hc ht hv)
    | fail)
      all_goals ((try simp only [Exit.inBlock, Exit.then]); first | exact bodyPost_ret (by simp [results, Try.results64, go_sem, hc] <;> rfl) rfl (hS.pslR 0 rfl (by omega) (by omega)) | exact bodyPost_ret (by simp [results, Try.results64, go_sem, hc] <;> rfl) rfl (hS.pslR 1 rfl (by omega) (by omega)) | exact bodyPost_ret (by simp [results, Try.results64, go_sem, hc] <;> rfl) rfl (hS.pslR 2 rfl (by omega) (by omega)))
end
section
variable {T D P g : Nat} {c0 : Cx} {w0 : World} {bad : Int} {A : Option Addr} {d : Nat} {B : Option Addr} {p q : Nat} {C : Option Addr} {m f : Nat}
def PPl (w0 : World) (g P : Nat) (x : Ending) (w' : World) : Prop := ∃ (c' : Cx) (bad : Int) (A : Option Addr) (n d : Nat), x = .returned (.tuple #[.int .i64 bad, .slice A n d]) ∧ inB bad 0 3 = true ∧ n ≤ 120 ∧ SlV c' tE (.slice A n d) ∧ Ext w0.heap.size cE c' ∧ TW 12000 2400000 c' w' ∧ Rd w' g P ∧ Only w0.heap.size (some g) w0 w'
theorem St.ppl {P P' g : Nat} {c : Cx} {w0 w : World} {L : List LE} {V : List VE} {bad : Int} {A : Option Addr} {n d : Nat} (h : St ⟨cE, w0, some g⟩ P 12000 2400000 c L V w) (h1 : inB bad 0 3 = true) (h2 : n ≤ 120) (h3 : SlV c tE (.slice A n d)) (hP : P ≤ P') : PPl w0 g P' (.returned (.tuple #[.int .i64 bad, .slice A n d])) w :=
  ⟨c, bad, A, n, d, rfl, h1, h2, h3, h.finR hP⟩
set_option maxRecDepth 100000 in
set_option maxHeartbeats 20000000 in
theorem l20Play_t (hR : Rd w0 g P) (hP : P ≤ 90000) :
    Calls Try.prog 38 #[.pointer (some ⟨g, 0, none⟩)] w0 fun e w' => PPl w0 g (P + 110010) e w' := by
  have hT := TW.empty 0 0 w0
  have hG : cE g = none := rfl
  have hS : St ⟨cE, w0, some g⟩ P 0 0 cE [] [] w0 := St.startR hT hR hG
  go_enter Try.func38, Try.ntmps38
  go_wp2_with (first
    | (go_at_call 25; refine (pick_c _ _ _ _ (hS.rd _ rfl).1 (by omega) (by omega)).mono ?_; rintro e w ⟨kq, rfl, hkq, hr', ho⟩; replace hkq := hkq.1 (by omega); (try replace hobV := KB.callR (Ext.refl _ _) ho (hS.rdc rfl) hobV); replace hS := hS.pastR rfl ho hr'; clear hr' ho; (try clear hc ht hv); (try dsimp only); (refine no_implicit_lambda% (fct ?_)); intro hc ht hv)
    | (first | (go_at_call 53; (with_reducible show Calls _ _ _ (World.alloc _ (.cells #[.int .i64 0, .int .i64 20, .int .i64 60, .int .i64 120] 3)) _); (have hs4 := sl_arr encI_len w #[.int .i64 0, .int .i64 20, .int .i64 60, .int .i64 120] 3 [0, 20, 60, 120] rfl); refine (one_c _ _ _ _ _ 4 4 [0, 20, 60, 120] _ ((hS.alloc (.cells #[.int .i64 0, .int .i64 20, .int .i64 60, .int .i64 120] 3)).rd _ rfl).1 (by omega) rfl (by omega) (by omega) hs4 ((hS.rd _ rfl).1.lt) (by simp)).mono ?_; rintro e w ⟨xq, hxq, rfl, hr', ho⟩; replace hS := (hS.alloc (.cells #[.int .i64 0, .int .i64 20, .int .i64 60, .int .i64 120] 3)).pastR rfl ho hr'; (simp only [List.mem_cons, List.not_mem_nil, or_false] at hxq); clear hr' ho hs4; (try clear hc ht hv); (try dsimp only); (refine no_implicit_lambda% (fct ?_)); intro hc ht hv))
    | (go_at_call 64; refine (l20Events_t (hS.rd _ rfl).1 (by omega) (by omega)).mono ?_; rintro e w ⟨c, Ae, ne, de, rfl, hne, hs_, ⟨ls_, ho_, hp_⟩, hx, hT', hr', ho⟩; have hlt_ := hS.ownLt; replace hS := (hS.belowR rfl hx hT' (by omega) (by omega) ho hr').addV hs_ ho_ hp_ hS.base hlt_; clear hx hT' hr' ho hlt_ ho_ hp_ hs_ ls_; (try clear hc ht hv); (try dsimp only); (refine no_implicit_lambda% (fct ?_)); intro hc ht hv)
    | fail)
  all_goals ((try simp only [Exit.inBlock, Exit.then]); exact bodyPost_ret (v := .tuple #[.int .i64 (kq : Int), .slice Ae ne de]) (by simp [results, Try.results38, go_sem] <;> rfl) rfl (hS.ppl (by simp [inB]; omega) (by omega) slA (by omega)))
set_option maxRecDepth 100000 in
set_option maxHeartbeats 20000000 in
theorem l20World_t (hR : Rd w0 g P) (hP : P ≤ 80000) :
    Calls Try.prog 16 #[.pointer (some ⟨g, 0, none⟩)] w0 fun e w' => PWdR 21000 6000000 cE w0 g (P + 110010) e w' := by
  have hT := TW.empty 0 0 w0
  have hG : cE g = none := rfl
  have hS : St ⟨cE, w0, some g⟩ P 0 0 cE [] [] w0 := St.startR hT hR hG
  go_enter Try.func16, Try.ntmps16
  go_wp2_with (first
    | ((refine no_implicit_lambda% (hdE ?_)); intro K hK; (first
      | ((with_reducible refine at_dst 2 ?_ ?_); (focus rfl); (refine no_implicit_lambda% (alzW ?_)); (try clear hc ht hv); clear hS; intro b2 w hS hc ht hv)
      | ((refine no_implicit_lambda% (sazW ?_)); (try clear hc ht hv); clear hS; intro w hS hc ht hv)))
    | (go_at_call 38; refine (l20Play_t (hS.rd _ rfl).1 (by omega)).mono ?_; rintro e w ⟨c, bad, Ae, ne, de, rfl, hib, hne, hs_, hx, hT', hr', ho⟩; replace hS := hS.belowR rfl hx hT' (by omega) (by omega) ho hr'; clear hx hT' hr' ho; (try clear hc ht hv); (try dsimp only); (refine no_implicit_lambda% (fct ?_)); intro hc ht hv)
    | (go_at_call 40; refine (WorldPlay_t hS.tw (by with_reducible assumption) (by with_reducible assumption)).mono ?_; rintro e w ⟨c, bad', Aw, dw, Bw, pw, qw, rfl, s1, s2, hpw, ⟨ls, ho, hP⟩, hx, hT', hb⟩; have hlt_ := hS.ownLt; replace hS := (hS.below hx hT' (by omega) (by omega) hb).addV s2 ho hP hS.base hlt_; clear hx hT' hb hlt_ ho hP ls; (try clear hc ht hv); (try dsimp only); (refine no_implicit_lambda% (fct ?_)); intro hc ht hv)
    | (go_at_call 39; refine (l6Copy_t hS.tw slA slA (by omega) brA (by omega)).mono ?_; rintro e w ⟨c, bad', Aw, dw, Bw, pw, qw, rfl, s1, s2, hpw, ⟨ls, ho, hP⟩, hx, hT', hb⟩; have hlt_ := hS.ownLt; replace hS := (hS.below hx hT' (by omega) (by omega) hb).addV s2 ho hP hS.base hlt_; clear hx hT' hb hlt_ ho hP ls; (try clear hc ht hv); (try dsimp only); (refine no_implicit_lambda% (fct ?_)); intro hc ht hv)
    | fail)
  all_goals ((try simp only [Exit.inBlock, Exit.then]); first | exact bodyPost_ret (results_c (e := 48) rfl hS 0 rfl inW (aggW _) rfl) rfl (hS.pwdR 0 rfl (by (exact slA)) (by omega) (by omega)) | exact bodyPost_ret (results_c (e := 48) rfl hS 0 rfl inW (aggW _) rfl) rfl (hS.pwdR 1 rfl (by (exact slA)) (by omega) (by omega)) | exact bodyPost_ret (results_c (e := 48) rfl hS 1 rfl inW (aggW _) rfl) rfl (hS.pwdR 0 rfl (by (exact slA)) (by omega) (by omega)) | exact bodyPost_ret (results_c (e := 48) rfl hS 1 rfl inW (aggW _) rfl) rfl (hS.pwdR 1 rfl (by (exact slA)) (by omega) (by omega)))
end
theorem results_tc {Pg : Program} {w : World} {fn : Func} {tmps : Array Value} {t u : Tmp} {e : TypeId} {z : Value} {bytes b : Nat} {vs : List Value} {v : Value} (h : fn.results = #[.tmp u, .cell t e]) (b1 : w.heap[b]? = some (.cells vs.toArray e (0, 0))) (hlen : vs.length = isz e) (hi : InfoOf Pg e z bytes) (ha : (isAgg e).run Pg w = .ok true w) (ht : tmps.getD t undef = .pointer (some ⟨b, 0, none⟩)) (hu : tmps.getD u undef = v) :
    (results fn tmps).run Pg w = .ok (.tuple #[v, .agg vs.toArray]) w := by
  have hl := loadVar_old b1 hlen hi ha
  have ht' : (tmps[t]?).getD undef = .pointer (some ⟨b, 0, none⟩) := by simpa using ht
  have hu' : (tmps[u]?).getD undef = v := by simpa using hu
  simp [results, h, ht', hu', asAddr, hl, Result.andThen]
theorem field_said (w : World) (bad : Int) (A B : Option Addr) (n d p q : Nat) : (Instr.field 48 (.agg #[.int .i64 bad, .slice A n d, .slice B p q]) 2).run Try.prog w = .ok (.slice B p q) w := by
  simp [Instr.field, go_sem, asAgg]
def PDm (w0 : World) (x : Ending) (w' : World) : Prop := ∃ (c' : Cx) (B : Option Addr) (p q : Nat) (us : List Value), x = .returned (.tuple #[.slice B p q, .agg us.toArray]) ∧ TyE 21000 6000000 c' tM us ∧ Ext w0.heap.size cE c' ∧ TW 21000 6000000 c' w' ∧ Below w0.heap.size w0 w'
set_option maxRecDepth 100000 in
set_option maxHeartbeats 20000000 in
theorem DrawSaidHas_t (A : Option Addr) (n c : Nat) (bs : List Int) (v : World) (hn : n = bs.length) (hc : n ≤ c) (hcm : c ≤ maxLen) (hs : Sl encU 1 v 0 v.heap.size A bs) (hb : ∀ b ∈ bs, 0 ≤ b ∧ b < 256) :
    Calls Try.prog 10 #[.slice A n c] v fun e w' => PDm v e w' := by
  have hn' := hide hn
  have hb' := hide hb
  clear hn hb
  have hB0 : Below v.heap.size v (v.alloc (.cells #[.int .i64 0, .int .i64 0, .int .i64 0, .int .i64 0, .int .i64 0, .int .i64 0, .int .i64 0, .int .i64 0, .int .i64 0, .slice none 0 0, .slice none 0 0] 34)) := (Below.refl _ _).alloc (Nat.le_refl _) _
  have hz0 : (v.alloc (.cells #[.int .i64 0, .int .i64 0, .int .i64 0, .int .i64 0, .int .i64 0, .int .i64 0, .int .i64 0, .int .i64 0, .int .i64 0, .slice none 0 0, .slice none 0 0] 34)).heap.size = v.heap.size + 1 := by simp
  have hbx : (v.alloc (.cells #[.int .i64 0, .int .i64 0, .int .i64 0, .int .i64 0, .int .i64 0, .int .i64 0, .int .i64 0, .int .i64 0, .int .i64 0, .slice none 0 0, .slice none 0 0] 34)).heap[v.heap.size]? = some (.cells (List.toArray [.int .i64 0, .int .i64 0, .int .i64 0, .int .i64 0, .int .i64 0, .int .i64 0, .int .i64 0, .int .i64 0, .int .i64 0, .slice none 0 0, .slice none 0 0]) 34 (0, 0)) := heap_alloc_new v _
  have hs' : Sl encU 1 (v.alloc (.cells #[.int .i64 0, .int .i64 0, .int .i64 0, .int .i64 0, .int .i64 0, .int .i64 0, .int .i64 0, .int .i64 0, .int .i64 0, .slice none 0 0, .slice none 0 0] 34)) 0 (v.alloc (.cells #[.int .i64 0, .int .i64 0, .int .i64 0, .int .i64 0, .int .i64 0, .int .i64 0, .int .i64 0, .int .i64 0, .int .i64 0, .slice none 0 0, .slice none 0 0] 34)).heap.size A bs := (hs.below hB0 (Nat.le_refl _)).mono (Nat.le_refl _) hB0.size
  go_enter Try.func10, Try.ntmps10
  go_wp2_with fail
  obtain ⟨w1, hw1⟩ : ∃ w1, w1 = v.alloc (.cells #[.int .i64 0, .int .i64 0, .int .i64 0, .int .i64 0, .int .i64 0, .int .i64 0, .int .i64 0, .int .i64 0, .int .i64 0, .slice none 0 0, .slice none 0 0] 34) := ⟨_, rfl⟩
  rw [← hw1] at hB0 hz0 hbx hs'
  rw [← hw1]
  clear hw1
  refine (l20Open_c A n c bs w1 hn'.out hc hcm hs' hb'.out).mono ?_
  rintro e w2 ⟨rfl, hr2, hb2⟩
  rw [hz0] at hr2
  obtain ⟨P0, hP0, hr2⟩ : ∃ P0 : Nat, P0 ≤ 10 ∧ Rd w2 (v.heap.size + 1) P0 := ⟨0, by omega, hr2⟩
  go_wp2_with fail
  refine (l20World_t hr2 (by omega)).mono ?_
  rintro e w3 ⟨c', bad', Aw, dw, B, p, q, rfl, s1, h2, hp, ⟨ls, ho_, hP_⟩, hx, hT', hr3, ho3⟩
  clear ho_ hP_ ls
  have hfs := field_said w3 bad' Aw B 4 dw p q
  have hgl : v.heap.size + 1 < w2.heap.size := hr2.lt
  have hbx3 : w3.heap[v.heap.size]? = some (.cells (List.toArray [.int .i64 0, .int .i64 0, .int .i64 0, .int .i64 0, .int .i64 0, .int .i64 0, .int .i64 0, .int .i64 0, .int .i64 0, .slice none 0 0, .slice none 0 0]) 34 (0, 0)) := (ho3.block v.heap.size (by omega) (fun e => by injection e with e; omega)).trans ((hb2.block v.heap.size (by omega)).trans hbx)
  have hx2 : Ext v.heap.size cE c' := ⟨hx.le, fun b hb => hx.old b (by omega)⟩
  have hcn : c' v.heap.size = none := by rw [hx.old v.heap.size (by omega)]
  have hG : c' (v.heap.size + 1) = none := by rw [hx.old (v.heap.size + 1) hgl]
  have hB3 : Below v.heap.size v w3 := hB0.trans ((hb2.mono (by omega)).trans (ho3.toBelow (by omega) (fun k hk => by injection hk with hk; omega)))
  have hl3 : v.heap.size < w3.heap.size := Nat.lt_of_lt_of_le (by omega) ho3.size
  obtain ⟨P3, hP3, hr3⟩ : ∃ P3 : Nat, P3 ≤ 120000 ∧ Rd w3 (v.heap.size + 1) P3 := ⟨P0 + 110010, by omega, hr3⟩
  clear hbx hb2 hr2 ho3 hs' hB0 hz0 hn' hb' hc hcm hs hP0 s1
  have hgb : (some (v.heap.size + 1) : Option Nat) ≠ some v.heap.size := (by intro h; injection h with h; omega)
  have hS : St ⟨c', w3, some (v.heap.size + 1)⟩ P3 21000 6000000 c' [] [] w3 := St.startR hT' hr3 hG
  by_cases hp0 : 0 < p
  · have d0 : decide ((0 : Int) < (p : Int)) = true := by simp; omega
    obtain ⟨gs, os, rfl⟩ := h2.addr hp0
    have hoG : (Bs.mk c' w3 (some (v.heap.size + 1))).G ≠ some gs := hoG_of hG h2
    obtain ⟨ob, hob⟩ := hT'.rowOb h2
    go_wp2_with (first
        | ((refine no_implicit_lambda% (hdE ?_)); intro K hK; (with_reducible refine at_store rfl ?_); refine wp_storeOld ((hS.on.block _ hl3 hgb).trans hbx3) rfl rfl rfl rfl (by rfl) (fun u hu => by simp at hu; rcases hu with rfl | rfl | rfl | rfl | rfl | rfl | rfl | rfl | rfl | rfl | rfl <;> rfl) inM ?_; intro w4 hw4 ho4)
        | (fail)
        | (fail)
        | (go_at_call 25; refine (pick_c _ _ _ _ (hS.rd _ rfl).1 (by omega) (by omega)).mono ?_; rintro e w ⟨kq, rfl, hkq, hr', ho⟩; replace hkq := hkq.1 (by omega); (try replace hobV := KB.callR (Ext.refl _ _) ho (hS.rdc rfl) hobV); replace hS := hS.pastR rfl ho hr'; clear hr' ho; (try clear hc ht hv); (try clear e0 e1 e2 e3 e4 e5 e6 e7 e8 e9 e10 e12 e14); (try dsimp only); (refine no_implicit_lambda% (fct ?_)); intro hc ht hv; (refine no_implicit_lambda% (fxa750d ?_)); intro e0 e1 e2 e3 e4 e5 e6 e7 e8 e9 e10 e12 e14; (try ((have hkp : kq < p := (by omega)); obtain ⟨kd, fr, mv, sq, mr, Ac, nc, dc, Av, nv, dv, a0, a1, a2, a3, a4, a5, a6, a7, a8, a9, a10, u1, u2, u3, u4, u5⟩ := hT'.msgAt h2 hkp; (clear hkp); (try clear hc ht hv); (refine no_implicit_lambda% (fct ?_)); intro hc ht hv; (refine no_implicit_lambda% (fxa750d ?_)); intro e0 e1 e2 e3 e4 e5 e6 e7 e8 e9 e10 e12 e14)))
        | (go_at_call 26; refine (l20AnyMsg_t hS.tw (hS.rd _ rfl).1 (hS.rdc rfl) (by omega)).mono ?_; rintro e w ⟨c, us, rfl, hus, hx, hT', hr', ho⟩; replace hS := hS.belowR rfl hx hT' (Nat.le_refl _) (Nat.le_refl _) ho hr'; clear hx hT' hr' ho; (try clear hc ht hv); (try clear e0 e1 e2 e3 e4 e5 e6 e7 e8 e9 e10 e12 e14); (obtain ⟨_, _, _, _, _, _, _, _, _, _, _, rfl, _, _, _, _, _⟩ := hus.msg); (try dsimp only); (refine no_implicit_lambda% (fct ?_)); intro hc ht hv; (refine no_implicit_lambda% (fxa750d ?_)); intro e0 e1 e2 e3 e4 e5 e6 e7 e8 e9 e10 e12 e14)
        | ((refine no_implicit_lambda% (rgspecDrawSaidHas4XO ?_)); (try clear hc ht hv); (try clear e0 e1 e2 e3 e4 e5 e6 e7 e8 e9 e10 e12 e14); clear hS; intro hS hc ht hv; (refine no_implicit_lambda% (fxa750d ?_)); intro e0 e1 e2 e3 e4 e5 e6 e7 e8 e9 e10 e12 e14)
        | ((with_reducible refine wpOF_both ?_ ?_) <;> (refine no_implicit_lambda% (pk_ ?_))) | ((with_reducible refine wpOF_three ?_ ?_ ?_) <;> (refine no_implicit_lambda% (pk_ ?_))) | ((with_reducible refine MS.and_ ?_ ?_); (focus (exact msA)); intro hM) | (refine no_implicit_lambda% (ofS ?_)) | ((refine no_implicit_lambda% (ofK ?_)); intro K hK) | (refine no_implicit_lambda% (ofL ?_)) | ((refine no_implicit_lambda% (ofM ?_)); intro K hK) | ((refine no_implicit_lambda% (ofX ?_)); intro K hK) | (refine no_implicit_lambda% (ofN ?_)) | ((with_reducible apply wpT_split); (focus rfl); (focus rfl); (focus rfl); all_goals (intro hxx; simp only [hxx]))
        | fail)
    all_goals
      (have hon : Only w3.heap.size (some (v.heap.size + 1)) w3 _ := hS.on); refine bodyPost_ret (results_tc rfl hw4 (by rfl) inM (aggM _) rfl rfl) rfl ⟨_, _, _, _, _, rfl, (by exact tyA), hx2.trans hS.ext (show v.heap.size ≤ w3.heap.size by omega), hS.tw.only ho4 (fun k hk => by injection hk with hk; subst hk; exact (hS.ext.old _ hl3).trans hcn), hB3.trans ((hon.toBelow (by omega) (fun k hk => by injection hk with hk; omega)).trans (ho4.toBelow (by have := hB3.size; have := hon.size; omega) (fun k hk => by injection hk with hk; omega)))⟩
  · have d0 : decide ((0 : Int) < (p : Int)) = false := by simp; omega
    go_wp2_with (first
        | ((refine no_implicit_lambda% (hdE ?_)); intro K hK; (with_reducible refine at_store rfl ?_); refine wp_storeOld ((hS.on.block _ hl3 hgb).trans hbx3) rfl rfl rfl rfl (by rfl) (fun u hu => by simp at hu; rcases hu with rfl | rfl | rfl | rfl | rfl | rfl | rfl | rfl | rfl | rfl | rfl <;> rfl) inM ?_; intro w4 hw4 ho4)
        | (fail)
        | (fail)
        | (go_at_call 25; refine (pick_c _ _ _ _ (hS.rd _ rfl).1 (by omega) (by omega)).mono ?_; rintro e w ⟨kq, rfl, hkq, hr', ho⟩; replace hkq := hkq.1 (by omega); (try replace hobV := KB.callR (Ext.refl _ _) ho (hS.rdc rfl) hobV); replace hS := hS.pastR rfl ho hr'; clear hr' ho; (try clear hc ht hv); (try clear e0 e1 e2 e3 e4 e5 e6 e7 e8 e9 e10 e12 e14); (try dsimp only); (refine no_implicit_lambda% (fct ?_)); intro hc ht hv; (refine no_implicit_lambda% (fxa750d ?_)); intro e0 e1 e2 e3 e4 e5 e6 e7 e8 e9 e10 e12 e14; (try ((have hkp : kq < p := (by omega)); obtain ⟨kd, fr, mv, sq, mr, Ac, nc, dc, Av, nv, dv, a0, a1, a2, a3, a4, a5, a6, a7, a8, a9, a10, u1, u2, u3, u4, u5⟩ := hT'.msgAt h2 hkp; (clear hkp); (try clear hc ht hv); (refine no_implicit_lambda% (fct ?_)); intro hc ht hv; (refine no_implicit_lambda% (fxa750d ?_)); intro e0 e1 e2 e3 e4 e5 e6 e7 e8 e9 e10 e12 e14)))
        | (go_at_call 26; refine (l20AnyMsg_t hS.tw (hS.rd _ rfl).1 (hS.rdc rfl) (by omega)).mono ?_; rintro e w ⟨c, us, rfl, hus, hx, hT', hr', ho⟩; replace hS := hS.belowR rfl hx hT' (Nat.le_refl _) (Nat.le_refl _) ho hr'; clear hx hT' hr' ho; (try clear hc ht hv); (try clear e0 e1 e2 e3 e4 e5 e6 e7 e8 e9 e10 e12 e14); (obtain ⟨_, _, _, _, _, _, _, _, _, _, _, rfl, _, _, _, _, _⟩ := hus.msg); (try dsimp only); (refine no_implicit_lambda% (fct ?_)); intro hc ht hv; (refine no_implicit_lambda% (fxa750d ?_)); intro e0 e1 e2 e3 e4 e5 e6 e7 e8 e9 e10 e12 e14)
        | ((refine no_implicit_lambda% (rgspecDrawSaidHas4XO ?_)); (try clear hc ht hv); (try clear e0 e1 e2 e3 e4 e5 e6 e7 e8 e9 e10 e12 e14); clear hS; intro hS hc ht hv; (refine no_implicit_lambda% (fxa750d ?_)); intro e0 e1 e2 e3 e4 e5 e6 e7 e8 e9 e10 e12 e14)
        | ((with_reducible refine wpOF_both ?_ ?_) <;> (refine no_implicit_lambda% (pk_ ?_))) | ((with_reducible refine wpOF_three ?_ ?_ ?_) <;> (refine no_implicit_lambda% (pk_ ?_))) | ((with_reducible refine MS.and_ ?_ ?_); (focus (exact msA)); intro hM) | (refine no_implicit_lambda% (ofS ?_)) | ((refine no_implicit_lambda% (ofK ?_)); intro K hK) | (refine no_implicit_lambda% (ofL ?_)) | ((refine no_implicit_lambda% (ofM ?_)); intro K hK) | ((refine no_implicit_lambda% (ofX ?_)); intro K hK) | (refine no_implicit_lambda% (ofN ?_)) | ((with_reducible apply wpT_split); (focus rfl); (focus rfl); (focus rfl); all_goals (intro hxx; simp only [hxx]))
        | fail)
    all_goals
      (have hon : Only w3.heap.size (some (v.heap.size + 1)) w3 _ := hS.on); refine bodyPost_ret (results_tc rfl hw4 (by rfl) inM (aggM _) rfl rfl) rfl ⟨_, _, _, _, _, rfl, (by exact tyA), hx2.trans hS.ext (show v.heap.size ≤ w3.heap.size by omega), hS.tw.only ho4 (fun k hk => by injection hk with hk; subst hk; exact (hS.ext.old _ hl3).trans hcn), hB3.trans ((hon.toBelow (by omega) (fun k hk => by injection hk with hk; omega)).trans (ho4.toBelow (by have := hB3.size; have := hon.size; omega) (fun k hk => by injection hk with hk; omega)))⟩
section
variable {Pg : Program} {o : Oper} {a : Act} {w : World} {K : Act → World → Prop} {Q : Exit → Act → World → Prop} {k : Bs} {P T D : Nat} {c : Cx} {L : List LE} {V : List VE}
theorem wp_appK (hS : St k P T D c L V w) {t e : TypeId} {z : Value} {bytes : Nat} {s x : Operand} {A : Option Addr} {n d : Nat} {B : Option Addr} {m q : Nat} (j : Nat)
    (ho : o.op = .call { callee := .builtin .append, args := #[s, x], argTypes := #[t, t] }) (ht : Pg.underlying t = some (.slice e)) (hs : a.eval s = .slice A n d) (hV : V[j]? = some (e, noP, .slice A n d)) (hx : a.eval x = .slice B m q)
    (hi : InfoOf Pg e z bytes) (hz : ZeroOk e z) (hpos : 0 < isz e) (hsl : SlV c e (.slice B m q)) {ls ms : List (Cs (isz e))} (hO : Own Cs.val (isz e) e w k.w0.heap.size (.slice A n d) ls) (hms : ms.length = m) (hSl : Sl Cs.val (isz e) w 0 w.heap.size B ms) (hm : 0 < m)
    (hbound : (n + m) * bytes ≤ 140737488355328 ∧ n + m ≤ maxLen)
    (h : ∀ c' A' d' w', St k P T D c' L (V.set j (e, noP, .slice A' (n + m) d')) w' → Own Cs.val (isz e) e w' k.w0.heap.size (.slice A' (n + m) d') (ls ++ ms) → K (a.put o.dst (.slice A' (n + m) d')) w') : o.wp Pg a w K Q := by
  obtain ⟨c', A', d', w', hrun, h1, h2⟩ := hS.app (ty := o.type) ht hi hz hpos hV hsl ⟨ms, hms, hSl, fun _ _ => trivial⟩ hbound
  have hln : n = ls.length := hO.lenEq
  have hne : ms ≠ [] := by intro e; rw [e] at hms; simp at hms; omega
  obtain ⟨g0, off0, rfl, _, _, hc⟩ := hSl hne
  obtain ⟨inf, hi1, hi2, hi3, hi4⟩ := info_parts hi
  have hzs : z.cells.size = isz e := by have := (hz T D c).len; simpa using this
  subst hms
  have hflat : ∀ j u, (ms.flatMap Cs.val)[j]? = some u → w.cell? ((⟨g0, off0, none⟩ : Addr).add j) = some u := fun j u hu => by
    have hadd : ((⟨g0, off0, none⟩ : Addr).add j) = ⟨g0, off0 + j, none⟩ := by
      unfold Addr.add
      split
      · rename_i h0; rw [h0]; rfl
      · rfl
    rw [hadd]
    have hj : j < ms.length * isz e := by
      have := (List.getElem?_eq_some_iff.1 hu).1
      rwa [flatMap_len Cs.len] at this
    have hk : j / isz e < ms.length := Nat.div_lt_of_lt_mul (by rw [Nat.mul_comm]; exact hj)
    have hr : j % isz e < isz e := Nat.mod_lt _ hpos
    have hdm : j / isz e * isz e + j % isz e = j := by rw [Nat.mul_comm]; exact Nat.div_add_mod j (isz e)
    have hu' : (Cs.val ms[j / isz e])[j % isz e]? = some ((Cs.val ms[j / isz e])[j % isz e]'(by rw [Cs.len]; exact hr)) := List.getElem?_eq_getElem _
    have h5 := flatMap_get Cs.len ms (j / isz e) ms[j / isz e] (List.getElem?_eq_getElem hk) (j % isz e) _ hu'
    have h6 := hc (j / isz e) ms[j / isz e] (List.getElem?_eq_getElem hk) (j % isz e) _ hu'
    rw [hdm] at h5
    rw [Nat.add_assoc, hdm] at h6
    rw [h5] at hu
    injection hu with hu
    rw [← hu]
    exact h6
  obtain ⟨v2, w2, hrun2, hO2, hg2, hloc2⟩ := run_appG (P := Pg) Cs.len hpos Cs.one t o.type e inf z bytes ht hi1 hi2 hi3 hi4 hzs hO ⟨g0, off0, none⟩ ms q hflat (by rw [← hln]; exact hbound.2) (by rw [← hln]; exact hbound.1) hS.base
  rw [hrun] at hrun2
  injection hrun2 with hq1 hq2
  subst hq1; subst hq2
  unfold Oper.wp execOp
  simp only [ho, resolve, invoke, builtin, Sem.run_bind, Sem.run_pure, Result.andThen_ok, List.map_toArray, List.map_cons, List.map_nil, hs, hx, hrun]
  exact h c' A' d' w' h1 hO2
theorem St.own0 (hS : St k P T D c L V w) {j : Nat} {e : TypeId} {Pr : List Value → Prop} {A : Option Addr} {d : Nat} (hV : V[j]? = some (e, Pr, .slice A 0 d)) : Own Cs.val (isz e) e w k.w0.heap.size (.slice A 0 d) ([] : List (Cs (isz e))) := by
  obtain ⟨_, ls, h2, _⟩ := hS.vs _ (List.mem_of_getElem? hV)
  have h2 : Own Cs.val (isz e) e w k.w0.heap.size (.slice A 0 d) ls := h2
  have h0 : ls = [] := List.eq_nil_of_length_eq_zero h2.lenEq.symm
  rw [h0] at h2
  exact h2
theorem St.part1 (hS : St k P T D c L V w) {j : Nat} {e : TypeId} {mu : List Value} {A : Option Addr} {d : Nat} (hV : V[j]? = some (e, (fun y => y = mu), .slice A 1 d)) : ∃ mc : Cs (isz e), mc.val = mu ∧ Sl Cs.val (isz e) w 0 w.heap.size A [mc] := by
  obtain ⟨ms, h1, h2, h3⟩ := hS.partsV hV
  match ms, h1, h2, h3 with
  | [y], _, h2, h3 => exact ⟨y, h3 y (List.mem_singleton.2 rfl), h2⟩
end
theorem PDm.frame {T D : Nat} {c : Cx} {w w' : World} {x : Ending} (h : PDm w x w') (hT : TW T D c w) (hTT : 21000 ≤ T) (hDD : 6000000 ≤ D) : ∃ (c' : Cx) (B : Option Addr) (p q : Nat) (us : List Value), x = .returned (.tuple #[.slice B p q, .agg us.toArray]) ∧ TyE T D c' tM us ∧ Ext w.heap.size c c' ∧ TW T D c' w' ∧ Below w.heap.size w w' := by
  obtain ⟨c', B, p, q, us, h1, h2, h3, h4, h6⟩ := h
  have hc' : ∀ b x, c' b = some x → w.heap.size ≤ b := fun b x hb => by
    rcases Nat.lt_or_ge b w.heap.size with hlt | hge
    · rw [h3.old b hlt] at hb; cases hb
    · exact hge
  have hle : Cx.le c' (fun b => if b < w.heap.size then c b else c' b) := fun b x hb => by
    have := hc' b x hb
    simp only [if_neg (show ¬ b < w.heap.size by omega)]
    exact hb
  have hle2 : Cx.le c (fun b => if b < w.heap.size then c b else c' b) := fun b x hb => by
    simp only [if_pos (hT.lt hb)]
    exact hb
  refine ⟨_, B, p, q, us, h1, h2.up hTT hDD hle, ⟨hle2, fun b hb => if_pos hb⟩, fun b e' N hb => ?_, h6⟩
  by_cases hlt : b < w.heap.size
  · simp only [if_pos hlt] at hb
    obtain ⟨cs, q1, q2, q3⟩ := hT b e' N hb
    refine ⟨cs, (h6.block b hlt).trans q1, q2, fun j u hu => ?_⟩
    obtain ⟨t, q4, q5⟩ := q3 j u hu
    exact ⟨t, q4, q5.mono hle2⟩
  · simp only [if_neg hlt] at hb
    obtain ⟨cs, q1, q2, q3⟩ := h4 b e' N hb
    refine ⟨cs, q1, q2, fun j u hu => ?_⟩
    obtain ⟨t, q4, q5⟩ := q3 j u hu
    exact F_up hTT hDD hle q4 q5
theorem rdn_elem {w : World} {A : Option Addr} {n d : Nat} {ts : List MsgT} (h0 : RdN 11 msgR w 0 w.heap.size A n d ts) {ms : List (Cs (isz tM))} (hSl : Sl Cs.val (isz tM) w 0 w.heap.size A ms) {i : Nat} (hi : i < ts.length) (hi' : i < ms.length) : msgR w 0 w.heap.size ms[i].val ts[i] := by
  obtain ⟨b, off, rfl, _, _, f⟩ := h0.row (by intro e; rw [e] at hi; simp at hi)
  obtain ⟨cs, h1, h2, h3⟩ := f i hi
  have hat := hSl.at_ hi'
  have hl : ms[i].val.length = 11 := ms[i].len
  have : ms[i].val = cs := by
    apply List.ext_getElem?
    intro j
    by_cases hj : j < 11
    · have hj1 : j < ms[i].val.length := by omega
      have hj2 : j < cs.length := by omega
      have e1 : w.cell? ⟨b, off + i * 11 + j, none⟩ = some (ms[i].val[j]'hj1) := hat j _ (List.getElem?_eq_getElem hj1)
      have e2 := h2 j _ (List.getElem?_eq_getElem hj2)
      rw [e1] at e2
      injection e2 with e2
      rw [List.getElem?_eq_getElem hj1, List.getElem?_eq_getElem hj2, e2]
    · rw [List.getElem?_eq_none (by omega), List.getElem?_eq_none (by omega)]
  rw [this]
  exact h3
theorem rdn_own {w w' : World} {lo : Nat} {v : Value} {ts : List MsgT} {ms : List (Cs (isz tM))} {B : Option Addr} {p q : Nat} {m : MsgT} {mc : Cs (isz tM)} (h0 : RdN 11 msgR w 0 w.heap.size B p q ts) (hml : ms.length = p) (hSl : Sl Cs.val (isz tM) w 0 w.heap.size B ms) (hm : msgR w' 0 w'.heap.size mc.val m) (hB : Below w.heap.size w w') (hO : Own Cs.val (isz tM) tM w' lo v (ms ++ [mc])) {A' : Option Addr} {n' d' : Nat} (hv : v = .slice A' n' d') : RdN 11 msgR w' 0 w'.heap.size A' n' d' (ts ++ [m]) := by
  have hlen := h0.len
  subst hv
  obtain ⟨A2, c2, hq, hc1, hc2, hs2⟩ := hO.sl Cs.len
  injection hq with q1 q2 q3
  subst q1; subst q3
  have hn : n' = (ts ++ [m]).length := by rw [q2]; simp; omega
  refine ⟨hn, by omega, hc2, fun _ => ?_⟩
  obtain ⟨g, off, rfl, g1, g2, hrow⟩ := hs2 (by simp)
  refine ⟨g, off, rfl, Nat.zero_le _, g2, fun i hi => ?_⟩
  have hix : i < (ms ++ [mc]).length := by rw [← q2, hn]; exact hi
  refine ⟨(ms ++ [mc])[i].val, (ms ++ [mc])[i].len, fun j u hu => hrow i _ (List.getElem?_eq_getElem hix) j u hu, ?_⟩
  by_cases hlt : i < ms.length
  · have hts : i < ts.length := by omega
    rw [List.getElem_append_left hlt, List.getElem_append_left hts]
    exact (msg_kept.keep (rdn_elem h0 hSl hts hlt) (fun b _ hb' => hB.block b hb')) |> fun h => msg_kept.mono h (Nat.le_refl _) hB.size
  · have e1 : i = ms.length := by simp at hix; omega
    have e2 : i = ts.length := by omega
    rw [List.getElem_append_right (by omega), List.getElem_append_right (by omega)]
    simpa using hm
theorem TW.msgM {T D : Nat} {c : Cx} {w : World} (hT : TW T D c w) {us : List Value} (h : TyE T D c tM us) : ∃ m : MsgT, msgR w 0 w.heap.size us m := by
  obtain ⟨m, A, n, d, B, p, q, hu, h1, h2, _⟩ := hT.msgT h
  exact ⟨m, A, n, d, B, p, q, hu, h1, h2⟩
end Go.Proofs.Ytopmbnnjhoinkaa
