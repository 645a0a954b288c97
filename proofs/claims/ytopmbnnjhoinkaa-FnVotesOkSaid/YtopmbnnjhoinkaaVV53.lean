/-
  What 'FVd' rests on (texts of this seat put together: FVa).
  Conditions: none.
-/
import Derived.Test.YtopmbnnjhoinkaaVV52
namespace Go.Proofs.Ytopmbnnjhoinkaa
open Go Go.RowKit Rg
set_option linter.unusedVariables false
set_option linter.unusedSimpArgs false
set_option maxHeartbeats 1000000
def PDv (w0 : World) (x : Ending) (w' : World) : Prop := ∃ (c' : Cx) (B : Option Addr) (p q : Nat) (view : Int) (C : Option Addr) (m f : Nat), x = .returned (.tuple #[.slice B p q, .int .i64 view, .slice C m f]) ∧ SlV c' tM (.slice B p q) ∧ p ≤ 100 ∧ SlV c' tV (.slice C m f) ∧ TW 21000 6000000 c' w' ∧ Below w0.heap.size w0 w' ∧
  ∃ ls : List (Cs (isz tM)), Own Cs.val (isz tM) tM w' 0 (.slice B p q) ls ∧ ∀ y ∈ ls, bareP y.val
set_option maxRecDepth 100000 in
set_option maxHeartbeats 20000000 in
theorem DrawVotesOk_t (A : Option Addr) (n c : Nat) (bs : List Int) (v : World) (hn : n = bs.length) (hc : n ≤ c) (hcm : c ≤ maxLen) (hs : Sl encU 1 v 0 v.heap.size A bs) (hb : ∀ b ∈ bs, 0 ≤ b ∧ b < 256) :
    Calls Try.prog 11 #[.slice A n c] v fun e w' => PDv v e w' := by
  have hn' := hide hn
  have hb' := hide hb
  clear hn hb
  go_enter Try.func11, Try.ntmps11
  go_wp2_with fail
  refine (l20Open_c A n c bs v hn'.out hc hcm hs hb'.out).mono ?_
  rintro e w2 ⟨rfl, hr2, hb2⟩
  obtain ⟨P0, hP0, hr2⟩ : ∃ P0 : Nat, P0 ≤ 10 ∧ Rd w2 v.heap.size P0 := ⟨0, by omega, hr2⟩
  go_wp2_with fail
  refine (l20World_t hr2 (by omega)).mono ?_
  rintro e w3 ⟨c', bad', Aw, dw, B, p, q, rfl, s1, h2, hp, ⟨ls, ho_, hP_⟩, hx, hT', hr3, ho3⟩
  have hgl : v.heap.size < w2.heap.size := hr2.lt
  have hG : c' v.heap.size = none := by rw [hx.old v.heap.size hgl]
  have hB3 : Below v.heap.size v w3 := (hb2.mono (by omega)).trans (ho3.toBelow (by omega) (fun k hk => by injection hk with hk; omega))
  have hl3 : w2.heap.size ≤ w3.heap.size := ho3.size
  have hoK := hide (fun (w : World) (h : Only w3.heap.size (some v.heap.size) w3 w) => hB3.trans (h.toBelow (B' := v.heap.size) (by omega) (fun k hk => by injection hk with hk; omega)))
  have hoL : Hid (∀ w : World, Only w3.heap.size (some v.heap.size) w3 w → ∃ ls : List (Cs (isz tM)), Own Cs.val (isz tM) tM w 0 (.slice B p q) ls ∧ ∀ y ∈ ls, bareP y.val) := hide (fun w h => ⟨ls, (ho_.keep fun b hb' => h.block b ((ho_.lt b hb').2) (fun e => by injection e with e; have := (ho_.lt b hb').1; omega)).mono (Nat.zero_le _), hP_⟩)
  obtain ⟨P3, hP3, hr3⟩ : ∃ P3 : Nat, P3 ≤ 120000 ∧ Rd w3 v.heap.size P3 := ⟨P0 + 110010, by omega, hr3⟩
  have hS : St ⟨c', w3, some v.heap.size⟩ P3 21000 6000000 c' [] [] w3 := St.startR hT' hr3 hG
  clear ho_ hP_ ls hb2 hr2 ho3 hs hn' hb' hc hcm hP0 hx hr3 hB3
  go_wp2_with (first
    | ((refine no_implicit_lambda% (hdE ?_)); intro K hK; (first
      | ((with_reducible refine at_dst 6 ?_ ?_); (focus rfl); (refine no_implicit_lambda% (alzW ?_)); (try clear hc ht hv); clear hS; intro b6 w hS hc ht hv)
      | ((refine no_implicit_lambda% (sazW ?_)); (try clear hc ht hv); clear hS; intro w hS hc ht hv)))
    | (fail)
    | (fail)
    | (go_at_call 25; refine (pick_c _ _ _ _ (hS.rd _ rfl).1 (by omega) (by omega)).mono ?_; rintro e w ⟨kq, rfl, hkq, hr', ho⟩; replace hkq := hkq.1 (by omega); (try replace hobV := KB.callR (Ext.refl _ _) ho (hS.rdc rfl) hobV); replace hS := hS.pastR rfl ho hr'; clear hr' ho; (try clear hc ht hv); (try dsimp only); (refine no_implicit_lambda% (fct ?_)); intro hc ht hv)
    | (go_at_call 27; refine (l20Real_t hS.tw (hS.rd _ rfl).1 (hS.rdc rfl) (by omega) slA (by omega) slA).mono ?_; rintro e w ⟨c, Ak, nk, dk, rfl, hnk, hs_, ⟨ls_, ho_, hp_⟩, hx, hT', hr', ho⟩; have hlt_ := hS.ownLt; replace hS := (hS.belowR rfl hx hT' (Nat.le_refl _) (Nat.le_refl _) ho hr').addV hs_ ho_ hp_ hS.base hlt_; clear hx hT' hr' ho hlt_ ho_ hp_ hs_ ls_; (try clear hc ht hv); (try dsimp only); (refine no_implicit_lambda% (fct ?_)); intro hc ht hv)
    | ((refine no_implicit_lambda% (rgspecDrawVotesOk7XO ?_)); (try clear hc ht hv); clear hS; intro hS hc ht hv)
    | ((refine no_implicit_lambda% (rgspecDrawVotesOk9 ?_)); (try clear hc ht hv); clear hS; intro hS hc ht hv)
    | ((with_reducible refine wpOF_both ?_ ?_) <;> (refine no_implicit_lambda% (pk_ ?_))) | ((with_reducible refine wpOF_three ?_ ?_ ?_) <;> (refine no_implicit_lambda% (pk_ ?_))) | ((with_reducible refine MS.and_ ?_ ?_); (focus (exact msA)); intro hM) | (refine no_implicit_lambda% (ofS ?_)) | ((refine no_implicit_lambda% (ofK ?_)); intro K hK) | (refine no_implicit_lambda% (ofL ?_)) | ((refine no_implicit_lambda% (ofM ?_)); intro K hK) | ((refine no_implicit_lambda% (ofX ?_)); intro K hK) | (refine no_implicit_lambda% (ofN ?_)) | ((with_reducible apply wpT_split); (focus rfl); (focus rfl); (focus rfl); all_goals (intro hxx; simp only [hxx]))
    | fail)
  go_loopw [7] (fun iv wr => ∃ (iz : Int) (Pq : Nat), iv = .int .i64 iz ∧ -1 ≤ iz ∧ iz < p ∧ Pq + 1000 * (iz + 1).toNat ≤ 222000 ∧ St ⟨c', w3, some v.heap.size⟩ Pq 21000 6000000 c' [(b6, tW, [.int .i64 bad', .slice Aw 4 dw, .slice B p q])] [] wr) (fun iv _ => (intOf iv + 1).toNat)
  case atStart => exact ⟨(p : Int) - 1, P3, by go_num, by omega, by omega, by omega, hS⟩
  case round =>
    (try clear hc ht hv); clear hS
    obtain ⟨iz, Pq, rfl, hi0, hip, hPq, hS⟩ := hrel
    by_cases h0 : 0 ≤ iz
    · obtain ⟨j, rfl⟩ := Int.eq_ofNat_of_zero_le h0
      have hjp : j < p := by omega
      obtain ⟨gs, os, rfl⟩ := h2.addr hjp
      have hoG : (Bs.mk c' w3 (some v.heap.size)).G ≠ some gs := hoG_of hG h2
      obtain ⟨ob, hob⟩ := hT'.rowOb h2
      obtain ⟨kd, fr, mv, sq, mr, Ac, nc, dc, Av, nv, dv, a0, a1, a2, a3, a4, a5, a6, a7, a8, a9, a10, u1, u2, u3, u4, u5⟩ := hT'.msgAt h2 hjp
      cases f1 : (kd == 6)
      all_goals
        (try clear hc ht hv); (refine no_implicit_lambda% (fct ?_)); intro hc ht hv; (refine no_implicit_lambda% (fxa750d ?_)); intro e0 e1 e2 e3 e4 e5 e6 e7 e8 e9 e10 e12 e14
        go_wp2_with (first
    | ((refine no_implicit_lambda% (hdE ?_)); intro K hK; (first
      | ((with_reducible refine at_dst 6 ?_ ?_); (focus rfl); (refine no_implicit_lambda% (alzW ?_)); (try clear hc ht hv); (try clear e0 e1 e2 e3 e4 e5 e6 e7 e8 e9 e10 e12 e14); clear hS; intro b6 w hS hc ht hv; (refine no_implicit_lambda% (fxa750d ?_)); intro e0 e1 e2 e3 e4 e5 e6 e7 e8 e9 e10 e12 e14)
      | ((refine no_implicit_lambda% (sazW ?_)); (try clear hc ht hv); (try clear e0 e1 e2 e3 e4 e5 e6 e7 e8 e9 e10 e12 e14); clear hS; intro w hS hc ht hv; (refine no_implicit_lambda% (fxa750d ?_)); intro e0 e1 e2 e3 e4 e5 e6 e7 e8 e9 e10 e12 e14)))
    | (fail)
    | (fail)
    | (go_at_call 25; refine (pick_c _ _ _ _ (hS.rd _ rfl).1 (by omega) (by omega)).mono ?_; rintro e w ⟨kq, rfl, hkq, hr', ho⟩; replace hkq := hkq.1 (by omega); (try replace hobV := KB.callR (Ext.refl _ _) ho (hS.rdc rfl) hobV); replace hS := hS.pastR rfl ho hr'; clear hr' ho; (try clear hc ht hv); (try clear e0 e1 e2 e3 e4 e5 e6 e7 e8 e9 e10 e12 e14); (try dsimp only); (refine no_implicit_lambda% (fct ?_)); intro hc ht hv; (refine no_implicit_lambda% (fxa750d ?_)); intro e0 e1 e2 e3 e4 e5 e6 e7 e8 e9 e10 e12 e14)
    | (go_at_call 27; refine (l20Real_t hS.tw (hS.rd _ rfl).1 (hS.rdc rfl) (by omega) slA (by omega) slA).mono ?_; rintro e w ⟨c, Ak, nk, dk, rfl, hnk, hs_, ⟨ls_, ho_, hp_⟩, hx, hT', hr', ho⟩; have hlt_ := hS.ownLt; replace hS := (hS.belowR rfl hx hT' (Nat.le_refl _) (Nat.le_refl _) ho hr').addV hs_ ho_ hp_ hS.base hlt_; clear hx hT' hr' ho hlt_ ho_ hp_ hs_ ls_; (try clear hc ht hv); (try clear e0 e1 e2 e3 e4 e5 e6 e7 e8 e9 e10 e12 e14); (try dsimp only); (refine no_implicit_lambda% (fct ?_)); intro hc ht hv; (refine no_implicit_lambda% (fxa750d ?_)); intro e0 e1 e2 e3 e4 e5 e6 e7 e8 e9 e10 e12 e14)
    | ((refine no_implicit_lambda% (rgspecDrawVotesOk7XO ?_)); (try clear hc ht hv); (try clear e0 e1 e2 e3 e4 e5 e6 e7 e8 e9 e10 e12 e14); clear hS; intro hS hc ht hv; (refine no_implicit_lambda% (fxa750d ?_)); intro e0 e1 e2 e3 e4 e5 e6 e7 e8 e9 e10 e12 e14)
    | ((refine no_implicit_lambda% (rgspecDrawVotesOk9 ?_)); (try clear hc ht hv); (try clear e0 e1 e2 e3 e4 e5 e6 e7 e8 e9 e10 e12 e14); clear hS; intro hS hc ht hv; (refine no_implicit_lambda% (fxa750d ?_)); intro e0 e1 e2 e3 e4 e5 e6 e7 e8 e9 e10 e12 e14)
    | ((with_reducible refine wpOF_both ?_ ?_) <;> (refine no_implicit_lambda% (pk_ ?_))) | ((with_reducible refine wpOF_three ?_ ?_ ?_) <;> (refine no_implicit_lambda% (pk_ ?_))) | ((with_reducible refine MS.and_ ?_ ?_); (focus (exact msA)); intro hM) | (refine no_implicit_lambda% (ofS ?_)) | ((refine no_implicit_lambda% (ofK ?_)); intro K hK) | (refine no_implicit_lambda% (ofL ?_)) | ((refine no_implicit_lambda% (ofM ?_)); intro K hK) | ((refine no_implicit_lambda% (ofX ?_)); intro K hK) | (refine no_implicit_lambda% (ofN ?_)) | ((with_reducible apply wpT_split); (focus rfl); (focus rfl); (focus rfl); all_goals (intro hxx; simp only [hxx]))
    | fail)
        all_goals first
          | ((with_reducible refine And.intro ?_ ?_); (focus (refine ⟨(j : Int) - 1, _, rfl, by omega, by omega, ?_, hS⟩; omega)); (focus (show ((j : Int) - 1 + 1).toNat < ((j : Int) + 1).toNat; omega)))
          | (go_roundw; (case rel => first | exact ⟨(j : Int) - 1, _, rfl, by omega, by omega, by omega, hS⟩ | exact ⟨(j : Int) - 1, _, by go_num, by omega, by omega, by omega, hS⟩); (case measure => (simp [intOf]; omega)))
          | ((try simp only [Exit.inBlock, Exit.then]); first | exact bodyPost_ret (by simp [results, Try.results11, go_sem]; exact ⟨rfl, rfl, rfl, rfl⟩) rfl ⟨_, _, _, _, _, _, _, _, rfl, slA, hp, slA, hS.tw, hoK.out _ hS.on, hoL.out _ hS.on⟩ | exact bodyPost_ret (by simp [results, Try.results11, go_sem]; rfl) rfl ⟨_, _, _, _, _, _, _, _, rfl, slA, hp, slA, hS.tw, hoK.out _ hS.on, hoL.out _ hS.on⟩)
    · obtain rfl : iz = -1 := by omega
      (try clear hc ht hv); (refine no_implicit_lambda% (fct ?_)); intro hc ht hv
      go_wp2_with (first
    | ((refine no_implicit_lambda% (hdE ?_)); intro K hK; (first
      | ((with_reducible refine at_dst 6 ?_ ?_); (focus rfl); (refine no_implicit_lambda% (alzW ?_)); (try clear hc ht hv); clear hS; intro b6 w hS hc ht hv)
      | ((refine no_implicit_lambda% (sazW ?_)); (try clear hc ht hv); clear hS; intro w hS hc ht hv)))
    | (fail)
    | (fail)
    | (go_at_call 25; refine (pick_c _ _ _ _ (hS.rd _ rfl).1 (by omega) (by omega)).mono ?_; rintro e w ⟨kq, rfl, hkq, hr', ho⟩; replace hkq := hkq.1 (by omega); (try replace hobV := KB.callR (Ext.refl _ _) ho (hS.rdc rfl) hobV); replace hS := hS.pastR rfl ho hr'; clear hr' ho; (try clear hc ht hv); (try dsimp only); (refine no_implicit_lambda% (fct ?_)); intro hc ht hv)
    | (go_at_call 27; refine (l20Real_t hS.tw (hS.rd _ rfl).1 (hS.rdc rfl) (by omega) slA (by omega) slA).mono ?_; rintro e w ⟨c, Ak, nk, dk, rfl, hnk, hs_, ⟨ls_, ho_, hp_⟩, hx, hT', hr', ho⟩; have hlt_ := hS.ownLt; replace hS := (hS.belowR rfl hx hT' (Nat.le_refl _) (Nat.le_refl _) ho hr').addV hs_ ho_ hp_ hS.base hlt_; clear hx hT' hr' ho hlt_ ho_ hp_ hs_ ls_; (try clear hc ht hv); (try dsimp only); (refine no_implicit_lambda% (fct ?_)); intro hc ht hv)
    | ((refine no_implicit_lambda% (rgspecDrawVotesOk7XO ?_)); (try clear hc ht hv); clear hS; intro hS hc ht hv)
    | ((refine no_implicit_lambda% (rgspecDrawVotesOk9 ?_)); (try clear hc ht hv); clear hS; intro hS hc ht hv)
    | ((with_reducible refine wpOF_both ?_ ?_) <;> (refine no_implicit_lambda% (pk_ ?_))) | ((with_reducible refine wpOF_three ?_ ?_ ?_) <;> (refine no_implicit_lambda% (pk_ ?_))) | ((with_reducible refine MS.and_ ?_ ?_); (focus (exact msA)); intro hM) | (refine no_implicit_lambda% (ofS ?_)) | ((refine no_implicit_lambda% (ofK ?_)); intro K hK) | (refine no_implicit_lambda% (ofL ?_)) | ((refine no_implicit_lambda% (ofM ?_)); intro K hK) | ((refine no_implicit_lambda% (ofX ?_)); intro K hK) | (refine no_implicit_lambda% (ofN ?_)) | ((with_reducible apply wpT_split); (focus rfl); (focus rfl); (focus rfl); all_goals (intro hxx; simp only [hxx]))
    | fail)
      all_goals ((try simp only [Exit.inBlock, Exit.then]); first | exact bodyPost_ret (by simp [results, Try.results11, go_sem]; exact ⟨rfl, rfl, rfl, rfl⟩) rfl ⟨_, _, _, _, _, _, _, _, rfl, slA, hp, slA, hS.tw, hoK.out _ hS.on, hoL.out _ hS.on⟩ | exact bodyPost_ret (by simp [results, Try.results11, go_sem]; rfl) rfl ⟨_, _, _, _, _, _, _, _, rfl, slA, hp, slA, hS.tw, hoK.out _ hS.on, hoL.out _ hS.on⟩)
end Go.Proofs.Ytopmbnnjhoinkaa
