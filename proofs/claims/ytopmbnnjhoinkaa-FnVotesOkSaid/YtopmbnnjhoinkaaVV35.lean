/-
  What 'FVd' rests on (texts of this seat put together: TX6).
  Conditions: none.
-/
import Derived.Test.YtopmbnnjhoinkaaVV30
namespace Go.Proofs.Ytopmbnnjhoinkaa
open Go Go.RowKit Rg
set_option linter.unusedVariables false
set_option linter.unusedSimpArgs false
set_option maxHeartbeats 1000000
def PRM (T D M : Nat) (c0 : Cx) (w0 : World) (e : Ending) (w' : World) : Prop := ∃ (c' : Cx) (rs : List Value) (A : Option Addr) (n d : Nat), e = .returned (.tuple #[.agg rs.toArray, .slice A n d]) ∧ TyE T D c' tR rs ∧ n ≤ M ∧ SlV c' 34 (.slice A n d) ∧
  (∃ ls : List (Cs (isz 34)), Own Cs.val (isz 34) 34 w' w0.heap.size (.slice A n d) ls ∧ ∀ y ∈ ls, bareP y.val) ∧ Ext w0.heap.size c0 c' ∧ TW T D c' w' ∧ Below w0.heap.size w0 w'
theorem St.prm {T D M P : Nat} {c0 c : Cx} {w0 w : World} {L : List LE} {V : List VE} {rs : List Value} {A : Option Addr} {n d b : Nat} (i j : Nat) (h : St ⟨c0, w0, none⟩ P T D c L V w) (hL : L[i]? = some (b, 87, rs)) (hV : V[j]? = some (34, bareP, .slice A n d)) (hn : n ≤ M) : PRM T D M c0 w0 (.returned (.tuple #[.agg rs.toArray, .slice A n d])) w :=
  ⟨c, rs, A, n, d, rfl, h.ty i hL, hn, h.slV hV, (h.vs _ (List.mem_of_getElem? hV)).2, h.fin.1, h.fin.2.1, h.fin.2.2⟩
theorem St.prm0 {T D M P : Nat} {c0 c : Cx} {w0 w : World} {L : List LE} {V : List VE} {rs : List Value} {b : Nat} (i : Nat) (h : St ⟨c0, w0, none⟩ P T D c L V w) (hL : L[i]? = some (b, 87, rs)) : PRM T D M c0 w0 (.returned (.tuple #[.agg rs.toArray, .slice none 0 0])) w :=
  ⟨c, rs, none, 0, 0, rfl, h.ty i hL, Nat.zero_le _, SlV.nil_ _ _, ⟨[], Own.nil_ _ _ _ _ _, fun y hy => by cases hy⟩, h.fin.1, h.fin.2.1, h.fin.2.2⟩
theorem PRM.up {T D M M' T' D' : Nat} {c0 : Cx} {w0 w' : World} {e : Ending} (h : PRM T D M c0 w0 e w') (hT : T ≤ T') (hD : D ≤ D') (hM : M ≤ M') : PRM T' D' M' c0 w0 e w' := by
  obtain ⟨c', rs, A, n, d, h1, h2, h3, h4, h5, h6, h7, h8⟩ := h
  exact ⟨c', rs, A, n, d, h1, h2.up hT hD (Cx.le.refl _), Nat.le_trans h3 hM, h4, h5, h6, h7.up hT hD, h8⟩
section
variable {c : Cx} {e : TypeId} {g off n d k : Nat}
theorem SlV.take_ {A : Option Addr} (h : SlV c e (.slice A n d)) (hk : k ≤ n) : SlV c e (.slice A k d) := by
  rcases h with h | ⟨g, q, n', d', N, h1, h2, h3, h4, h5⟩
  · injection h with e1 e2 e3
    subst e1; subst e2; subst e3
    obtain rfl : k = 0 := by omega
    exact SlV.nil_ _ _
  · injection h1 with e1 e2 e3
    subst e1; subst e2; subst e3
    exact .inr ⟨g, q, k, d, N, rfl, by omega, h3, h4, h5⟩
theorem SlV.drop_ (h : SlV c e (.slice (some ⟨g, off, none⟩) n d)) (hk : k ≤ n) : SlV c e (.slice (some ⟨g, off + k * isz e, none⟩) (n - k) (d - k)) := by
  rcases h with h | ⟨g', q, n', d', N, h1, h2, h3, h4, h5⟩
  · cases h
  · injection h1 with e1 e2 e3
    injection e1 with e1
    injection e1 with e1 e4
    subst e1; subst e2; subst e3; subst e4
    refine .inr ⟨g, q + k, n - k, d - k, N, by rw [Nat.add_mul], by omega, by omega, h4, ?_⟩
    rw [Nat.add_mul, Nat.add_assoc, ← Nat.add_mul, show k + (d - k) = d by omega]
    exact h5
end
section
variable {T D : Nat} {c0 : Cx} {w0 : World} {rs cs us vs : List Value}
set_option maxRecDepth 100000 in
set_option maxHeartbeats 4000000 in
theorem l5Yes_t (hT : TW T D c0 w0) (hr : TyE T D c0 tR rs) (hq : TyE T D c0 tC cs) (hB : T ≤ 1000000) :
    Calls Try.prog 101 #[.agg rs.toArray, .agg cs.toArray] w0 fun e w' => PRM (T + 1) D 1 c0 w0 e w' := by
  obtain ⟨me, vw, lv, nx, A1, n1, d1, A2, n2, d2, A3, n3, d3, rfl, g1, g2, g3, g4, g5, g6, g7, g8⟩ := hr.rep
  obtain ⟨t, rfl, h2⟩ := hq.claim
  have hS : St ⟨c0, w0, none⟩ 0 T D c0 [] [] w0 := St.start hT (fun g hg => by cases hg)
  go_enter Try.func101, Try.ntmps101
  go_wp2_with (first
    | ((refine no_implicit_lambda% (hdE ?_)); intro K hK; (first
      | ((with_reducible refine at_dst 2 ?_ ?_); (focus rfl); (refine no_implicit_lambda% (aB ?_)); (try clear hc ht hv); clear hS; intro b2 w hS hc ht hv)
      | ((with_reducible refine at_dst 3 ?_ ?_); (focus rfl); (refine no_implicit_lambda% (aB ?_)); (try clear hc ht hv); clear hS; intro b3 w hS hc ht hv)
      | ((with_reducible refine at_dst 4 ?_ ?_); (focus rfl); (refine no_implicit_lambda% (alzR ?_)); (try clear hc ht hv); clear hS; intro b4 w hS hc ht hv)
      | ((with_reducible refine at_dst 6 ?_ ?_); (focus rfl); (refine no_implicit_lambda% (alzM ?_)); (try clear hc ht hv); clear hS; intro b6 w hS hc ht hv)
      | ((with_reducible refine at_dst 30 ?_ ?_); (focus rfl); ((refine no_implicit_lambda% (r1zMbareP ?_)); (try clear hc ht hv); clear hS; intro c b w hS hx; (try replace hrs := hrs.mono hx.le); (try clear hx); intro hc ht hv))
      | ((refine no_implicit_lambda% (sazR ?_)); (try clear hc ht hv); clear hS; intro w hS hc ht hv)
      | ((refine no_implicit_lambda% (sazM ?_)); (try clear hc ht hv); clear hS; intro w hS hc ht hv)))
    | (go_at_call 98; refine (l5Take_t hS.tw tyA tyA (by omega)).mono ?_; rintro e w ⟨c, rs, rfl, hrs, hx, hT', hb⟩; (try replace hobV := KB.call hx hb hobV); replace hS := hS.below hx hT' (by omega) (by omega) hb; clear hx hT' hb; (try clear hc ht hv); (obtain ⟨_, _, _, _, _, _, _, _, _, _, _, _, _, rfl, _, _, _, _, _, _, _, _⟩ := hrs.rep); (try dsimp only); (refine no_implicit_lambda% (fct ?_)); intro hc ht hv)
    | (go_at_call 71; refine (l3Leader_t _ _).mono ?_; rintro e w' ⟨x, rfl, rfl⟩; (try dsimp only))
    | (go_at_call 89; refine (l5Note_t hS.tw tyA tyA).mono ?_; rintro e w ⟨c, rs, rfl, hrs, hx, hT', hb⟩; (try replace hobV := KB.call hx hb hobV); replace hS := hS.below hx hT' (by omega) (by omega) hb; clear hx hT' hb; (try clear hc ht hv); (obtain ⟨_, _, _, _, _, _, _, _, _, _, _, _, _, rfl, _, _, _, _, _, _, _, _⟩ := hrs.rep); (try dsimp only); (refine no_implicit_lambda% (fct ?_)); intro hc ht hv)
    | ((refine no_implicit_lambda% (rgspecl5Yes2 ?_)); (try clear hc ht hv); clear hS; intro hS hc ht hv)
    | ((refine no_implicit_lambda% (rgspecl5Yes5X1 ?_)); (try clear hc ht hv); clear hS; intro hS hc ht hv)
    | ((with_reducible refine wpOF_both ?_ ?_) <;> (refine no_implicit_lambda% (pk_ ?_))) | ((with_reducible refine wpOF_three ?_ ?_ ?_) <;> (refine no_implicit_lambda% (pk_ ?_))) | ((with_reducible refine MS.and_ ?_ ?_); (focus (exact msA)); intro hM) | (refine no_implicit_lambda% (ofS ?_)) | ((refine no_implicit_lambda% (ofK ?_)); intro K hK) | (refine no_implicit_lambda% (ofL ?_)) | ((refine no_implicit_lambda% (ofM ?_)); intro K hK) | ((refine no_implicit_lambda% (ofX ?_)); intro K hK) | (refine no_implicit_lambda% (ofN ?_)) | ((with_reducible apply wpT_split); (focus rfl); (focus rfl); (focus rfl); all_goals (intro hxx; simp only [hxx]))
    | fail)
  all_goals (exact no_implicit_lambda% fRM4_3)
set_option maxRecDepth 100000 in
set_option maxHeartbeats 4000000 in
theorem l5Finish_t (hT : TW T D c0 w0) (hr : TyE T D c0 tR rs) (hq : TyE T D c0 tC cs) (hB : D ≤ 1000000000) :
    Calls Try.prog 106 #[.agg rs.toArray, .agg cs.toArray] w0 fun e w' => PRep T (D + 1) c0 w0 e w' := by
  obtain ⟨me, vw, lv, nx, A1, n1, d1, A2, n2, d2, A3, n3, d3, rfl, g1, g2, g3, g4, g5, g6, g7, g8⟩ := hr.rep
  obtain ⟨t, rfl, h2⟩ := hq.claim
  have hcap := g7.cap
  unfold maxLen at hcap
  replace hr := hr.up (Nat.le_refl T) (show D ≤ D + 1 by omega) (Cx.le.refl c0)
  replace hq := hq.up (Nat.le_refl T) (show D ≤ D + 1 by omega) (Cx.le.refl c0)
  have hS : St ⟨c0, w0, none⟩ 0 (T) (D + 1) c0 [] [] w0 := (St.start hT (fun g hg => by cases hg)).raise (by omega) (by omega)
  go_enter Try.func106, Try.ntmps106
  go_wp2_with (first
    | ((refine no_implicit_lambda% (hdE ?_)); intro K hK; (first
      | ((with_reducible refine at_dst 2 ?_ ?_); (focus rfl); (refine no_implicit_lambda% (aB ?_)); (try clear hc ht hv); clear hS; intro b2 w hS hc ht hv)
      | ((with_reducible refine at_dst 3 ?_ ?_); (focus rfl); (refine no_implicit_lambda% (aB ?_)); (try clear hc ht hv); clear hS; intro b3 w hS hc ht hv)
      | ((with_reducible refine at_dst 4 ?_ ?_); (focus rfl); (refine no_implicit_lambda% (alzR ?_)); (try clear hc ht hv); clear hS; intro b4 w hS hc ht hv)
      | ((with_reducible refine at_dst 30 ?_ ?_); (focus rfl); ((refine no_implicit_lambda% (r0zCnoP ?_)); (try clear hc ht hv); clear hS; intro c b w hS hx; (try clear hx); intro hc ht hv))
      | ((with_reducible refine at_dst 38 ?_ ?_); (focus rfl); ((refine no_implicit_lambda% (r1zCnoP ?_)); (try clear hc ht hv); clear hS; intro c b w hS hx; (try clear hx); intro hc ht hv))
      | ((with_reducible refine at_dst 35 ?_ ?_); (focus rfl); ((refine no_implicit_lambda% (apzC ?_)); (try clear hc ht hv); clear hS; intro c A35 d35 w hS hx; (try clear hx); intro hc ht hv))
      | ((with_reducible refine at_dst 39 ?_ ?_); (focus rfl); ((refine no_implicit_lambda% (apzC ?_)); (try clear hc ht hv); clear hS; intro c A39 d39 w hS hx; (try clear hx); intro hc ht hv))
      | ((with_reducible refine at_dst 45 ?_ ?_); (focus rfl); ((refine no_implicit_lambda% (apzC ?_)); (try clear hc ht hv); clear hS; intro c A45 d45 w hS hx; (try clear hx); intro hc ht hv))
      | ((refine no_implicit_lambda% (sazR ?_)); (try clear hc ht hv); clear hS; intro w hS hc ht hv)
      | ((refine no_implicit_lambda% (stS ?_)); (try clear hc ht hv); clear hS; intro w hS hc ht hv)))
    | (go_at_call 108; refine (l5IsDone_t hS.tw tyA).mono ?_; rintro e w ⟨bq, rfl, hb⟩; replace hS := hS.past hb; clear hb; (try clear hc ht hv); (try dsimp only); (refine no_implicit_lambda% (fct ?_)); intro hc ht hv; cases bq)
    | ((refine no_implicit_lambda% (rgspecl5Finish4 ?_)); (try clear hc ht hv); clear hS; intro hS hc ht hv)
    | ((with_reducible refine wpOF_both ?_ ?_) <;> (refine no_implicit_lambda% (pk_ ?_))) | ((with_reducible refine wpOF_three ?_ ?_ ?_) <;> (refine no_implicit_lambda% (pk_ ?_))) | ((with_reducible refine MS.and_ ?_ ?_); (focus (exact msA)); intro hM) | (refine no_implicit_lambda% (ofS ?_)) | ((refine no_implicit_lambda% (ofK ?_)); intro K hK) | (refine no_implicit_lambda% (ofL ?_)) | ((refine no_implicit_lambda% (ofM ?_)); intro K hK) | ((refine no_implicit_lambda% (ofX ?_)); intro K hK) | (refine no_implicit_lambda% (ofN ?_)) | ((with_reducible apply wpT_split); (focus rfl); (focus rfl); (focus rfl); all_goals (intro hxx; simp only [hxx]))
    | fail)
  all_goals first | (exact no_implicit_lambda% fRep4) | skip
  go_loopw [5] (fun iv wr => ∃ i : Nat, i ≤ n3 ∧ iv = .int .i64 (i : Int) ∧ St ⟨c0, w0, none⟩ 0 T (D + 1) c0 [(b4, 87, [.int .i64 0, .int .i64 0, .bool false, .int .i64 0, .slice none 0 0, .slice none 0 0, .slice none 0 0]), (b3, 27, [.int .i64 t.1, .int .i64 t.2.1, .int .i64 t.2.2.1, .int .i64 t.2.2.2.1, .int .i64 t.2.2.2.2.1, .int .i64 t.2.2.2.2.2.1, .int .i64 t.2.2.2.2.2.2]), (b2, 87, [.int .i64 me, .int .i64 vw, .bool lv, .int .i64 nx, .slice A1 n1 d1, .slice A2 n2 d2, .slice A3 n3 d3])] [] wr) (fun iv _ => n3 - (intOf iv).toNat)
  case atStart => exact ⟨0, Nat.zero_le _, rfl, hS⟩
  case round =>
    (try clear hc ht hv); clear hS
    obtain ⟨i, hi, rfl, hS⟩ := hrel
    have s1 := g7.take_ hi
    by_cases hlti : i < n3
    · have d0 : decide ((i : Int) < (n3 : Int)) = true := by simp; omega
      obtain ⟨g, off, rfl⟩ := g7.addr hlti
      have s2 : SlV c0 27 (.slice (some ⟨g, off + i * 7, none⟩) (n3 - i) (d3 - i)) := g7.drop_ hi
      obtain ⟨t', a0, a1, a2, a3, a4, a5, a6, u1⟩ := hT.claimAt g7 hlti
      cases f1 : decide (t'.1 < t.1)
      · by_cases hdk : d3 = i
        · exfalso; omega
        · (try clear hc ht hv); (refine no_implicit_lambda% (fct ?_)); intro hc ht hv; (refine no_implicit_lambda% (fx91fc7 ?_)); intro e0 e1 e2 e3 e4 e5 e6 e7 e8
          go_wp2_with (first
    | ((refine no_implicit_lambda% (hdE ?_)); intro K hK; (first
      | ((with_reducible refine at_dst 2 ?_ ?_); (focus rfl); (refine no_implicit_lambda% (aB ?_)); (try clear hc ht hv); (try clear e0 e1 e2 e3 e4 e5 e6 e7 e8); clear hS; intro b2 w hS hc ht hv; (refine no_implicit_lambda% (fx91fc7 ?_)); intro e0 e1 e2 e3 e4 e5 e6 e7 e8)
      | ((with_reducible refine at_dst 3 ?_ ?_); (focus rfl); (refine no_implicit_lambda% (aB ?_)); (try clear hc ht hv); (try clear e0 e1 e2 e3 e4 e5 e6 e7 e8); clear hS; intro b3 w hS hc ht hv; (refine no_implicit_lambda% (fx91fc7 ?_)); intro e0 e1 e2 e3 e4 e5 e6 e7 e8)
      | ((with_reducible refine at_dst 4 ?_ ?_); (focus rfl); (refine no_implicit_lambda% (alzR ?_)); (try clear hc ht hv); (try clear e0 e1 e2 e3 e4 e5 e6 e7 e8); clear hS; intro b4 w hS hc ht hv; (refine no_implicit_lambda% (fx91fc7 ?_)); intro e0 e1 e2 e3 e4 e5 e6 e7 e8)
      | ((with_reducible refine at_dst 30 ?_ ?_); (focus rfl); ((refine no_implicit_lambda% (r0zCnoP ?_)); (try clear hc ht hv); (try clear e0 e1 e2 e3 e4 e5 e6 e7 e8); clear hS; intro c b w hS hx; (try clear hx); intro hc ht hv; (refine no_implicit_lambda% (fx91fc7 ?_)); intro e0 e1 e2 e3 e4 e5 e6 e7 e8))
      | ((with_reducible refine at_dst 38 ?_ ?_); (focus rfl); ((refine no_implicit_lambda% (r1zCnoP ?_)); (try clear hc ht hv); (try clear e0 e1 e2 e3 e4 e5 e6 e7 e8); clear hS; intro c b w hS hx; (try clear hx); intro hc ht hv; (refine no_implicit_lambda% (fx91fc7 ?_)); intro e0 e1 e2 e3 e4 e5 e6 e7 e8))
      | ((with_reducible refine at_dst 35 ?_ ?_); (focus rfl); ((refine no_implicit_lambda% (apzC ?_)); (try clear hc ht hv); (try clear e0 e1 e2 e3 e4 e5 e6 e7 e8); clear hS; intro c A35 d35 w hS hx; (try clear hx); intro hc ht hv; (refine no_implicit_lambda% (fx91fc7 ?_)); intro e0 e1 e2 e3 e4 e5 e6 e7 e8))
      | ((with_reducible refine at_dst 39 ?_ ?_); (focus rfl); ((refine no_implicit_lambda% (apzC ?_)); (try clear hc ht hv); (try clear e0 e1 e2 e3 e4 e5 e6 e7 e8); clear hS; intro c A39 d39 w hS hx; (try clear hx); intro hc ht hv; (refine no_implicit_lambda% (fx91fc7 ?_)); intro e0 e1 e2 e3 e4 e5 e6 e7 e8))
      | ((with_reducible refine at_dst 45 ?_ ?_); (focus rfl); ((refine no_implicit_lambda% (apzC ?_)); (try clear hc ht hv); (try clear e0 e1 e2 e3 e4 e5 e6 e7 e8); clear hS; intro c A45 d45 w hS hx; (try clear hx); intro hc ht hv; (refine no_implicit_lambda% (fx91fc7 ?_)); intro e0 e1 e2 e3 e4 e5 e6 e7 e8))
      | ((refine no_implicit_lambda% (sazR ?_)); (try clear hc ht hv); (try clear e0 e1 e2 e3 e4 e5 e6 e7 e8); clear hS; intro w hS hc ht hv; (refine no_implicit_lambda% (fx91fc7 ?_)); intro e0 e1 e2 e3 e4 e5 e6 e7 e8)
      | ((refine no_implicit_lambda% (stS ?_)); (try clear hc ht hv); (try clear e0 e1 e2 e3 e4 e5 e6 e7 e8); clear hS; intro w hS hc ht hv; (refine no_implicit_lambda% (fx91fc7 ?_)); intro e0 e1 e2 e3 e4 e5 e6 e7 e8)))
    | (go_at_call 108; refine (l5IsDone_t hS.tw tyA).mono ?_; rintro e w ⟨bq, rfl, hb⟩; replace hS := hS.past hb; clear hb; (try clear hc ht hv); (try clear e0 e1 e2 e3 e4 e5 e6 e7 e8); (try dsimp only); (refine no_implicit_lambda% (fct ?_)); intro hc ht hv; (refine no_implicit_lambda% (fx91fc7 ?_)); intro e0 e1 e2 e3 e4 e5 e6 e7 e8; cases bq)
    | ((refine no_implicit_lambda% (rgspecl5Finish4 ?_)); (try clear hc ht hv); (try clear e0 e1 e2 e3 e4 e5 e6 e7 e8); clear hS; intro hS hc ht hv; (refine no_implicit_lambda% (fx91fc7 ?_)); intro e0 e1 e2 e3 e4 e5 e6 e7 e8)
    | ((with_reducible refine wpOF_both ?_ ?_) <;> (refine no_implicit_lambda% (pk_ ?_))) | ((with_reducible refine wpOF_three ?_ ?_ ?_) <;> (refine no_implicit_lambda% (pk_ ?_))) | ((with_reducible refine MS.and_ ?_ ?_); (focus (exact msA)); intro hM) | (refine no_implicit_lambda% (ofS ?_)) | ((refine no_implicit_lambda% (ofK ?_)); intro K hK) | (refine no_implicit_lambda% (ofL ?_)) | ((refine no_implicit_lambda% (ofM ?_)); intro K hK) | ((refine no_implicit_lambda% (ofX ?_)); intro K hK) | (refine no_implicit_lambda% (ofN ?_)) | ((with_reducible apply wpT_split); (focus rfl); (focus rfl); (focus rfl); all_goals (intro hxx; simp only [hxx]))
    | fail)
          all_goals first
            | (go_roundw
               case rel => exact ⟨i + 1, by omega, by go_num, hS⟩
               case measure => simp [intOf]; omega)
            | skip
          all_goals (exact no_implicit_lambda% fRep4)
      · (try clear hc ht hv); (refine no_implicit_lambda% (fct ?_)); intro hc ht hv; (refine no_implicit_lambda% (fx0c49e ?_)); intro e0 e1 e2 e3 e4 e5 e6
        go_wp2_with (first
    | ((refine no_implicit_lambda% (hdE ?_)); intro K hK; (first
      | ((with_reducible refine at_dst 2 ?_ ?_); (focus rfl); (refine no_implicit_lambda% (aB ?_)); (try clear hc ht hv); (try clear e0 e1 e2 e3 e4 e5 e6); clear hS; intro b2 w hS hc ht hv; (refine no_implicit_lambda% (fx0c49e ?_)); intro e0 e1 e2 e3 e4 e5 e6)
      | ((with_reducible refine at_dst 3 ?_ ?_); (focus rfl); (refine no_implicit_lambda% (aB ?_)); (try clear hc ht hv); (try clear e0 e1 e2 e3 e4 e5 e6); clear hS; intro b3 w hS hc ht hv; (refine no_implicit_lambda% (fx0c49e ?_)); intro e0 e1 e2 e3 e4 e5 e6)
      | ((with_reducible refine at_dst 4 ?_ ?_); (focus rfl); (refine no_implicit_lambda% (alzR ?_)); (try clear hc ht hv); (try clear e0 e1 e2 e3 e4 e5 e6); clear hS; intro b4 w hS hc ht hv; (refine no_implicit_lambda% (fx0c49e ?_)); intro e0 e1 e2 e3 e4 e5 e6)
      | ((with_reducible refine at_dst 30 ?_ ?_); (focus rfl); ((refine no_implicit_lambda% (r0zCnoP ?_)); (try clear hc ht hv); (try clear e0 e1 e2 e3 e4 e5 e6); clear hS; intro c b w hS hx; (try clear hx); intro hc ht hv; (refine no_implicit_lambda% (fx0c49e ?_)); intro e0 e1 e2 e3 e4 e5 e6))
      | ((with_reducible refine at_dst 38 ?_ ?_); (focus rfl); ((refine no_implicit_lambda% (r1zCnoP ?_)); (try clear hc ht hv); (try clear e0 e1 e2 e3 e4 e5 e6); clear hS; intro c b w hS hx; (try clear hx); intro hc ht hv; (refine no_implicit_lambda% (fx0c49e ?_)); intro e0 e1 e2 e3 e4 e5 e6))
      | ((with_reducible refine at_dst 35 ?_ ?_); (focus rfl); ((refine no_implicit_lambda% (apzC ?_)); (try clear hc ht hv); (try clear e0 e1 e2 e3 e4 e5 e6); clear hS; intro c A35 d35 w hS hx; (try clear hx); intro hc ht hv; (refine no_implicit_lambda% (fx0c49e ?_)); intro e0 e1 e2 e3 e4 e5 e6))
      | ((with_reducible refine at_dst 39 ?_ ?_); (focus rfl); ((refine no_implicit_lambda% (apzC ?_)); (try clear hc ht hv); (try clear e0 e1 e2 e3 e4 e5 e6); clear hS; intro c A39 d39 w hS hx; (try clear hx); intro hc ht hv; (refine no_implicit_lambda% (fx0c49e ?_)); intro e0 e1 e2 e3 e4 e5 e6))
      | ((with_reducible refine at_dst 45 ?_ ?_); (focus rfl); ((refine no_implicit_lambda% (apzC ?_)); (try clear hc ht hv); (try clear e0 e1 e2 e3 e4 e5 e6); clear hS; intro c A45 d45 w hS hx; (try clear hx); intro hc ht hv; (refine no_implicit_lambda% (fx0c49e ?_)); intro e0 e1 e2 e3 e4 e5 e6))
      | ((refine no_implicit_lambda% (sazR ?_)); (try clear hc ht hv); (try clear e0 e1 e2 e3 e4 e5 e6); clear hS; intro w hS hc ht hv; (refine no_implicit_lambda% (fx0c49e ?_)); intro e0 e1 e2 e3 e4 e5 e6)
      | ((refine no_implicit_lambda% (stS ?_)); (try clear hc ht hv); (try clear e0 e1 e2 e3 e4 e5 e6); clear hS; intro w hS hc ht hv; (refine no_implicit_lambda% (fx0c49e ?_)); intro e0 e1 e2 e3 e4 e5 e6)))
    | (go_at_call 108; refine (l5IsDone_t hS.tw tyA).mono ?_; rintro e w ⟨bq, rfl, hb⟩; replace hS := hS.past hb; clear hb; (try clear hc ht hv); (try clear e0 e1 e2 e3 e4 e5 e6); (try dsimp only); (refine no_implicit_lambda% (fct ?_)); intro hc ht hv; (refine no_implicit_lambda% (fx0c49e ?_)); intro e0 e1 e2 e3 e4 e5 e6; cases bq)
    | ((refine no_implicit_lambda% (rgspecl5Finish4 ?_)); (try clear hc ht hv); (try clear e0 e1 e2 e3 e4 e5 e6); clear hS; intro hS hc ht hv; (refine no_implicit_lambda% (fx0c49e ?_)); intro e0 e1 e2 e3 e4 e5 e6)
    | ((with_reducible refine wpOF_both ?_ ?_) <;> (refine no_implicit_lambda% (pk_ ?_))) | ((with_reducible refine wpOF_three ?_ ?_ ?_) <;> (refine no_implicit_lambda% (pk_ ?_))) | ((with_reducible refine MS.and_ ?_ ?_); (focus (exact msA)); intro hM) | (refine no_implicit_lambda% (ofS ?_)) | ((refine no_implicit_lambda% (ofK ?_)); intro K hK) | (refine no_implicit_lambda% (ofL ?_)) | ((refine no_implicit_lambda% (ofM ?_)); intro K hK) | ((refine no_implicit_lambda% (ofX ?_)); intro K hK) | (refine no_implicit_lambda% (ofN ?_)) | ((with_reducible apply wpT_split); (focus rfl); (focus rfl); (focus rfl); all_goals (intro hxx; simp only [hxx]))
    | fail)
        all_goals
          go_roundw
          case rel => exact ⟨i + 1, by omega, by go_num, hS⟩
          case measure => simp [intOf]; omega
    · obtain rfl : i = n3 := by omega
      have d0 : decide ((i : Int) < (i : Int)) = false := by simp
      cases A3 with
      | none =>
        have hz : i = 0 ∧ d3 = 0 := by
          rcases g7 with g7 | ⟨g, q, n', d', N, hh1, hh2, hh3, hh4, hh5⟩
          · injection g7 with _ q1 q2; exact ⟨q1, q2⟩
          · cases hh1
        obtain ⟨rfl, rfl⟩ := hz
        have s2 := SlV.nil_ c0 27
        (try clear hc ht hv); (refine no_implicit_lambda% (fct ?_)); intro hc ht hv; (refine no_implicit_lambda% (fx6affe ?_)); intro e7 e8
        go_wp2_with (first
            | ((refine no_implicit_lambda% (hdE ?_)); intro K hK; (first
              | ((with_reducible refine at_dst 2 ?_ ?_); (focus rfl); (refine no_implicit_lambda% (aB ?_)); (try clear hc ht hv); (try clear e7 e8); clear hS; intro b2 w hS hc ht hv; (refine no_implicit_lambda% (fx6affe ?_)); intro e7 e8)
              | ((with_reducible refine at_dst 3 ?_ ?_); (focus rfl); (refine no_implicit_lambda% (aB ?_)); (try clear hc ht hv); (try clear e7 e8); clear hS; intro b3 w hS hc ht hv; (refine no_implicit_lambda% (fx6affe ?_)); intro e7 e8)
              | ((with_reducible refine at_dst 4 ?_ ?_); (focus rfl); (refine no_implicit_lambda% (alzR ?_)); (try clear hc ht hv); (try clear e7 e8); clear hS; intro b4 w hS hc ht hv; (refine no_implicit_lambda% (fx6affe ?_)); intro e7 e8)
              | ((with_reducible refine at_dst 30 ?_ ?_); (focus rfl); ((refine no_implicit_lambda% (r0zCnoP ?_)); (try clear hc ht hv); (try clear e7 e8); clear hS; intro c b w hS hx; (try clear hx); intro hc ht hv; (refine no_implicit_lambda% (fx6affe ?_)); intro e7 e8))
              | ((with_reducible refine at_dst 38 ?_ ?_); (focus rfl); ((refine no_implicit_lambda% (r1zCnoP ?_)); (try clear hc ht hv); (try clear e7 e8); clear hS; intro c b w hS hx; (try clear hx); intro hc ht hv; (refine no_implicit_lambda% (fx6affe ?_)); intro e7 e8))
              | ((with_reducible refine at_dst 35 ?_ ?_); (focus rfl); ((refine no_implicit_lambda% (apzC ?_)); (try clear hc ht hv); (try clear e7 e8); clear hS; intro c A35 d35 w hS hx; (try clear hx); intro hc ht hv; (refine no_implicit_lambda% (fx6affe ?_)); intro e7 e8))
              | ((with_reducible refine at_dst 39 ?_ ?_); (focus rfl); ((refine no_implicit_lambda% (apzC ?_)); (try clear hc ht hv); (try clear e7 e8); clear hS; intro c A39 d39 w hS hx; (try clear hx); intro hc ht hv; (refine no_implicit_lambda% (fx6affe ?_)); intro e7 e8))
              | ((with_reducible refine at_dst 45 ?_ ?_); (focus rfl); ((refine no_implicit_lambda% (apzC ?_)); (try clear hc ht hv); (try clear e7 e8); clear hS; intro c A45 d45 w hS hx; (try clear hx); intro hc ht hv; (refine no_implicit_lambda% (fx6affe ?_)); intro e7 e8))
              | ((refine no_implicit_lambda% (sazR ?_)); (try clear hc ht hv); (try clear e7 e8); clear hS; intro w hS hc ht hv; (refine no_implicit_lambda% (fx6affe ?_)); intro e7 e8)
              | ((refine no_implicit_lambda% (stS ?_)); (try clear hc ht hv); (try clear e7 e8); clear hS; intro w hS hc ht hv; (refine no_implicit_lambda% (fx6affe ?_)); intro e7 e8)))
            | (go_at_call 108; refine (l5IsDone_t hS.tw tyA).mono ?_; rintro e w ⟨bq, rfl, hb⟩; replace hS := hS.past hb; clear hb; (try clear hc ht hv); (try clear e7 e8); (try dsimp only); (refine no_implicit_lambda% (fct ?_)); intro hc ht hv; (refine no_implicit_lambda% (fx6affe ?_)); intro e7 e8; cases bq)
            | ((refine no_implicit_lambda% (rgspecl5Finish4 ?_)); (try clear hc ht hv); (try clear e7 e8); clear hS; intro hS hc ht hv; (refine no_implicit_lambda% (fx6affe ?_)); intro e7 e8)
            | ((with_reducible refine wpOF_both ?_ ?_) <;> (refine no_implicit_lambda% (pk_ ?_))) | ((with_reducible refine wpOF_three ?_ ?_ ?_) <;> (refine no_implicit_lambda% (pk_ ?_))) | ((with_reducible refine MS.and_ ?_ ?_); (focus (exact msA)); intro hM) | (refine no_implicit_lambda% (ofS ?_)) | ((refine no_implicit_lambda% (ofK ?_)); intro K hK) | (refine no_implicit_lambda% (ofL ?_)) | ((refine no_implicit_lambda% (ofM ?_)); intro K hK) | ((refine no_implicit_lambda% (ofX ?_)); intro K hK) | (refine no_implicit_lambda% (ofN ?_)) | ((with_reducible apply wpT_split); (focus rfl); (focus rfl); (focus rfl); all_goals (intro hxx; simp only [hxx]))
            | fail)
        all_goals (exact no_implicit_lambda% fRep4)
      | some ad =>
        have hz : i = 0 ∨ 0 < i := by omega
        rcases g7 with g7 | ⟨g, q, n', d', N, hh1, hh2, hh3, hh4, hh5⟩
        · cases g7
        · injection hh1 with hh6 hh7 hh8
          injection hh6 with hh6
          subst hh6; subst hh7; subst hh8
          have g7 : SlV c0 27 (.slice (some ⟨g, q * isz 27, none⟩) i d3) := .inr ⟨g, q, i, d3, N, rfl, hh2, hh3, hh4, hh5⟩
          have s20 : SlV c0 27 (.slice (some ⟨g, q * isz 27, none⟩) 0 0) := .inr ⟨g, q, 0, 0, N, rfl, Nat.le_refl _, by simp [maxLen], hh4, by omega⟩
          generalize q * isz 27 = off at *
          by_cases hdk : d3 = i
          · subst hdk
            have s2 := s20
            (try clear hc ht hv); (refine no_implicit_lambda% (fct ?_)); intro hc ht hv; (refine no_implicit_lambda% (fx6affe ?_)); intro e7 e8
            go_wp2_with (first
                | ((refine no_implicit_lambda% (hdE ?_)); intro K hK; (first
                  | ((with_reducible refine at_dst 2 ?_ ?_); (focus rfl); (refine no_implicit_lambda% (aB ?_)); (try clear hc ht hv); (try clear e7 e8); clear hS; intro b2 w hS hc ht hv; (refine no_implicit_lambda% (fx6affe ?_)); intro e7 e8)
                  | ((with_reducible refine at_dst 3 ?_ ?_); (focus rfl); (refine no_implicit_lambda% (aB ?_)); (try clear hc ht hv); (try clear e7 e8); clear hS; intro b3 w hS hc ht hv; (refine no_implicit_lambda% (fx6affe ?_)); intro e7 e8)
                  | ((with_reducible refine at_dst 4 ?_ ?_); (focus rfl); (refine no_implicit_lambda% (alzR ?_)); (try clear hc ht hv); (try clear e7 e8); clear hS; intro b4 w hS hc ht hv; (refine no_implicit_lambda% (fx6affe ?_)); intro e7 e8)
                  | ((with_reducible refine at_dst 30 ?_ ?_); (focus rfl); ((refine no_implicit_lambda% (r0zCnoP ?_)); (try clear hc ht hv); (try clear e7 e8); clear hS; intro c b w hS hx; (try clear hx); intro hc ht hv; (refine no_implicit_lambda% (fx6affe ?_)); intro e7 e8))
                  | ((with_reducible refine at_dst 38 ?_ ?_); (focus rfl); ((refine no_implicit_lambda% (r1zCnoP ?_)); (try clear hc ht hv); (try clear e7 e8); clear hS; intro c b w hS hx; (try clear hx); intro hc ht hv; (refine no_implicit_lambda% (fx6affe ?_)); intro e7 e8))
                  | ((with_reducible refine at_dst 35 ?_ ?_); (focus rfl); ((refine no_implicit_lambda% (apzC ?_)); (try clear hc ht hv); (try clear e7 e8); clear hS; intro c A35 d35 w hS hx; (try clear hx); intro hc ht hv; (refine no_implicit_lambda% (fx6affe ?_)); intro e7 e8))
                  | ((with_reducible refine at_dst 39 ?_ ?_); (focus rfl); ((refine no_implicit_lambda% (apzC ?_)); (try clear hc ht hv); (try clear e7 e8); clear hS; intro c A39 d39 w hS hx; (try clear hx); intro hc ht hv; (refine no_implicit_lambda% (fx6affe ?_)); intro e7 e8))
                  | ((with_reducible refine at_dst 45 ?_ ?_); (focus rfl); ((refine no_implicit_lambda% (apzC ?_)); (try clear hc ht hv); (try clear e7 e8); clear hS; intro c A45 d45 w hS hx; (try clear hx); intro hc ht hv; (refine no_implicit_lambda% (fx6affe ?_)); intro e7 e8))
                  | ((refine no_implicit_lambda% (sazR ?_)); (try clear hc ht hv); (try clear e7 e8); clear hS; intro w hS hc ht hv; (refine no_implicit_lambda% (fx6affe ?_)); intro e7 e8)
                  | ((refine no_implicit_lambda% (stS ?_)); (try clear hc ht hv); (try clear e7 e8); clear hS; intro w hS hc ht hv; (refine no_implicit_lambda% (fx6affe ?_)); intro e7 e8)))
                | (go_at_call 108; refine (l5IsDone_t hS.tw tyA).mono ?_; rintro e w ⟨bq, rfl, hb⟩; replace hS := hS.past hb; clear hb; (try clear hc ht hv); (try clear e7 e8); (try dsimp only); (refine no_implicit_lambda% (fct ?_)); intro hc ht hv; (refine no_implicit_lambda% (fx6affe ?_)); intro e7 e8; cases bq)
                | ((refine no_implicit_lambda% (rgspecl5Finish4 ?_)); (try clear hc ht hv); (try clear e7 e8); clear hS; intro hS hc ht hv; (refine no_implicit_lambda% (fx6affe ?_)); intro e7 e8)
                | ((with_reducible refine wpOF_both ?_ ?_) <;> (refine no_implicit_lambda% (pk_ ?_))) | ((with_reducible refine wpOF_three ?_ ?_ ?_) <;> (refine no_implicit_lambda% (pk_ ?_))) | ((with_reducible refine MS.and_ ?_ ?_); (focus (exact msA)); intro hM) | (refine no_implicit_lambda% (ofS ?_)) | ((refine no_implicit_lambda% (ofK ?_)); intro K hK) | (refine no_implicit_lambda% (ofL ?_)) | ((refine no_implicit_lambda% (ofM ?_)); intro K hK) | ((refine no_implicit_lambda% (ofX ?_)); intro K hK) | (refine no_implicit_lambda% (ofN ?_)) | ((with_reducible apply wpT_split); (focus rfl); (focus rfl); (focus rfl); all_goals (intro hxx; simp only [hxx]))
                | fail)
            all_goals (exact no_implicit_lambda% fRep4)
          · have s2 : SlV c0 27 (.slice (some ⟨g, off + i * 7, none⟩) 0 (d3 - i)) := (by
              have := g7.drop_ (Nat.le_refl _)
              rw [Nat.sub_self] at this
              exact this)
            (try clear hc ht hv); (refine no_implicit_lambda% (fct ?_)); intro hc ht hv; (refine no_implicit_lambda% (fx6affe ?_)); intro e7 e8
            go_wp2_with (first
                | ((refine no_implicit_lambda% (hdE ?_)); intro K hK; (first
                  | ((with_reducible refine at_dst 2 ?_ ?_); (focus rfl); (refine no_implicit_lambda% (aB ?_)); (try clear hc ht hv); (try clear e7 e8); clear hS; intro b2 w hS hc ht hv; (refine no_implicit_lambda% (fx6affe ?_)); intro e7 e8)
                  | ((with_reducible refine at_dst 3 ?_ ?_); (focus rfl); (refine no_implicit_lambda% (aB ?_)); (try clear hc ht hv); (try clear e7 e8); clear hS; intro b3 w hS hc ht hv; (refine no_implicit_lambda% (fx6affe ?_)); intro e7 e8)
                  | ((with_reducible refine at_dst 4 ?_ ?_); (focus rfl); (refine no_implicit_lambda% (alzR ?_)); (try clear hc ht hv); (try clear e7 e8); clear hS; intro b4 w hS hc ht hv; (refine no_implicit_lambda% (fx6affe ?_)); intro e7 e8)
                  | ((with_reducible refine at_dst 30 ?_ ?_); (focus rfl); ((refine no_implicit_lambda% (r0zCnoP ?_)); (try clear hc ht hv); (try clear e7 e8); clear hS; intro c b w hS hx; (try clear hx); intro hc ht hv; (refine no_implicit_lambda% (fx6affe ?_)); intro e7 e8))
                  | ((with_reducible refine at_dst 38 ?_ ?_); (focus rfl); ((refine no_implicit_lambda% (r1zCnoP ?_)); (try clear hc ht hv); (try clear e7 e8); clear hS; intro c b w hS hx; (try clear hx); intro hc ht hv; (refine no_implicit_lambda% (fx6affe ?_)); intro e7 e8))
                  | ((with_reducible refine at_dst 35 ?_ ?_); (focus rfl); ((refine no_implicit_lambda% (apzC ?_)); (try clear hc ht hv); (try clear e7 e8); clear hS; intro c A35 d35 w hS hx; (try clear hx); intro hc ht hv; (refine no_implicit_lambda% (fx6affe ?_)); intro e7 e8))
                  | ((with_reducible refine at_dst 39 ?_ ?_); (focus rfl); ((refine no_implicit_lambda% (apzC ?_)); (try clear hc ht hv); (try clear e7 e8); clear hS; intro c A39 d39 w hS hx; (try clear hx); intro hc ht hv; (refine no_implicit_lambda% (fx6affe ?_)); intro e7 e8))
                  | ((with_reducible refine at_dst 45 ?_ ?_); (focus rfl); ((refine no_implicit_lambda% (apzC ?_)); (try clear hc ht hv); (try clear e7 e8); clear hS; intro c A45 d45 w hS hx; (try clear hx); intro hc ht hv; (refine no_implicit_lambda% (fx6affe ?_)); intro e7 e8))
                  | ((refine no_implicit_lambda% (sazR ?_)); (try clear hc ht hv); (try clear e7 e8); clear hS; intro w hS hc ht hv; (refine no_implicit_lambda% (fx6affe ?_)); intro e7 e8)
                  | ((refine no_implicit_lambda% (stS ?_)); (try clear hc ht hv); (try clear e7 e8); clear hS; intro w hS hc ht hv; (refine no_implicit_lambda% (fx6affe ?_)); intro e7 e8)))
                | (go_at_call 108; refine (l5IsDone_t hS.tw tyA).mono ?_; rintro e w ⟨bq, rfl, hb⟩; replace hS := hS.past hb; clear hb; (try clear hc ht hv); (try clear e7 e8); (try dsimp only); (refine no_implicit_lambda% (fct ?_)); intro hc ht hv; (refine no_implicit_lambda% (fx6affe ?_)); intro e7 e8; cases bq)
                | ((refine no_implicit_lambda% (rgspecl5Finish4 ?_)); (try clear hc ht hv); (try clear e7 e8); clear hS; intro hS hc ht hv; (refine no_implicit_lambda% (fx6affe ?_)); intro e7 e8)
                | ((with_reducible refine wpOF_both ?_ ?_) <;> (refine no_implicit_lambda% (pk_ ?_))) | ((with_reducible refine wpOF_three ?_ ?_ ?_) <;> (refine no_implicit_lambda% (pk_ ?_))) | ((with_reducible refine MS.and_ ?_ ?_); (focus (exact msA)); intro hM) | (refine no_implicit_lambda% (ofS ?_)) | ((refine no_implicit_lambda% (ofK ?_)); intro K hK) | (refine no_implicit_lambda% (ofL ?_)) | ((refine no_implicit_lambda% (ofM ?_)); intro K hK) | ((refine no_implicit_lambda% (ofX ?_)); intro K hK) | (refine no_implicit_lambda% (ofN ?_)) | ((with_reducible apply wpT_split); (focus rfl); (focus rfl); (focus rfl); all_goals (intro hxx; simp only [hxx]))
                | fail)
            all_goals (exact no_implicit_lambda% fRep4)
end
end Go.Proofs.Ytopmbnnjhoinkaa
