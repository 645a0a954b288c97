/-
  slices.Insert, slices.Delete at figures. (Printed by gen_hp.py.)
  Conditions: none.
-/
import Derived.Test.YtajmfonepnkofaaDoorHO
import Derived.Test.YtajmfonepnkofaaDoorBaseC
namespace Go.Proofs.YtajmfonepnkofaaDoor
open Go.RowKit Rg
set_option linter.unusedVariables false
set_option linter.unusedSimpArgs false

theorem zeroEnt : (Value.agg #[.int .i64 0, .int .i64 0, .int .i64 0, .int .i64 0, .int .i64 0]).cells.toList = encEnt ent0 := rfl
theorem ins_splice {α : Type} (es : List α) (i n : Nat) (t : α) (hlen : es.length = n) (hi : i < n) (z : α) :
    List.take (i + 1) (es.take i ++ t :: List.replicate (n - i) z) ++ es.drop i ++ List.drop (i + 1 + (es.drop i).length) (es.take i ++ t :: List.replicate (n - i) z) = es.take i ++ t :: es.drop i := by
  have h1 : (es.take i).length = i := by rw [List.length_take]; omega
  have e1 : es.take i ++ t :: List.replicate (n - i) z = (es.take i ++ [t]) ++ List.replicate (n - i) z := by simp
  have h2 : (es.take i ++ [t]).length = i + 1 := by rw [List.length_append, h1]; rfl
  have h3 : (es.drop i).length = n - i := by rw [List.length_drop, hlen]
  have h4 : List.drop (i + 1 + (es.drop i).length) ((es.take i ++ [t]) ++ List.replicate (n - i) z) = [] := List.drop_of_length_le (by rw [List.length_append, h2, List.length_replicate, h3]; omega)
  rw [e1, List.take_left' h2, h4, List.append_nil, List.append_assoc]
  rfl
set_option maxRecDepth 100000 in
set_option maxHeartbeats 1000000 in
theorem Insert_c (A : Option Addr) (n lo i : Nat) (es : List EntT) (t : EntT) (vb : Nat) (w : World) (ho : Own encEnt 5 82 w lo (.slice A n n) es) (hi : i ≤ n) (hn4 : n ≤ 4) (hlo : lo ≤ w.heap.size) (hv : Sl encEnt 5 w 0 w.heap.size (some ⟨vb, 0, none⟩) [t]) :
    Calls Tryd.prog 71 #[.slice A n n, .int .i64 (i : Int), .slice (some ⟨vb, 0, none⟩) 1 1] w fun e w' => ∃ v, e = .returned v ∧ Own encEnt 5 82 w' lo v (es.take i ++ t :: es.drop i) ∧ Only w.heap.size (Value.slice A n n).ownBlock w w' := by
  have hl := hide ho.lenEq
  by_cases hin : i = n
  · subst hin
    have e1 : es.take i ++ t :: es.drop i = es ++ [t] := by rw [List.take_of_length_le (by rw [← hl.out]; omega), List.drop_of_length_le (by rw [← hl.out]; omega)]
    rw [e1]
    clear e1
    have hA := hide (fun (h : 0 < i) => ho.addrAt h)
    cases A with
    | none =>
      obtain rfl : i = 0 := by
        rcases Nat.eq_zero_or_pos i with h | h
        · exact h
        · obtain ⟨g, hg, _⟩ := hA.out h; cases hg
      clear hA
      go_enter Tryd.func71, Tryd.ntmps71
      go_wp2_with (first
        | (at_builtin; refine wpList_app encEnt_len (by omega) encEnt_one rfl _ _ 33 rfl 82 _ 40 Tryd.underlying33 infoEnt rfl lo _ es rfl ho 0 w.heap.size _ [t] _ _ rfl rfl hv (by have := hl.out; simp [maxLen]; omega) hlo ?_)
        | fail)
      intro v' w' ho' hg' hb'
      go_wp2
      go_ret
      exact ⟨_, rfl, ho', Only.of_grown hg'⟩
    | some ad =>
      obtain ⟨g, hg⟩ : ∃ g, ad = ⟨g, 0, none⟩ := by
        rcases ho with ⟨h, _⟩ | ⟨g, cap, cur, h, _⟩
        · cases h
        · injection h with h1 h2 h3; injection h1 with h1; exact ⟨g, h1⟩
      subst hg
      go_enter Tryd.func71, Tryd.ntmps71
      go_wp2_with (first
        | (at_builtin; refine wpList_app encEnt_len (by omega) encEnt_one rfl _ _ 33 rfl 82 _ 40 Tryd.underlying33 infoEnt rfl lo _ es rfl ho 0 w.heap.size _ [t] _ _ rfl rfl hv (by have := hl.out; simp [maxLen]; omega) hlo ?_)
        | fail)
      all_goals
        intro v' w' ho' hg' hb'
        go_wp2
        go_ret
        exact ⟨_, rfl, ho', Only.of_grown hg'⟩
  · have hlt : i < n := by omega
    obtain ⟨g, rfl, hg1, hg2⟩ := ho.addrAt (show 0 < n by omega)
    have hlx : es.length = n := hl.out.symm
    have hs := hide (ho.slAt encEnt_len).2.2
    have hne1 : ((i : Int) == (n : Int)) = false := by simp; omega
    have hgt : decide ((n : Int) < (n : Int) + 1) = true := by simp; omega
    have hk : ((n : Int) + 1 - (i : Int)) = ((n + 1 - i : Nat) : Int) := by omega
    have htk : Hid (i = (es.take i).length) := hide (by rw [List.length_take]; omega)
    have hdl : Hid (n - i = (es.drop i).length) := hide (by rw [List.length_drop, hlx])
    have hlx' := hide hlx
    clear hlx
    go_enter Tryd.func71, Tryd.ntmps71
    go_wp2_with (first
      | (at_builtin; refine wpList_plain rfl fun _ hK => wp_appZ encEnt_len (by omega) _ _ 33 3 rfl _ 40 .i64 .i64 Tryd.underlying33 Tryd.underlying3 infoEnt ent0 zeroEnt lo w.heap.size (some ⟨g, 0, none⟩) (es.take i) i n (n + 1 - i) rfl htk.out (hs.out.take_ i) rfl (by omega) (by omega) hlo (by simp only [maxLen]; omega) ?_; intro cp w3 ho3 hb3 hz3; (rw [show i + (n + 1 - i) = n + 1 by omega] at ho3 ⊢); have hcp := ho3.cap; have hcp1 := hcp.1; have hcp2 := hcp.2; (unfold maxLen at hcp2); clear hcp; refine hK _ _ ?_)
      | (refine wpList_plain rfl fun _ hK => wp_copyO encEnt_len (by omega) encEnt_one _ _ 33 rfl _ 40 Tryd.underlying33 infoEnt w.heap.size (n + 1) cp _ ho3 i (n + 1 - i) (cp - i) rfl 0 w.heap.size (some ⟨vb, 0, none⟩) [t] 1 1 rfl rfl (hv.below hb3 (Nat.le_refl _)) ⟨by simp; omega, by simp; omega⟩ ?_; intro w4 ho4 hb4 hz4; refine hK _ _ ?_)
      | fail)
    have hx4 : Hid (List.take i (List.take i es ++ List.replicate (n + 1 - i) ent0) ++ [t] ++ List.drop (i + [t].length) (List.take i es ++ List.replicate (n + 1 - i) ent0) = es.take i ++ t :: List.replicate (n - i) ent0) := hide (by
      have h1 : (es.take i).length = i := htk.out.symm
      rw [List.take_append, h1, Nat.sub_self, List.take_zero, List.append_nil, List.take_of_length_le (by omega), List.drop_append, h1, List.drop_of_length_le (by rw [h1]; simp), List.nil_append, List.drop_replicate, List.append_assoc]
      congr 2
      simp
      omega)
    rw [hx4.out] at ho4
    have hb34 : Below w.heap.size w w4 := hb3.trans (hb4.toBelow (by omega) (fun k hk => by injection hk with hk; omega))
    have hsd : Hid (Sl encEnt 5 w4 0 w.heap.size (some ⟨g, i * 5, none⟩) (es.drop i)) := hide (by
      have h1 := ((hs.out.rdn encEnt_len hlx'.out.symm (Nat.le_refl _) (by simp only [maxLen]; omega)).drop_ i hi).sl
      rw [Nat.zero_add] at h1
      exact (h1.below hb34 (Nat.le_refl _)).mono (Nat.zero_le _) (Nat.le_refl _))
    go_wp2
    refine wp_region_T (fun _ => True) [] [] [] [0, 1, 2, 3, 4, 5, 6, 7, 8] (by kernel_rfl) (by kernel_rfl) (by kernel_rfl) trivial ?_; simp only [pickL, List.getElem?_cons_succ, List.getElem?_cons_zero]
    go_wp2_with (first
      | ((first | (with_reducible refine wpT_x0 ?_ ?_ ?_) | (with_reducible refine wpT_xs0 ?_ ?_ ?_)); (focus rfl); (focus rfl); intro K hK; refine wp_copyO encEnt_len (by omega) encEnt_one _ _ 33 rfl _ 40 Tryd.underlying33 infoEnt w.heap.size (n + 1) cp _ ho4.drew (i + 1) _ _ rfl 0 w.heap.size (some ⟨g, i * 5, none⟩) (es.drop i) (n - i) (n - i) rfl hdl.out (show Sl encEnt 5 w4.drew 0 w.heap.size (some ⟨g, i * 5, none⟩) (es.drop i) from hsd.out) ⟨by have := hdl.out; omega, by have := hdl.out; omega⟩ ?_; intro w5 ho5 hb5 hz5; have hK := hK)
      | ((with_reducible refine wpT_q0 ?_ ?_ ?_ ?_); (focus rfl); (focus rfl); (focus rfl); intro K hK) | ((with_reducible refine wpT_x0 ?_ ?_ ?_); (focus rfl); (focus rfl); intro K hK) | ((with_reducible refine wpT_noL ?_ ?_); (focus (first | exact wanted_no _ _ _ rfl rfl rfl | exact wanted_un _ _ _ rfl rfl rfl)); simp only [setO, List.set_cons_succ, List.set_cons_zero]) | ((with_reducible refine wpT_q1 ?_ ?_ ?_ ?_); (focus exact wanted_yes _ _ _ rfl rfl rfl); (focus rfl); (focus rfl); intro K hK) | ((with_reducible refine wpT_x1 ?_ ?_ ?_); (focus exact wanted_yes _ _ _ rfl rfl rfl); (focus rfl); intro K hK) | ((with_reducible refine wpT_nil ?_); try dsimp only)
      | fail)
    go_ret
    refine ⟨_, rfl, ?_, ?_⟩
    · rw [ins_splice es i n t hlx'.out hlt ent0] at ho5
      exact ho5
    · have hb5' : Only w4.heap.size (some w.heap.size) w4 w5 := ⟨hb5.os, hb5.tape, hb5.output, hb5.size, hb5.block⟩
      have hz34 := hb34.size
      exact Only.of_below (hb34.trans (hb5'.toBelow hz34 (fun k hk => by injection hk with hk; omega)))

set_option maxRecDepth 100000 in
set_option maxHeartbeats 1000000 in
theorem Delete_c (g n lo i : Nat) (es : List EntT) (w : World) (ho : Own encEnt 5 82 w lo (.slice (some ⟨g, 0, none⟩) n n) es) (hi : i < n) (hn4 : n ≤ 4) :
    Calls Tryd.prog 74 #[.slice (some ⟨g, 0, none⟩) n n, .int .i64 (i : Int), .int .i64 ((i : Int) + 1)] w fun e w' => e = .returned (.slice (some ⟨g, 0, none⟩) (n - 1) n) ∧ Own encEnt 5 82 w' lo (.slice (some ⟨g, 0, none⟩) (n - 1) n) (es.eraseIdx i) ∧ Only w.heap.size (some g) w w' := by
  have hl := hide ho.lenEq
  have hlx : es.length = n := hl.out.symm
  have hct := ho.cutTo encEnt_len (Nat.le_of_lt hi)
  have hs := (ho.slAt encEnt_len).2.2
  have hE : Hid (es.take i ++ es.drop (i + 1) = es.eraseIdx i) := hide (sl_take_drop es i)
  have hdl : Hid (n - (i + 1) = (es.drop (i + 1)).length) := hide (by rw [List.length_drop, hlx])
  have hne : ((i : Int) == (i : Int) + 1) = false := by simp; omega
  have hsd0 := ((hs.rdn encEnt_len hlx.symm (Nat.le_refl _) (by simp only [maxLen]; omega)).drop_ (i + 1) (by omega)).sl
  rw [Nat.zero_add] at hsd0
  have hsd : Hid (Sl encEnt 5 w lo w.heap.size (some ⟨g, (i + 1) * 5, none⟩) (es.drop (i + 1))) := hide hsd0
  have hcth := hide hct
  have hlxh := hide hlx
  clear hct hlx hsd0 hs ho
  by_cases hi1 : i + 1 = n
  · subst hi1
    have hdn : Hid (es.drop (i + 1) = []) := hide (List.eq_nil_of_length_eq_zero (by rw [← hdl.out]; omega))
    have hx1 : Hid (es.eraseIdx i = es.take i) := hide (by rw [← hE.out, hdn.out, List.append_nil])
    go_enter Tryd.func74, Tryd.ntmps74
    go_wp2
    refine wp_region_T (fun _ => True) [] [] [] [0, 1, 2, 3, 4, 5, 6, 7] (by kernel_rfl) (by kernel_rfl) (by kernel_rfl) trivial ?_; simp only [pickL, List.getElem?_cons_succ, List.getElem?_cons_zero]
    go_wp2_with (first
      | ((with_reducible refine wpT_q0 ?_ ?_ ?_ ?_); (focus rfl); (focus rfl); (focus rfl); intro K hK) | ((with_reducible refine wpT_x0 ?_ ?_ ?_); (focus rfl); (focus rfl); intro K hK) | ((with_reducible refine wpT_noL ?_ ?_); (focus (first | exact wanted_no _ _ _ rfl rfl rfl | exact wanted_un _ _ _ rfl rfl rfl)); simp only [setO, List.set_cons_succ, List.set_cons_zero]) | ((with_reducible refine wpT_q1 ?_ ?_ ?_ ?_); (focus exact wanted_yes _ _ _ rfl rfl rfl); (focus rfl); (focus rfl); intro K hK) | ((with_reducible refine wpT_x1 ?_ ?_ ?_); (focus exact wanted_yes _ _ _ rfl rfl rfl); (focus rfl); intro K hK) | ((with_reducible refine wpT_nil ?_); try dsimp only)
      | (refine wpList_plain rfl fun _ hK => wp_clearO encEnt_len (by omega) (z0 := encEnt ent0) (encEnt_one ent0) _ 33 rfl _ 40 Tryd.underlying33 infoEnt zeroEnt rfl g i (i + 1) 1 1 (es.take i) rfl hcth.out.drew (by omega) (by omega) ?_; intro w4 ho4 hb4 hz4; refine hK _ _ ?_)
      | fail)
    go_ret
    exact ⟨rfl, by rw [hx1.out]; exact ho4, ⟨hb4.os, hb4.tape, hb4.output, hb4.size, hb4.block⟩⟩
  · go_enter Tryd.func74, Tryd.ntmps74
    go_wp2
    refine wp_region_T (fun _ => True) [] [] [] [0, 1, 2, 3, 4, 5, 6, 7] (by kernel_rfl) (by kernel_rfl) (by kernel_rfl) trivial ?_; simp only [pickL, List.getElem?_cons_succ, List.getElem?_cons_zero]
    go_wp2_with (first
      | ((first | (with_reducible refine wpT_x0 ?_ ?_ ?_) | (with_reducible refine wpT_xs0 ?_ ?_ ?_)); (focus rfl); (focus rfl); intro K hK; refine wp_appR encEnt_len (by omega) encEnt_one _ _ 33 rfl _ 40 Tryd.underlying33 infoEnt g i n (es.take i) rfl hcth.out.drew lo w.heap.size (some ⟨g, (i + 1) * 5, none⟩) (es.drop (i + 1)) (n - (i + 1)) (n - (i + 1)) rfl hdl.out (show Sl encEnt 5 w.drew lo w.heap.size (some ⟨g, (i + 1) * 5, none⟩) (es.drop (i + 1)) from hsd.out) (by omega) ?_; intro w3 ho3 hb3 hz3; (rw [show i + (n - (i + 1)) = n - 1 by omega] at ho3 ⊢); (rw [hE.out] at ho3); have hK := hK)
      | ((with_reducible refine wpT_q0 ?_ ?_ ?_ ?_); (focus rfl); (focus rfl); (focus rfl); intro K hK) | ((with_reducible refine wpT_x0 ?_ ?_ ?_); (focus rfl); (focus rfl); intro K hK) | ((with_reducible refine wpT_noL ?_ ?_); (focus (first | exact wanted_no _ _ _ rfl rfl rfl | exact wanted_un _ _ _ rfl rfl rfl)); simp only [setO, List.set_cons_succ, List.set_cons_zero]) | ((with_reducible refine wpT_q1 ?_ ?_ ?_ ?_); (focus exact wanted_yes _ _ _ rfl rfl rfl); (focus rfl); (focus rfl); intro K hK) | ((with_reducible refine wpT_x1 ?_ ?_ ?_); (focus exact wanted_yes _ _ _ rfl rfl rfl); (focus rfl); intro K hK) | ((with_reducible refine wpT_nil ?_); try dsimp only)
      | (refine wpList_plain rfl fun _ hK => wp_clearO encEnt_len (by omega) (z0 := encEnt ent0) (encEnt_one ent0) _ 33 rfl _ 40 Tryd.underlying33 infoEnt zeroEnt rfl g (n - 1) n (n - (n - 1)) (n - (n - 1)) (es.eraseIdx i) rfl ho3 (by omega) (by omega) ?_; intro w4 ho4 hb4 hz4; refine hK _ _ ?_)
      | fail)
    go_ret
    have hb3' : Only w.heap.size (some g) w w3 := ⟨hb3.os, hb3.tape, hb3.output, hb3.size, hb3.block⟩
    exact ⟨rfl, ho4, hb3'.trans (hb4.mono (by simp only [World.size_drew] at hz3; omega))⟩
end Go.Proofs.YtajmfonepnkofaaDoor
