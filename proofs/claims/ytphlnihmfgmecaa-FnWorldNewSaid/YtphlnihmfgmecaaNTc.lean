/-
  New worlds in both packages.
  Conditions: none.
-/
import Derived.Test.YtphlnihmfgmecaaNTa
import Derived.Test.YtphlnihmfgmecaaNW
import Derived.Test.YtphlnihmfgmecaaRegA
namespace Go.Proofs.Ytphlnihmfgmecaa
open Go.RowKit Rg
set_option linter.unusedVariables false
set_option linter.unusedSimpArgs false

/-- The cells of a new keeper. -/
def encN (m : Int) : List Value := [.int .i64 m, .int .i64 0, .bool true, .int .i64 1, .slice none 0 0, .slice none 0 0, .slice none 0 0]
theorem encN_len (m : Int) : (encN m).length = 7 := rfl
theorem encN_one (m : Int) : ∀ u ∈ encN m, u.oneCell' = true := by
  intro u hu; simp [encN] at hu; rcases hu with rfl | rfl | rfl | rfl | rfl <;> rfl
theorem infoRep : (Try.prog.info? 39).map (fun i => (i.zero, i.size, i.bytes)) = some (some (.agg #[.int .i64 0, .int .i64 0, .bool false, .int .i64 0, .slice none 0 0, .slice none 0 0, .slice none 0 0]), 7, 104) := by kernel_rfl
def upTo (k : Nat) : List Int := (List.range k).map fun (i : Nat) => (i : Int)
theorem upTo_len (k : Nat) : (upTo k).length = k := by simp [upTo]
theorem upTo_succ (k : Nat) : upTo (k + 1) = upTo k ++ [(k : Int)] := by simp [upTo, List.range_succ]
/-- A box that holds a world whose letters are none. -/
def NBox (w : World) (b : Nat) (bad : Int) (A : Option Addr) (n c : Nat) : Prop := w.heap[b]? = some (.cells #[.int .i64 bad, .slice A n c, .slice none 0 0] 46 (0, 0))
theorem NBox.lt {w : World} {b n c : Nat} {bad : Int} {A : Option Addr} (h : NBox w b bad A n c) : b < w.heap.size := lt_of_heap h
theorem NBox.below {w w' : World} {b n c : Nat} {bad : Int} {A : Option Addr} {K : Nat} (h : NBox w b bad A n c) (hb : Below K w w') (hK : b < K) : NBox w' b bad A n c := (hb.block b hK).trans h
theorem NBox.other {w : World} {b d j n c : Nat} {bad : Int} {A : Option Addr} (h : NBox w b bad A n c) (hne : b ≠ d) (u : Value) : NBox (w.setCell ⟨d, j, none⟩ u) b bad A n c := (Below.heap_setCell w ⟨d, j, none⟩ u b hne).trans h
theorem NBox.set {w : World} {b n c n' c' : Nat} {bad : Int} {A A' : Option Addr} (h : NBox w b bad A n c) : NBox (w.setCell ⟨b, 1, none⟩ (.slice A' n' c')) b bad A' n' c' := by
  obtain ⟨cur', k1, k2, k3⟩ := heap_putCells [.slice A' n' c'] w b 1 _ _ h (by simp)
  have k4 : cur' = #[.int .i64 bad, .slice A' n' c', .slice none 0 0] := by
    apply Array.toList_inj.1
    rw [k3]
    rfl
  rw [k4] at k1
  exact k1
theorem NBox.cells {w : World} {b n c : Nat} {bad : Int} {A : Option Addr} (h : NBox w b bad A n c) : w.cell? ⟨b, 0, none⟩ = some (.int .i64 bad) ∧ w.cell? ⟨b, 1, none⟩ = some (.slice A n c) ∧ w.cell? ⟨b, 2, none⟩ = some (.slice none 0 0) ∧ w.frozen? ⟨b, 0, none⟩ = false ∧ w.frozen? ⟨b, 1, none⟩ = false ∧ w.frozen? ⟨b, 2, none⟩ = false := by
  have h' : w.heap[b]? = _ := h
  exact ⟨by simp [World.cell?, h'], by simp [World.cell?, h'], by simp [World.cell?, h'], by simp [World.frozen?, h'], by simp [World.frozen?, h'], by simp [World.frozen?, h']⟩
theorem clone1Rep_c (A : Option Addr) (n c lo hi : Nat) (xs : List Int) (w : World) (hn : n = xs.length) (hb : n ≤ 1048576) (hs : Sl encN 7 w lo hi A xs) (hhi : hi ≤ w.heap.size) :
    Calls Try.prog 148 #[.slice A n c] w fun e w' => ∃ v, e = .returned v ∧ Own encN 7 39 w' w.heap.size v xs ∧ Below w.heap.size w w' := by
  have hn' := hide hn
  clear hn
  cases A with
  | none =>
    have hx : xs = [] := by
      by_cases h : xs = []
      · exact h
      · obtain ⟨_, _, h1, _⟩ := hs h; cases h1
    subst hx
    obtain rfl : n = 0 := hn'.out
    have he := fun (w : World) (c : Nat) => Lib.run_eql_slice_nil (P := Try.prog) w 44 39 none 0 c 0 0 Try.underlying44
    go_enter Try.func148, Try.ntmps148
    go_wp2
    go_ret
    exact ⟨_, rfl, Own.nil_ _ _ _ _ _, Below.refl _ _⟩
  | some ad =>
    have he := fun (w : World) (c : Nat) => Lib.run_eql_slice_nil (P := Try.prog) w 44 39 (some ad) n c 0 0 Try.underlying44
    go_enter Try.func148, Try.ntmps148
    go_wp2_with (at_builtin; refine wpList_app encN_len (by omega) encN_one rfl _ _ 44 rfl 39 _ 104 Try.underlying44 infoRep rfl w.heap.size _ [] rfl (own_empty encN 7 _ w) lo hi _ xs _ _ rfl hn'.out ?h1 ?h2 ?h3 ?_)
    case h1 => exact hs.below ((Below.refl hi w).alloc hhi _) (Nat.le_refl _)
    case h2 => have := hn'.out; simp [maxLen]; omega
    case h3 => simp
    intro v' w1 ho hg hb1
    go_wp2
    go_ret
    exact ⟨_, rfl, ho, (Below.refl _ _).trans (((Below.refl _ _).alloc (Nat.le_refl _) _).trans hb1)⟩

theorem clipRep_c (A : Option Addr) (n c : Nat) (w : World) (h0 : n ≤ c) (h1 : c ≤ maxLen) (hA : A = none → n = 0) (hA2 : ∀ a, A = some a → ∃ g, a = ⟨g, 0, none⟩) :
    Calls Try.prog 147 #[.slice A n c] w fun e w' => e = .returned (.slice A n n) ∧ w = w' := by
  unfold maxLen at h1
  cases A with
  | none =>
    obtain rfl := hA rfl
    go_enter Try.func147, Try.ntmps147
    go_wp2
    go_ret
    exact ⟨rfl, rfl⟩
  | some a =>
    obtain ⟨g, rfl⟩ := hA2 a rfl
    clear hA hA2
    go_enter Try.func147, Try.ntmps147
    go_wp2
    go_ret
    exact ⟨rfl, rfl⟩

theorem cloneRep_c (A : Option Addr) (n c lo hi : Nat) (xs : List Int) (w : World) (hn : n = xs.length) (hb : n ≤ 1048576) (hs : Sl encN 7 w lo hi A xs) (hhi : hi ≤ w.heap.size) :
    Calls Try.prog 94 #[.slice A n c] w fun e w' => ∃ A', e = .returned (.slice A' n n) ∧ Own encN 7 39 w' w.heap.size (.slice A' n n) xs ∧ Below w.heap.size w w' := by
  have hn' := hide hn
  clear hn
  go_enter Try.func94, Try.ntmps94
  go_wp2_with fail
  refine (clone1Rep_c A n c lo hi xs w hn'.out hb hs hhi).mono ?_
  rintro e w1 ⟨v, rfl, ho, hb1⟩
  obtain ⟨A', c', rfl, h1, h2, h3⟩ := ho.form
  have hz := ho.clip
  rw [← hn'.out] at h1 hz ho ⊢
  have hcl := clipRep_c A' n c' w1 h1 h2 (by
    rintro rfl
    rcases ho with ⟨h4, h5⟩ | ⟨g, cap, cur, he, _⟩
    · injection h4
    · injection he with he; cases he) (by
    intro a ha
    rcases h3 with h3 | ⟨g, h3, _⟩
    · rw [h3] at ha; cases ha
    · rw [h3] at ha; injection ha with ha; exact ⟨g, ha.symm⟩)
  clear h3 h1 h2
  go_wp2_with fail
  refine hcl.mono ?_
  rintro e w2 ⟨rfl, rfl⟩
  go_wp2
  go_ret
  exact ⟨A', rfl, hz, hb1⟩

theorem keep3 {w w' : World} {v0 v1 v2 v : Value} {xs : List Int} {lo b : Nat} (h : Own encN 7 39 w' lo v xs) (hb : b < lo) : Own encN 7 39 (((w'.setCell ⟨b, 0, none⟩ v0).setCell ⟨b, 1, none⟩ v1).setCell ⟨b, 2, none⟩ v2) lo v xs :=
  h.keep (fun k hk => by
    have := (h.lt k hk).1
    have hne : k ≠ b := by omega
    exact ((Below.heap_setCell _ ⟨b, 2, none⟩ _ k hne).trans (Below.heap_setCell _ ⟨b, 1, none⟩ _ k hne)).trans (Below.heap_setCell _ ⟨b, 0, none⟩ _ k hne))
theorem below3 {w w' : World} {v0 v1 v2 : Value} {b : Nat} (h : Below w.heap.size w w') (hb : w.heap.size ≤ b) : Below w.heap.size w (((w'.setCell ⟨b, 0, none⟩ v0).setCell ⟨b, 1, none⟩ v1).setCell ⟨b, 2, none⟩ v2) := ((h.setCell (p := ⟨b, 0, none⟩) hb _).setCell (p := ⟨b, 1, none⟩) hb _).setCell (p := ⟨b, 2, none⟩) hb _

set_option maxRecDepth 100000 in
set_option maxHeartbeats 2000000 in
theorem l6New_c (bad : Int) (w : World) : Calls Try.prog 95 #[.int .i64 bad] w fun e w' => ∃ (A : Option Addr) (c : Nat), e = .returned (.agg #[.int .i64 bad, .slice A 4 c, .slice none 0 0]) ∧ 4 ≤ c ∧ c ≤ maxLen ∧ Own encN 7 39 w' w.heap.size (.slice A 4 c) (upTo 4) ∧ Below w.heap.size w w' := by
  have hz0 := heap_alloc_new w (.cells #[.int .i64 0, .slice none 0 0, .slice none 0 0] 46)
  have hb0 : Below w.heap.size w ((w.alloc (.cells #[.int .i64 0, .slice none 0 0, .slice none 0 0] 46)).alloc (.cells #[.int .i64 bad, .slice none 0 0, .slice none 0 0] 46)) := ((Below.refl _ _).alloc (Nat.le_refl _) _).alloc (by simp) _
  have hz1 : NBox ((w.alloc (.cells #[.int .i64 0, .slice none 0 0, .slice none 0 0] 46)).alloc (.cells #[.int .i64 bad, .slice none 0 0, .slice none 0 0] 46)) (w.heap.size + 1) bad none 0 0 := by
    have := heap_alloc_new (w.alloc (.cells #[.int .i64 0, .slice none 0 0, .slice none 0 0] 46)) (.cells #[.int .i64 bad, .slice none 0 0, .slice none 0 0] 46)
    simpa [NBox] using this
  have hz2 : NBox ((w.alloc (.cells #[.int .i64 0, .slice none 0 0, .slice none 0 0] 46)).alloc (.cells #[.int .i64 bad, .slice none 0 0, .slice none 0 0] 46)) w.heap.size 0 none 0 0 := (((Below.refl (w.alloc (.cells #[.int .i64 0, .slice none 0 0, .slice none 0 0] 46)).heap.size (w.alloc (.cells #[.int .i64 0, .slice none 0 0, .slice none 0 0] 46))).alloc (Nat.le_refl _) (.cells #[.int .i64 bad, .slice none 0 0, .slice none 0 0] 46)).block _ (by simp)).trans hz0
  have hlen := hide upTo_len
  have hsucc := hide upTo_succ
  go_enter Try.func95, Try.ntmps95
  go_wp2
  generalize ((w.alloc (.cells #[.int .i64 0, .slice none 0 0, .slice none 0 0] 46)).alloc (.cells #[.int .i64 bad, .slice none 0 0, .slice none 0 0] 46)) = w0 at *
  go_loopw [4] (fun kv wr => ∃ (k : Nat) (A : Option Addr) (c : Nat), k ≤ 4 ∧ k ≤ c ∧ c ≤ maxLen ∧ kv = .int .i64 (k : Int) ∧ NBox wr (w.heap.size + 1) bad A k c ∧ NBox wr w.heap.size 0 none 0 0 ∧ Own encN 7 39 wr (w.heap.size + 2) (.slice A k c) (upTo k) ∧ Below w.heap.size w wr) (fun kv _ => 4 - (intOf kv).toNat)
  case atStart => exact ⟨0, none, 0, Nat.zero_le _, Nat.zero_le _, by simp [maxLen], rfl, hz1, hz2, Own.nil_ _ _ _ _ _, hb0⟩
  case round =>
    obtain ⟨k, A, c, hk, hkc, hcm, rfl, hbx, hbz, ho, hbr⟩ := hrel
    have hl1 := hbx.lt
    obtain ⟨x0, x1, x2, f0, f1, f2⟩ := hbx.cells
    by_cases hlt : k < 4
    · have d1 : decide ((k : Int) < 4) = true := by simp; omega
      have hD := (Below.refl wr.heap.size wr).drew
      go_wp2
      refine wp_region_O (fun _ => True) [46] [12] [] (Ord.seg [0, 2] (Ord.both 1 3 (Ord.seg [3, 4, 5, 6, 7] Ord.done) (Ord.seg [] (Ord.both 1 4 (Ord.seg [4, 5, 6, 7] Ord.done) (Ord.seg [1, 5, 6, 7] Ord.done))))) (by kernel_rfl) (by kernel_rfl) (by kernel_rfl) trivial ?_
      go_wp2_with (first
        | (go_at_call 85; refine (l5New_c (k : Int) _).mono ?_; rintro e w3 ⟨rfl, hb3⟩; have hb3' := hD.trans (hb3.mono hD.size); have hbx3 := hbx.below hb3' hl1; have hbz3 := hbz.below hb3' hbz.lt; have ho3 := ho.below hb3' (Nat.le_refl _); have hz3 := hb3'.size; have hB3 := hbr.trans (hb3'.mono hbr.size); have hl3 := hbx3.lt; obtain ⟨x0, x1, x2, f0, f1, f2⟩ := hbx3.cells)
        | ((with_reducible refine wpT_x0 ?_ ?_ ?_); (focus rfl); (focus rfl); intro K hK; refine wp_app encN_len (by omega) encN_one _ _ 44 rfl 39 _ 104 Try.underlying44 infoRep rfl (w.heap.size + 2) _ (upTo k) rfl (ho3.alloc _) 0 _ _ [(k : Int)] _ _ rfl rfl (sl_arrQ encN_len w3 _ _ [(k : Int)] rfl |>.mono (Nat.zero_le _) (Nat.le_refl _)) (by have := hlen.out k; simp [maxLen]; omega) (by simp; omega) ?_; intro v4 w4 ho4 hg4 hb4; rw [← hsucc.out] at ho4; obtain ⟨A4, c4, rfl, h41, h42, _⟩ := ho4.form; rw [hlen.out] at ho4 h41 ⊢; have hbx4 := (hbx3.below ((Below.refl w3.heap.size w3).alloc (Nat.le_refl _) _) hbx3.lt).below hb4 (by omega); have hbz4 := (hbz3.below ((Below.refl w3.heap.size w3).alloc (Nat.le_refl _) _) hbz3.lt).below hb4 (by omega); have hB4 := (hB3.alloc (by omega) _).trans (hb4.mono (by omega)); obtain ⟨x0, x1, x2, f0, f1, f2⟩ := hbx4.cells; have hK := hK)
        | ((with_reducible refine wpO_seg ?_); simp only [pickL, List.toList_toArray, List.getElem?_cons_succ, List.getElem?_cons_zero]) | ((with_reducible refine wpO_both ?_ ?_) <;> simp only [pickL, List.toList_toArray, List.getElem?_cons_succ, List.getElem?_cons_zero]) | ((with_reducible refine wpO_done ?_); try dsimp only) | ((with_reducible refine wpT_q0 ?_ ?_ ?_ ?_); (focus rfl); (focus rfl); (focus rfl); intro K hK) | ((with_reducible refine wpT_x0 ?_ ?_ ?_); (focus rfl); (focus rfl); intro K hK) | ((with_reducible refine wpT_noL ?_ ?_); (focus (first | exact wanted_no _ _ _ rfl rfl rfl | exact wanted_un _ _ _ rfl rfl rfl)); simp only [setO, List.set_cons_succ, List.set_cons_zero]) | ((with_reducible refine wpT_q1 ?_ ?_ ?_ ?_); (focus exact wanted_yes _ _ _ rfl rfl rfl); (focus rfl); (focus rfl); intro K hK) | ((with_reducible refine wpT_x1 ?_ ?_ ?_); (focus exact wanted_yes _ _ _ rfl rfl rfl); (focus rfl); intro K hK) | ((with_reducible refine wpT_nil ?_); try dsimp only)
        | fail)
      all_goals
        go_roundw
        case rel => exact ⟨k + 1, A4, c4, by omega, h41, h42, by go_num, hbx4.set, hbz4.other (by omega) _, ho4.keep (fun b hb => Below.heap_setCell w4 ⟨w.heap.size + 1, 1, none⟩ _ b (by have := (ho4.lt b hb).1; simp; omega)), hB4.setCell (Nat.le_succ _) _⟩
        case measure => simp [intOf]; omega
    · obtain rfl : k = 4 := by omega
      have d1 : decide (((4 : Nat) : Int) < 4) = false := by decide
      obtain ⟨z0, z1, z2, zf0, zf1, zf2⟩ := hbz.cells
      go_wp2
      exact bodyPost_ret (v := .agg #[.int .i64 bad, .slice A 4 c, .slice none 0 0]) (by simp [results, Try.results95, go_sem, x0, x1, x2, z0, z1, z2, zf0, zf1, zf2]) rfl ⟨A, c, rfl, hkc, hcm, (keep3 (w := w) (ho.mono (by omega : w.heap.size + 1 ≤ w.heap.size + 2)) (Nat.lt_succ_self _)).mono (Nat.le_succ _), below3 hbr (Nat.le_refl _)⟩

set_option maxRecDepth 100000 in
set_option maxHeartbeats 2000000 in
theorem WorldNew_yes (bad : Int) (w : World) (hin : inB bad 0 3 = true) : Calls Try.prog 28 #[.int .i64 bad] w fun e w' => ∃ (A : Option Addr) (c : Nat), e = .returned (.agg #[.int .i64 bad, .slice A 4 c, .slice none 0 0]) ∧ 4 ≤ c ∧ c ≤ maxLen ∧ Own encN 7 39 w' w.heap.size (.slice A 4 c) (upTo 4) ∧ Below w.heap.size w w' := by
  have hz0 := heap_alloc_new w (.cells #[.int .i64 0, .slice none 0 0, .slice none 0 0] 46)
  have hb0 : Below w.heap.size w ((w.alloc (.cells #[.int .i64 0, .slice none 0 0, .slice none 0 0] 46)).alloc (.cells #[.int .i64 bad, .slice none 0 0, .slice none 0 0] 46)) := ((Below.refl _ _).alloc (Nat.le_refl _) _).alloc (by simp) _
  have hz1 : NBox ((w.alloc (.cells #[.int .i64 0, .slice none 0 0, .slice none 0 0] 46)).alloc (.cells #[.int .i64 bad, .slice none 0 0, .slice none 0 0] 46)) (w.heap.size + 1) bad none 0 0 := by
    have := heap_alloc_new (w.alloc (.cells #[.int .i64 0, .slice none 0 0, .slice none 0 0] 46)) (.cells #[.int .i64 bad, .slice none 0 0, .slice none 0 0] 46)
    simpa [NBox] using this
  have hz2 : NBox ((w.alloc (.cells #[.int .i64 0, .slice none 0 0, .slice none 0 0] 46)).alloc (.cells #[.int .i64 bad, .slice none 0 0, .slice none 0 0] 46)) w.heap.size 0 none 0 0 := (((Below.refl (w.alloc (.cells #[.int .i64 0, .slice none 0 0, .slice none 0 0] 46)).heap.size (w.alloc (.cells #[.int .i64 0, .slice none 0 0, .slice none 0 0] 46))).alloc (Nat.le_refl _) (.cells #[.int .i64 bad, .slice none 0 0, .slice none 0 0] 46)).block _ (by simp)).trans hz0
  have hlen := hide upTo_len
  have hsucc := hide upTo_succ
  go_enter Try.func28, Try.ntmps28
  go_wp2_with (first
    | (go_at_call 81; refine (isKeeper_c _ _).mono ?_; rintro e w' ⟨rfl, rfl⟩; rw [hin])
    | fail)
  generalize ((w.alloc (.cells #[.int .i64 0, .slice none 0 0, .slice none 0 0] 46)).alloc (.cells #[.int .i64 bad, .slice none 0 0, .slice none 0 0] 46)) = w0 at *
  go_loopw [11] (fun kv wr => ∃ (k : Nat) (A : Option Addr) (c : Nat), k ≤ 4 ∧ k ≤ c ∧ c ≤ maxLen ∧ kv = .int .i64 (k : Int) ∧ NBox wr (w.heap.size + 1) bad A k c ∧ NBox wr w.heap.size 0 none 0 0 ∧ Own encN 7 39 wr (w.heap.size + 2) (.slice A k c) (upTo k) ∧ Below w.heap.size w wr) (fun kv _ => 4 - (intOf kv).toNat)
  case atStart => exact ⟨0, none, 0, Nat.zero_le _, Nat.zero_le _, by simp [maxLen], rfl, hz1, hz2, Own.nil_ _ _ _ _ _, hb0⟩
  case round =>
    obtain ⟨k, A, c, hk, hkc, hcm, rfl, hbx, hbz, ho, hbr⟩ := hrel
    have hl1 := hbx.lt
    obtain ⟨x0, x1, x2, f0, f1, f2⟩ := hbx.cells
    by_cases hlt : k < 4
    · have d1 : decide ((k : Int) < 4) = true := by simp; omega
      have hD := (Below.refl wr.heap.size wr).drew
      go_wp2
      refine wp_region_O (fun _ => True) [46] [15] [] (Ord.seg [0, 2] (Ord.both 1 3 (Ord.seg [3, 4, 5, 6, 7] Ord.done) (Ord.seg [] (Ord.both 1 4 (Ord.seg [4, 5, 6, 7] Ord.done) (Ord.seg [1, 5, 6, 7] Ord.done))))) (by kernel_rfl) (by kernel_rfl) (by kernel_rfl) trivial ?_
      go_wp2_with (first
        | (go_at_call 22; refine (RepNew_yes (k : Int) _ (by unfold inB; simp; omega)).mono ?_; rintro e w3 ⟨rfl, hb3⟩; have hb3' := hD.trans (hb3.mono hD.size); have hbx3 := hbx.below hb3' hl1; have hbz3 := hbz.below hb3' hbz.lt; have ho3 := ho.below hb3' (Nat.le_refl _); have hz3 := hb3'.size; have hB3 := hbr.trans (hb3'.mono hbr.size); have hl3 := hbx3.lt; obtain ⟨x0, x1, x2, f0, f1, f2⟩ := hbx3.cells)
        | ((with_reducible refine wpT_x0 ?_ ?_ ?_); (focus rfl); (focus rfl); intro K hK; refine wp_app encN_len (by omega) encN_one _ _ 44 rfl 39 _ 104 Try.underlying44 infoRep rfl (w.heap.size + 2) _ (upTo k) rfl (ho3.alloc _) 0 _ _ [(k : Int)] _ _ rfl rfl (sl_arrQ encN_len w3 _ _ [(k : Int)] rfl |>.mono (Nat.zero_le _) (Nat.le_refl _)) (by have := hlen.out k; simp [maxLen]; omega) (by simp; omega) ?_; intro v4 w4 ho4 hg4 hb4; rw [← hsucc.out] at ho4; obtain ⟨A4, c4, rfl, h41, h42, _⟩ := ho4.form; rw [hlen.out] at ho4 h41 ⊢; have hbx4 := (hbx3.below ((Below.refl w3.heap.size w3).alloc (Nat.le_refl _) _) hbx3.lt).below hb4 (by omega); have hbz4 := (hbz3.below ((Below.refl w3.heap.size w3).alloc (Nat.le_refl _) _) hbz3.lt).below hb4 (by omega); have hB4 := (hB3.alloc (by omega) _).trans (hb4.mono (by omega)); obtain ⟨x0, x1, x2, f0, f1, f2⟩ := hbx4.cells; have hK := hK)
        | ((with_reducible refine wpO_seg ?_); simp only [pickL, List.toList_toArray, List.getElem?_cons_succ, List.getElem?_cons_zero]) | ((with_reducible refine wpO_both ?_ ?_) <;> simp only [pickL, List.toList_toArray, List.getElem?_cons_succ, List.getElem?_cons_zero]) | ((with_reducible refine wpO_done ?_); try dsimp only) | ((with_reducible refine wpT_q0 ?_ ?_ ?_ ?_); (focus rfl); (focus rfl); (focus rfl); intro K hK) | ((with_reducible refine wpT_x0 ?_ ?_ ?_); (focus rfl); (focus rfl); intro K hK) | ((with_reducible refine wpT_noL ?_ ?_); (focus (first | exact wanted_no _ _ _ rfl rfl rfl | exact wanted_un _ _ _ rfl rfl rfl)); simp only [setO, List.set_cons_succ, List.set_cons_zero]) | ((with_reducible refine wpT_q1 ?_ ?_ ?_ ?_); (focus exact wanted_yes _ _ _ rfl rfl rfl); (focus rfl); (focus rfl); intro K hK) | ((with_reducible refine wpT_x1 ?_ ?_ ?_); (focus exact wanted_yes _ _ _ rfl rfl rfl); (focus rfl); intro K hK) | ((with_reducible refine wpT_nil ?_); try dsimp only)
        | fail)
      all_goals
        go_roundw
        case rel => exact ⟨k + 1, A4, c4, by omega, h41, h42, by go_num, hbx4.set, hbz4.other (by omega) _, ho4.keep (fun b hb => Below.heap_setCell w4 ⟨w.heap.size + 1, 1, none⟩ _ b (by have := (ho4.lt b hb).1; simp; omega)), hB4.setCell (Nat.le_succ _) _⟩
        case measure => simp [intOf]; omega
    · obtain rfl : k = 4 := by omega
      have d1 : decide (((4 : Nat) : Int) < 4) = false := by decide
      obtain ⟨z0, z1, z2, zf0, zf1, zf2⟩ := hbz.cells
      obtain ⟨hxx, _, hsl⟩ := ho.slAt encN_len
      clear hxx
      go_wp2_with fail
      refine (cloneRep_c A 4 c _ _ (upTo 4) wr rfl (by omega) hsl (Nat.le_refl _)).mono ?_
      rintro e w5 ⟨A5, rfl, ho5, hb5⟩
      have hbz5 := hbz.below hb5 hbz.lt
      have hB5 := hbr.trans (hb5.mono hbr.size)
      have hzr := hbr.size
      have hlw := hbz.lt
      obtain ⟨z0, z1, z2, zf0, zf1, zf2⟩ := hbz5.cells
      go_wp2
      exact bodyPost_ret (v := .agg #[.int .i64 bad, .slice A5 4 4, .slice none 0 0]) (by simp [results, Try.results28, go_sem, z0, z1, z2, zf0, zf1, zf2]) rfl ⟨A5, 4, rfl, Nat.le_refl _, by simp [maxLen], (keep3 (w := w) (ho5.mono (by omega : w.heap.size + 1 ≤ wr.heap.size)) (Nat.lt_succ_self _)).mono (Nat.le_succ _), below3 hB5 (Nat.le_refl _)⟩
end Go.Proofs.Ytphlnihmfgmecaa
