/-
  'FnExactPieceOf' returns true, for every text: both packages' 'PieceOf' answer alike.
  Conditions: none.
-/
import Derived.Test.YtcglnfepelofgaaPB
import Derived.Test.YtcglnfepelofgaaRegI
import Derived.Test.YtcglnfepelofgaaOpen
namespace Go.Proofs.Ytcglnfepelofgaa
open Go.RowKit Rg
set_option linter.unusedVariables false

theorem heldStringS_c (A : Option Addr) (n c lo hi k : Nat) (w : World) (hb : n ≤ 1048576) (hk0 : 0 < k) (hk1 : k ≤ 1048576) (hs : Sl encS 1 w lo hi A (smarks k n)) (hhi : hi ≤ w.heap.size) :
    Calls Try.prog 11 #[.slice A n c, .int .i64 (k : Int)] w fun e w' => e = .returned (.int .i64 ((k : Int) + n)) ∧ Below w.heap.size w w' := by
  go_enter Try.func11, Try.ntmps11
  go_wp2
  go_loopw [1, 5] (fun kk i wr => ∃ j : Nat, j ≤ n ∧ i = .int .i64 j ∧ kk = .int .i64 ((k : Int) + j) ∧ Below w.heap.size w wr) (fun _ i _ => n - (intOf i).toNat)
  case atStart => exact ⟨0, Nat.zero_le _, rfl, by go_num, Below.refl _ _⟩
  case round =>
    obtain ⟨j, hj, rfl, rfl, hbr⟩ := hrel
    by_cases hlt : j < n
    · have hlx : j < (smarks k n).length := by rw [smarks_len]; exact hlt
      obtain ⟨b, off, rfl, hlo, hbh⟩ := hs.addr hlx
      have a1 := (hs.below hbr hhi).str hlx
      have he : (smarks k n)[j] = mt (k + j) := by simp [smarks]
      rw [he] at a1
      clear he
      have hbl : b < wr.heap.size := by have := hbr.size; omega
      go_wp2
      refine wp_region_T (Since _) [] [] [14, 15] [0, 1, 2, 3, 4, 5, 6] (by kernel_rfl) (by kernel_rfl) (by kernel_rfl) (Since.drew _) ?_; simp only [pickL, List.getElem?_cons_succ, List.getElem?_cons_zero]
      go_wp2_with (first
        | (with_reducible refine Since.and_ ?_ ?_; (focus (repeat (first | (with_reducible exact Since.refl _) | assumption | (with_reducible refine Since.drewR ?_) | (with_reducible refine Since.alloc ?_ _) | ((with_reducible apply Since.below); rotate_left; (focus assumption))))); intro hS) | ((with_reducible refine wpT_q0 ?_ ?_ ?_ ?_); (focus rfl); (focus rfl); (focus rfl); intro K hK) | ((with_reducible refine wpT_i ?_ ?_); (focus (refine ⟨_, _, _, _, _, _, _, _, rfl, rfl, rfl, rfl, rfl, ?_⟩; omega)); intro K hK) | ((with_reducible apply wpT_l); (focus rfl); (focus rfl); (focus rfl); (focus rfl); (focus (first | exact Since.drew _ | assumption)); (focus (simp <;> omega)); (focus go_simp); intro K hK) | ((with_reducible refine wpT_xs0 ?_ ?_ ?_); (focus rfl); (focus rfl); intro K hK) | ((with_reducible refine wpT_noL ?_ ?_); (focus (first | exact wanted_no _ _ _ rfl rfl rfl | exact wanted_un _ _ _ rfl rfl rfl)); simp only [setO, List.set_cons_succ, List.set_cons_zero]) | ((with_reducible refine wpT_q1 ?_ ?_ ?_ ?_); (focus exact wanted_yes _ _ _ rfl rfl rfl); (focus rfl); (focus rfl); intro K hK) | ((with_reducible refine wpT_xs1 ?_ ?_ ?_); (focus exact wanted_yes _ _ _ rfl rfl rfl); (focus rfl); intro K hK) | ((with_reducible refine wpT_nil ?_); try dsimp only)
        | (go_at_call 20; refine (markText_c (k + j) _ (by omega) (by omega)).mono ?_; rintro e w1 ⟨rfl, hb1⟩))
      go_roundw
      case rel => exact ⟨j + 1, by omega, by go_num, by go_num, hbr.drew.trans (hb1.mono hbr.size)⟩
      case measure => simp [intOf]; omega
    · obtain rfl : j = n := by omega
      go_wp2
      go_ret
      exact ⟨rfl, hbr⟩

theorem pcs_len (s : ByteArray) : (pcs s).length ≤ s.size + 1 := by
  generalize hm : s.size = m
  induction m using Nat.strongRecOn generalizing s with
  | _ m ih =>
    by_cases h : 12 < s.size
    · rw [pcs_more h]
      have h1 := ih (s.extract 12 s.size).size (by simp; omega) _ rfl
      simp at h1 ⊢
      omega
    · rw [pcs_last h]; simp
theorem pieces_len (s : ByteArray) (h : s.size ≤ 1048576) : (pieces s).length ≤ 1048570 := by
  unfold pieces
  split
  · simp
  · have := pcs_len s; omega
theorem eqSameS_c {A B : Option Addr} {n m c d lo lo' : Nat} {xs : List ByteArray} {w : World} (h : Own encS 1 9 w lo (.slice A n c) xs) (h' : Own encS 1 9 w lo' (.slice B m d) xs) (hb : xs.length ≤ 1048570) :
    Calls Try.prog 9 #[.slice A n c, .slice B m d] w fun e w' => e = .returned (.bool true) ∧ Below w.heap.size w w' := by
  obtain ⟨h1, _, h2⟩ := h.slAt encS_len
  obtain ⟨h3, _, h4⟩ := h'.slAt encS_len
  have := eqStringS_c A B n m c d _ _ _ _ xs xs w h1 h3 (by omega) (by omega) h2 h4 (Nat.le_refl _) (Nat.le_refl _)
  simpa using this
theorem markSO_c {A : Option Addr} {n c lo : Nat} {xs : List ByteArray} {w : World} (h : Own encS 1 9 w lo (.slice A n c) xs) (hb : xs.length ≤ 1048570) :
    Calls Try.prog 10 #[.slice A n c, .int .i64 1] w fun e w' => e = .returned (.int .i64 (1 + (n : Int))) ∧ Own encS 1 9 w' lo (.slice A n c) (smarks 1 n) ∧ Only w.heap.size (Value.slice A n c).ownBlock w w' := by
  have h1 := h.lenEq
  have := markStringS_c A n c lo 1 xs w h1 (by omega) (by omega) (by omega) h
  simpa using this
theorem heldSO_c {A : Option Addr} {n c lo : Nat} {w : World} (h : Own encS 1 9 w lo (.slice A n c) (smarks 1 n)) (hb : n ≤ 1048570) :
    Calls Try.prog 11 #[.slice A n c, .int .i64 1] w fun e w' => e = .returned (.int .i64 (1 + (n : Int))) ∧ Below w.heap.size w w' := by
  have := heldStringS_c A n c _ _ 1 w (by omega) (by omega) (by omega) (h.slAt encS_len).2.2 (Nat.le_refl _)
  simpa using this

set_option maxHeartbeats 1000000 in
theorem lawPieceOf (s : ByteArray) (w : World) : Calls Try.prog 3 #[.string s] w fun e w' => e = .returned (.bool true) ∧ Below w.heap.size w w' := by
  by_cases hb : s.size ≤ 1048576
  · have h1 : decide (1048576 < (s.size : Int)) = false := by simp; omega
    have hbL := pieces_len s hb
    go_enter Try.func3, Try.ntmps3
    go_wp2_with fail
    refine (specPieceOf_c s _ hb).mono ?_
    rintro e w1 ⟨vw, rfl, how, hB1⟩
    obtain ⟨Aw, cw, rfl, _, _, _⟩ := how.form
    go_wp2_with fail
    refine (PieceOf_c s _ hb).mono ?_
    rintro e w2 ⟨vg, rfl, hog, hb2⟩
    have hB2 : Below w.heap.size w w2 := hB1.trans (hb2.mono hB1.size)
    obtain ⟨Ag, cg, rfl, _, _, _⟩ := hog.form
    have hne : ∀ b, (Value.slice Aw (pieces s).length cw).ownBlock = some b → (Value.slice Ag (pieces s).length cg).ownBlock = some b → False := fun b g1 g2 => by have := (how.lt b g1).2; have := (hog.lt b g2).1; omega
    have w_2 := how.below hb2 (Nat.le_refl _)
    go_wp2_with fail
    refine (eqSameS_c hog w_2 hbL).mono ?_
    rintro e w3 ⟨rfl, hb3⟩
    have hB3 : Below w.heap.size w w3 := hB2.trans (hb3.mono hB2.size)
    have w_3 := w_2.below hb3 (Nat.le_refl _)
    have g_3 := hog.below hb3 (Nat.le_refl _)
    go_wp2_with fail
    refine (markSO_c g_3 hbL).mono ?_
    rintro e w4 ⟨rfl, g_4, hon4⟩
    have hB4 : Below w.heap.size w w4 := hB3.trans (hon4.toBelow hB3.size (fun k hk => by have := (g_3.lt k hk).1; have := hB1.size; omega))
    have w_4 := w_3.only hon4 (Nat.le_refl _) (fun b g1 g2 => hne b g1 g2)
    go_wp2_with fail
    refine (heldSO_c g_4 hbL).mono ?_
    rintro e w5 ⟨rfl, hb5⟩
    have hB5 : Below w.heap.size w w5 := hB4.trans (hb5.mono hB4.size)
    have w_5 := w_4.below hb5 (Nat.le_refl _)
    have g_5 := g_4.below hb5 (Nat.le_refl _)
    have q1 : decide ((1 : Int) + ((pieces s).length : Int) < 0) = false := by simp; omega
    go_wp2_with fail
    refine (PieceOf_c s _ hb).mono ?_
    rintro e w6 ⟨vh, rfl, hoh, hb6⟩
    have hB6 : Below w.heap.size w w6 := hB5.trans (hb6.mono hB5.size)
    obtain ⟨Ah, ch, rfl, _, _, _⟩ := hoh.form
    have w_6 := w_5.below hb6 (Nat.le_refl _)
    have g_6 := g_5.below hb6 (Nat.le_refl _)
    go_wp2_with fail
    refine (eqSameS_c hoh w_6 hbL).mono ?_
    rintro e w7 ⟨rfl, hb7⟩
    have hB7 : Below w.heap.size w w7 := hB6.trans (hb7.mono hB6.size)
    have g_7 := g_6.below hb7 (Nat.le_refl _)
    go_wp2_with fail
    refine (heldSO_c g_7 hbL).mono ?_
    rintro e w8 ⟨rfl, hb8⟩
    have hB8 : Below w.heap.size w w8 := hB7.trans (hb8.mono hB7.size)
    go_wp2
    go_ret
    exact ⟨rfl, hB8⟩
  · have h1 : decide (1048576 < (s.size : Int)) = true := by simp; omega
    go_enter Try.func3, Try.ntmps3
    go_wp2
    go_ret
    exact ⟨rfl, Below.refl _ _⟩

/-! ### The row of 'laws.FnExactPieceOf' -/
namespace FnExactPieceOf
open Go.ChangeShapes Go.WideShapes Go.ChangeAt Go.RowKit
open Go.ChangeMaps (open_string shut_string)
theorem own : ownKnob Try.prog.godebug = none := by kernel_rfl
theorem laidOut : laidOutB Try.prog = true := by kernel_rfl

set_option maxRecDepth 100000 in
theorem lifted (os : Os) (started : os.Started) (H : Type) (enc : TypeId × Value → H) :
    ReturnsInHanded {} Try.checked os 3 .any (Rows.fnExactPieceOfSpec.pre6 enc Try.prog Try.f3 Rows.fnExactPieceOfRow.domain false) (Rows.fnExactPieceOfSpec.post enc Try.prog Try.f3 false true false false) := by
  refine returnsInHanded_of_change (C := Try.checked) own started (by kernel_rfl) Try.func3
    (ChangeSpec.witness6 (enc := enc) (C := Try.checked) false ⟨#[], #[.string ⟨#[]⟩], []⟩ 8 (by kernel_rfl) (by kernel_rfl) (by kernel_rfl) (by kernel_rfl)) ?_
  intro W base args ds gs before hval0 hW hcnd _
  have hval : ∀ (j : Nat) t v, Try.f3.params[j]? = some t → args[j]? = some v → Value.okWide Try.prog W .any base t v := hval0
  have hW' := hW
  obtain ⟨p, q, hA0, hV, rfl, hfz, hnd⟩ := hW
  have hA : DataW.TrodAll enc Try.prog W 0 (fun _ => true) true Try.f3.params.toList args.toList ds p := hA0
  rw [Try.params3] at hA hval
  obtain ⟨v0, vs0, d0, ds0, p0, q0, hargs, rfl, rfl, h0, r0⟩ := trodAll_cons hA
  obtain ⟨rfl, rfl, rfl⟩ := trodAll_nil r0
  obtain rfl : args = #[v0] := by cases args; simp_all
  obtain ⟨rfl, rfl⟩ := trodVars_none hV
  obtain ⟨a0, rfl, rfl, rfl, g0⟩ := open_string Try.underlying9 (hval 0 9 v0 rfl rfl) h0
  clear hA0 hval0
  refine (lawPieceOf a0 W).mono fun e W' ⟨he, bel⟩ => ?_
  subst he
  exact ⟨_, rfl, _, _, _, [], _, [], hW', trodAll_mk1 (shut_bool Try.underlying4 _), (trodAll_cons_mk (shut_string Try.underlying9 g0) trodAll_mk0), rfl, bel.frame _, fun h => by cases h⟩

theorem over : Rows.fnExactPieceOfRow.holds Try.pinned (OpenSpec.ofChange Rows.fnExactPieceOfSpec) :=
  OpenClaim.holds_of_wide 3 Try.f3 rfl rfl rfl rfl rfl rfl rfl ⟨rfl, rfl, rfl, rfl, rfl⟩ rfl rfl rfl rfl rfl (by kernel_rfl) Try.func3 (by kernel_rfl)
    (of_decide_eq_true (by kernel_rfl)) (by unfold Func.isWrapper; first | (rw [if_pos (by decide +kernel)]; kernel_rfl) | (rw [if_neg (by decide +kernel)]; exact ⟨rfl, rfl⟩))
    (fun os started H enc _ => lifted os started H enc)

theorem proved : Rows.FnExactPieceOfSaid := over
end FnExactPieceOf
end Go.Proofs.Ytcglnfepelofgaa
