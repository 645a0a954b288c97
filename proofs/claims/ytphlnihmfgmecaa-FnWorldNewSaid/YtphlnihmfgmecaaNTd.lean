/-
  Comparing new worlds; a new world reads as one.
  Conditions: none.
-/
import Derived.Test.YtphlnihmfgmecaaNTc
import Derived.Test.YtphlnihmfgmecaaNSg
namespace Go.Proofs.Ytphlnihmfgmecaa
open Go.RowKit Rg
set_option linter.unusedVariables false
set_option linter.unusedSimpArgs false

theorem upTo_get (k : Nat) (h : k < 4) : (upTo 4)[k]'(by simp [upTo]; omega) = (k : Int) := by simp [upTo]
theorem Sl.newRep {w : World} {lo hi b off k : Nat} {xs : List Int} (h : Sl encN 7 w lo hi (some ⟨b, off, none⟩) xs) (hk : k < xs.length) : w.cell? ⟨b, off + k * 7, none⟩ = some (.int .i64 xs[k]) ∧ w.cell? ⟨b, off + k * 7 + 1, none⟩ = some (.int .i64 0) ∧ w.cell? ⟨b, off + k * 7 + 2, none⟩ = some (.bool true) ∧ w.cell? ⟨b, off + k * 7 + 3, none⟩ = some (.int .i64 1) ∧ w.cell? ⟨b, off + k * 7 + 4, none⟩ = some (.slice none 0 0) ∧ w.cell? ⟨b, off + k * 7 + 5, none⟩ = some (.slice none 0 0) ∧ w.cell? ⟨b, off + k * 7 + 6, none⟩ = some (.slice none 0 0) := by
  have := h.at_ hk
  exact ⟨this 0 _ rfl, this 1 _ rfl, this 2 _ rfl, this 3 _ rfl, this 4 _ rfl, this 5 _ rfl, this 6 _ rfl⟩
theorem own_repR {w : World} {lo n c : Nat} {A : Option Addr} {xs : List Int} {e : TypeId} (h : Own encN 7 e w lo (.slice A n c) xs) : RdN 7 repR w lo w.heap.size A n c (xs.map repNew) := by
  obtain ⟨h1, h2, h3⟩ := h.slAt encN_len
  refine ⟨by simpa using h1, h2, h.cap.2, fun hne => ?_⟩
  have hx : xs ≠ [] := by rintro rfl; exact hne rfl
  obtain ⟨b, off, e, h4, h5, h6⟩ := h3 hx
  refine ⟨b, off, e, h4, h5, fun i hi => ?_⟩
  have hi' : i < xs.length := by simpa using hi
  refine ⟨encN xs[i], rfl, fun j u hu => h6 i xs[i] (List.getElem?_eq_getElem hi') j u hu, none, 0, 0, none, 0, 0, none, 0, 0, by simp [repNew, encN], ?_, ?_, ?_⟩
  · rw [List.getElem_map]; exact RdN.nil_ _ _ _ _ _ _ _ (by simp [maxLen])
  · rw [List.getElem_map]; exact RdN.nil_ _ _ _ _ _ _ _ (by simp [maxLen])
  · rw [List.getElem_map]; exact RdN.nil_ _ _ _ _ _ _ _ (by simp [maxLen])
set_option maxRecDepth 100000 in
set_option maxHeartbeats 2000000 in
theorem wpWorld_new (bad : Int) (A B : Option Addr) (c d : Nat) (w : World) (e1 e2 : TypeId) (lo lo' : Nat) (ho : Own encN 7 e1 w lo (.slice A 4 c) (upTo 4)) (ho' : Own encN 7 e2 w lo' (.slice B 4 d) (upTo 4)) :
    Calls Try.prog 29 #[.agg #[.int .i64 bad, .slice A 4 c, .slice none 0 0], .agg #[.int .i64 bad, .slice B 4 d, .slice none 0 0]] w fun e w' => e = .returned (.bool true) ∧ Below w.heap.size w w' := by
  obtain ⟨g, rfl, _, _⟩ := ho.addrAt (k := 0) (by omega)
  obtain ⟨g', rfl, _, _⟩ := ho'.addrAt (k := 0) (by omega)
  have hb0 : Below w.heap.size w ((w.alloc (.cells #[.int .i64 bad, .slice (some ⟨g, 0, none⟩) 4 c, .slice none 0 0] 46)).alloc (.cells #[.int .i64 bad, .slice (some ⟨g', 0, none⟩) 4 d, .slice none 0 0] 46)) := ((Below.refl _ _).alloc (Nat.le_refl _) _).alloc (by simp) _
  have x0 : ((w.alloc (.cells #[.int .i64 bad, .slice (some ⟨g, 0, none⟩) 4 c, .slice none 0 0] 46)).alloc (.cells #[.int .i64 bad, .slice (some ⟨g', 0, none⟩) 4 d, .slice none 0 0] 46)).cell? ⟨w.heap.size, 0, none⟩ = some (.int .i64 bad) := by simp
  have x1 : ((w.alloc (.cells #[.int .i64 bad, .slice (some ⟨g, 0, none⟩) 4 c, .slice none 0 0] 46)).alloc (.cells #[.int .i64 bad, .slice (some ⟨g', 0, none⟩) 4 d, .slice none 0 0] 46)).cell? ⟨w.heap.size, 1, none⟩ = some (.slice (some ⟨g, 0, none⟩) 4 c) := by simp
  have x2 : ((w.alloc (.cells #[.int .i64 bad, .slice (some ⟨g, 0, none⟩) 4 c, .slice none 0 0] 46)).alloc (.cells #[.int .i64 bad, .slice (some ⟨g', 0, none⟩) 4 d, .slice none 0 0] 46)).cell? ⟨w.heap.size, 2, none⟩ = some (.slice none 0 0) := by simp
  have y0 : ((w.alloc (.cells #[.int .i64 bad, .slice (some ⟨g, 0, none⟩) 4 c, .slice none 0 0] 46)).alloc (.cells #[.int .i64 bad, .slice (some ⟨g', 0, none⟩) 4 d, .slice none 0 0] 46)).cell? ⟨(w.heap.size + 1), 0, none⟩ = some (.int .i64 bad) := by simp
  have y1 : ((w.alloc (.cells #[.int .i64 bad, .slice (some ⟨g, 0, none⟩) 4 c, .slice none 0 0] 46)).alloc (.cells #[.int .i64 bad, .slice (some ⟨g', 0, none⟩) 4 d, .slice none 0 0] 46)).cell? ⟨(w.heap.size + 1), 1, none⟩ = some (.slice (some ⟨g', 0, none⟩) 4 d) := by simp
  have y2 : ((w.alloc (.cells #[.int .i64 bad, .slice (some ⟨g, 0, none⟩) 4 c, .slice none 0 0] 46)).alloc (.cells #[.int .i64 bad, .slice (some ⟨g', 0, none⟩) 4 d, .slice none 0 0] 46)).cell? ⟨(w.heap.size + 1), 2, none⟩ = some (.slice none 0 0) := by simp
  have hc1 := ho.cap
  have hc2 := ho'.cap
  unfold maxLen at hc1 hc2
  have hl0 : w.heap.size + 1 < ((w.alloc (.cells #[.int .i64 bad, .slice (some ⟨g, 0, none⟩) 4 c, .slice none 0 0] 46)).alloc (.cells #[.int .i64 bad, .slice (some ⟨g', 0, none⟩) 4 d, .slice none 0 0] 46)).heap.size := by simp
  have hs := (ho.below hb0 (Nat.le_refl _)).slAt encN_len |>.2.2
  have hs' := (ho'.below hb0 (Nat.le_refl _)).slAt encN_len |>.2.2
  have hb1n : (bad != bad) = false := by simp
  go_enter Try.func29, Try.ntmps29
  go_wp2_with fail
  generalize ((w.alloc (.cells #[.int .i64 bad, .slice (some ⟨g, 0, none⟩) 4 c, .slice none 0 0] 46)).alloc (.cells #[.int .i64 bad, .slice (some ⟨g', 0, none⟩) 4 d, .slice none 0 0] 46)) = w0 at *
  refine (wpMsgs_nil w0).mono ?_
  rintro e w1 ⟨rfl, hb1⟩
  have x0 := keepc hb1 x0
  have x1 := keepc hb1 x1
  have x2 := keepc hb1 x2
  have y0 := keepc hb1 y0
  have y1 := keepc hb1 y1
  have y2 := keepc hb1 y2
  have hs := hs.below hb1 (Nat.le_refl _)
  have hs' := hs'.below hb1 (Nat.le_refl _)
  have hB1 := hb0.trans (hb1.mono hb0.size)
  have hl1 := Nat.lt_of_lt_of_le hl0 hb1.size
  have hz0 := hb1.size
  go_wp2
  go_loopw [5] (fun iv wr => ∃ k : Nat, k ≤ 4 ∧ iv = .int .i64 (k : Int) ∧ Below w1.heap.size w1 wr) (fun iv _ => 4 - (intOf iv).toNat)
  case atStart => exact ⟨0, by omega, rfl, Below.refl _ _⟩
  case round =>
    obtain ⟨k, hk, rfl, hbr⟩ := hrel
    have x0 := keepc hbr x0
    have x1 := keepc hbr x1
    have x2 := keepc hbr x2
    have y0 := keepc hbr y0
    have y1 := keepc hbr y1
    have y2 := keepc hbr y2
    have hzr := hbr.size
    by_cases hlt : k < 4
    · have d1 : decide ((k : Int) < 4) = true := by simp; omega
      have hkx : k < (upTo 4).length := by rw [upTo_len]; omega
      have hge := upTo_get k hlt
      obtain ⟨a0, a1, a2, a3, a4, a5, a6⟩ := (hs.below hbr (Nat.le_trans (Nat.le_refl _) hz0)).newRep hkx
      obtain ⟨b0, b1, b2, b3, b4, b5, b6⟩ := (hs'.below hbr (Nat.le_trans (Nat.le_refl _) hz0)).newRep hkx
      rw [hge] at a0 b0
      simp only [Nat.zero_add] at a0 a1 a2 a3 a4 a5 a6 b0 b1 b2 b3 b4 b5 b6
      clear hge
      have hD := (Below.refl wr.heap.size wr).drew
      go_wp2
      refine wp_region_T (fun _ => True) [] [] [] [0, 1, 2, 3, 4, 5, 6, 7, 8, 9, 10, 11] (by kernel_rfl) (by kernel_rfl) (by kernel_rfl) trivial ?_; simp only [pickL, List.getElem?_cons_succ, List.getElem?_cons_zero]
      go_wp2_with (first
        | ((with_reducible refine wpT_q0 ?_ ?_ ?_ ?_); (focus rfl); (focus rfl); (focus rfl); intro K hK) | ((with_reducible refine wpT_x0 ?_ ?_ ?_); (focus rfl); (focus rfl); intro K hK) | ((with_reducible refine wpT_noL ?_ ?_); (focus (first | exact wanted_no _ _ _ rfl rfl rfl | exact wanted_un _ _ _ rfl rfl rfl)); simp only [setO, List.set_cons_succ, List.set_cons_zero]) | ((with_reducible refine wpT_q1 ?_ ?_ ?_ ?_); (focus exact wanted_yes _ _ _ rfl rfl rfl); (focus rfl); (focus rfl); intro K hK) | ((with_reducible refine wpT_x1 ?_ ?_ ?_); (focus exact wanted_yes _ _ _ rfl rfl rfl); (focus rfl); intro K hK) | ((with_reducible refine wpT_nil ?_); try dsimp only)
        | (go_at_call 23; refine (wpRep_new (k : Int) 1 true _).mono ?_; rintro e w3 ⟨rfl, hb3⟩; have hB3 := (hbr.trans (hD.mono hbr.size)).trans (hb3.mono (Nat.le_trans hbr.size hD.size)); replace hb3 := hb3)
        | fail)
      go_roundw
      case rel => exact ⟨k + 1, by omega, by go_num, hB3⟩
      case measure => simp [intOf]; omega
    · obtain rfl : k = 4 := by omega
      have d1 : decide (((4 : Nat) : Int) < 4) = false := by decide
      go_wp2
      go_ret
      exact ⟨rfl, hB1.trans (hbr.mono hB1.size)⟩
theorem wpWorld_none (w : World) : Calls Try.prog 29 #[.agg #[.int .i64 0, .slice none 0 0, .slice none 0 0], .agg #[.int .i64 0, .slice none 0 0, .slice none 0 0]] w fun e w' => e = .returned (.bool true) ∧ Below w.heap.size w w' := by
  have hb0 : Below w.heap.size w ((w.alloc (.cells #[.int .i64 0, .slice none 0 0, .slice none 0 0] 46)).alloc (.cells #[.int .i64 0, .slice none 0 0, .slice none 0 0] 46)) := ((Below.refl _ _).alloc (Nat.le_refl _) _).alloc (by simp) _
  have x0 : ((w.alloc (.cells #[.int .i64 0, .slice none 0 0, .slice none 0 0] 46)).alloc (.cells #[.int .i64 0, .slice none 0 0, .slice none 0 0] 46)).cell? ⟨w.heap.size, 0, none⟩ = some (.int .i64 0) := by simp
  have x1 : ((w.alloc (.cells #[.int .i64 0, .slice none 0 0, .slice none 0 0] 46)).alloc (.cells #[.int .i64 0, .slice none 0 0, .slice none 0 0] 46)).cell? ⟨w.heap.size, 1, none⟩ = some (.slice none 0 0) := by simp
  have x2 : ((w.alloc (.cells #[.int .i64 0, .slice none 0 0, .slice none 0 0] 46)).alloc (.cells #[.int .i64 0, .slice none 0 0, .slice none 0 0] 46)).cell? ⟨w.heap.size, 2, none⟩ = some (.slice none 0 0) := by simp
  have y0 : ((w.alloc (.cells #[.int .i64 0, .slice none 0 0, .slice none 0 0] 46)).alloc (.cells #[.int .i64 0, .slice none 0 0, .slice none 0 0] 46)).cell? ⟨(w.heap.size + 1), 0, none⟩ = some (.int .i64 0) := by simp
  have y1 : ((w.alloc (.cells #[.int .i64 0, .slice none 0 0, .slice none 0 0] 46)).alloc (.cells #[.int .i64 0, .slice none 0 0, .slice none 0 0] 46)).cell? ⟨(w.heap.size + 1), 1, none⟩ = some (.slice none 0 0) := by simp
  have y2 : ((w.alloc (.cells #[.int .i64 0, .slice none 0 0, .slice none 0 0] 46)).alloc (.cells #[.int .i64 0, .slice none 0 0, .slice none 0 0] 46)).cell? ⟨(w.heap.size + 1), 2, none⟩ = some (.slice none 0 0) := by simp
  have hl0 : w.heap.size + 1 < ((w.alloc (.cells #[.int .i64 0, .slice none 0 0, .slice none 0 0] 46)).alloc (.cells #[.int .i64 0, .slice none 0 0, .slice none 0 0] 46)).heap.size := by simp
  go_enter Try.func29, Try.ntmps29
  go_wp2_with fail
  generalize ((w.alloc (.cells #[.int .i64 0, .slice none 0 0, .slice none 0 0] 46)).alloc (.cells #[.int .i64 0, .slice none 0 0, .slice none 0 0] 46)) = w0 at *
  refine (wpMsgs_nil w0).mono ?_
  rintro e w1 ⟨rfl, hb1⟩
  have x0 := keepc hb1 x0
  have x1 := keepc hb1 x1
  have x2 := keepc hb1 x2
  have y0 := keepc hb1 y0
  have y1 := keepc hb1 y1
  have y2 := keepc hb1 y2
  go_wp2
  go_loopw [5] (fun iv wr => iv = .int .i64 0 ∧ wr = w1) (fun _ _ => 0)
  case atStart => exact ⟨rfl, rfl⟩
  case round =>
    obtain ⟨rfl, rfl⟩ := hrel
    go_wp2
    go_ret
    exact ⟨rfl, hb0.trans (hb1.mono hb0.size)⟩
/-- A new world. -/
def worldNew (bad : Int) : WorldT := (bad, (upTo 4).map repNew, [])
theorem upTo4 : upTo 4 = [0, 1, 2, 3] := by decide
theorem okWorld_new {bad : Int} (h : inB bad 0 3 = true) : okWorld (worldNew bad) = true := by
  have e1 : okReps ((upTo 4).map repNew) := by
    intro i hi
    have hi4 : i < 4 := by simpa [upTo] using hi
    refine ⟨hi, ?_, ?_⟩
    · rw [List.getElem_map, upTo_get i hi4]
      exact okRep_new (by unfold inB; simp; omega)
    · rw [List.getElem_map, upTo_get i hi4]; rfl
  unfold okWorld worldNew
  simp only [h, e1]
  simp [upTo]
theorem agree_new {bad : Int} (h : inB bad 0 3 = true) : agreeW (worldNew bad) = true := by
  have e : hcl bad ((upTo 4).map repNew) = [] := by
    unfold hcl
    rw [List.flatMap_eq_nil_iff]
    intro r hr
    obtain ⟨m, _, rfl⟩ := List.mem_map.1 hr
    unfold doneH repNew
    split <;> rfl
  unfold agreeW
  rw [okWorld_new h]
  have : GoodL (worldNew bad).2.2 (hcl (worldNew bad).1 (worldNew bad).2.1) := by
    show GoodL [] (hcl bad ((upTo 4).map repNew))
    rw [e]
    exact GoodL.nil_ _
  simp [this]
end Go.Proofs.Ytphlnihmfgmecaa
