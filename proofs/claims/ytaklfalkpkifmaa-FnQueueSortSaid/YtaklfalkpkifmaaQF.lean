/-
  'rise' and 'sink': the plain functions, and the walks of 'l13Rise'.
-/
import Derived.Test.YtaklfalkpkifmaaQD
namespace Go.Proofs.Ytaklfalkpkifmaa
open Go.RowKit Rg
set_option linter.unusedVariables false

/-- Nothing below B is written but block g. -/
structure Only (B : Nat) (g : Option Nat) (w w' : World) : Prop where
  os : w'.os = w.os
  tape : w'.tape = w.tape
  output : w'.output = w.output
  size : w.heap.size ≤ w'.heap.size
  block : ∀ k, k < B → g ≠ some k → w'.heap[k]? = w.heap[k]?

section
variable {B B' : Nat} {g : Option Nat} {a w w' : World}
theorem Only.refl (B : Nat) (g : Option Nat) (w : World) : Only B g w w := ⟨rfl, rfl, rfl, Nat.le_refl _, fun _ _ _ => rfl⟩
theorem Only.trans (h : Only B g a w) (k : Only B g w w') : Only B g a w' := ⟨k.os.trans h.os, k.tape.trans h.tape, k.output.trans h.output, Nat.le_trans h.size k.size, fun j hj hne => (k.block j hj hne).trans (h.block j hj hne)⟩
theorem Only.of_below (h : Below B w w') : Only B g w w' := ⟨h.os, h.tape, h.output, h.size, fun k hk _ => h.block k hk⟩
theorem Only.mono (h : Only B g w w') (hB : B' ≤ B) : Only B' g w w' := ⟨h.os, h.tape, h.output, h.size, fun k hk => h.block k (by omega)⟩
theorem Only.of_grown (h : w.grownBy w' g) : Only w.heap.size g w w' := ⟨h.os, h.tape, h.output, h.size, fun k hk hne => h.block k hk (fun e => hne e.symm)⟩
theorem Only.toBelow (h : Only B g w w') (hB : B' ≤ B) (hg : ∀ k, g = some k → B' ≤ k) : Below B' w w' := ⟨h.os, h.tape, h.output, h.size, fun k hk => h.block k (by omega) (fun e => by have := hg k e; omega)⟩
theorem Only.put {g : Nat} (us : List Value) : ∀ {w : World} {j : Nat}, Only B (some g) a w → Only B (some g) a (putCells w g j us) := by
  induction us with
  | nil => intro w j h; exact h
  | cons u us ih =>
    intro w j h
    exact ih (h.trans ⟨rfl, rfl, rfl, by simp [World.setCell], fun k _ hne => Below.heap_setCell w ⟨g, j, none⟩ u k (fun e => hne (by rw [e]))⟩)
theorem Only.alloc (h : Only B g a w) (hB : B ≤ w.heap.size) (o : Obj) : Only B g a (w.alloc o) := h.trans (Only.of_below ((Below.refl B w).alloc hB o))
theorem Only.allocs {a w : World} {g : Option Nat} (h : Only a.heap.size g a w) (o : Obj) : Only a.heap.size g a (w.alloc o) := h.alloc h.size o
theorem Only.drew (h : Only B g a w) : Only B g a w.drew := ⟨h.os, h.tape, h.output, h.size, h.block⟩
theorem Own.only {α : Type} {enc : α → List Value} {sz lo : Nat} {e : TypeId} {v : Value} {xs : List α} (h : Own enc sz e w lo v xs) (ho : Only B g w w') (hB : w.heap.size ≤ B) (hne : ∀ k, v.ownBlock = some k → g ≠ some k) : Own enc sz e w' lo v xs :=
  h.keep fun b hb => ho.block b (by have := (h.lt b hb).2; omega) (hne b hb)
end

/-- Two places changed. -/
def swap (ys : List Tm) (i j : Nat) (hi : i < ys.length) (hj : j < ys.length) : List Tm := (ys.set i ys[j]).set j ys[i]
theorem swap_len (ys : List Tm) (i j : Nat) (hi : i < ys.length) (hj : j < ys.length) : (swap ys i j hi hj).length = ys.length := by simp [swap]

/-- What stands at k rises. -/
def riseAt (k : Nat) (ys : List Tm) : List Tm :=
  if h : 0 < k ∧ k < ys.length then
    if ltT (ys[k]'h.2) (ys[(k - 1) / 2]'(by omega)) = true then riseAt ((k - 1) / 2) (swap ys k ((k - 1) / 2) h.2 (by omega)) else ys
  else ys
termination_by k
decreasing_by omega
theorem riseAt_step {k : Nat} {ys : List Tm} (h0 : 0 < k) (hk : k < ys.length) (h : ltT ys[k] (ys[(k - 1) / 2]'(by omega)) = true) : riseAt k ys = riseAt ((k - 1) / 2) (swap ys k ((k - 1) / 2) hk (by omega)) := by
  rw [riseAt]; simp [h0, hk, h]
theorem riseAt_stop {k : Nat} {ys : List Tm} (hk : k < ys.length) (h : ltT ys[k] (ys[(k - 1) / 2]'(by omega)) = false) : riseAt k ys = ys := by
  rw [riseAt]; simp [hk, h]
theorem riseAt_zero {k : Nat} {ys : List Tm} (h : ¬ 0 < k) : riseAt k ys = ys := by
  rw [riseAt]; simp [h]

/-- The child that comes first. -/
def kid (i : Nat) (ys : List Tm) : Nat :=
  if h : 2 * i + 1 + 1 < ys.length then if ltT ys[2 * i + 1 + 1] ys[2 * i + 1] = true then 2 * i + 1 + 1 else 2 * i + 1 else 2 * i + 1
theorem kid_gt (i : Nat) (ys : List Tm) : i < kid i ys := by unfold kid; split <;> (try split) <;> omega
theorem kid_lt {i : Nat} {ys : List Tm} (h : 2 * i + 1 < ys.length) : kid i ys < ys.length := by unfold kid; split <;> (try split) <;> omega
/-- What stands at i sinks. -/
def sinkAt (i : Nat) (ys : List Tm) : List Tm :=
  if h : 2 * i + 1 < ys.length then
    if ltT (ys[kid i ys]'(kid_lt h)) ys[i] = true then sinkAt (kid i ys) (swap ys i (kid i ys) (by omega) (kid_lt h)) else ys
  else ys
termination_by ys.length - i
decreasing_by rw [swap_len]; have := kid_gt i ys; have := kid_lt h; omega
theorem sinkAt_step {i k : Nat} {ys : List Tm} (h : 2 * i + 1 < ys.length) (hk : k = kid i ys) (hl : ltT (ys[k]'(hk ▸ kid_lt h)) ys[i] = true) : sinkAt i ys = sinkAt k (swap ys i k (by omega) (hk ▸ kid_lt h)) := by
  subst hk
  rw [sinkAt]; simp [h, hl]
theorem sinkAt_stop {i k : Nat} {ys : List Tm} (h : 2 * i + 1 < ys.length) (hk : k = kid i ys) (hl : ltT (ys[k]'(hk ▸ kid_lt h)) ys[i] = false) : sinkAt i ys = ys := by
  subst hk
  rw [sinkAt]; simp [h, hl]
theorem sinkAt_end {i : Nat} {ys : List Tm} (h : ¬ 2 * i + 1 < ys.length) : sinkAt i ys = ys := by
  rw [sinkAt]; simp [h]

/-- Its cells. -/
theorem Own.tm {w : World} {lo g n c k : Nat} {e : TypeId} {xs : List Tm} (h : Own encT 3 e w lo (.slice (some ⟨g, 0, none⟩) n c) xs) (hk : k < xs.length) :
    w.cell? ⟨g, k * 3, none⟩ = some (.int .i64 xs[k].1) ∧ w.cell? ⟨g, k * 3 + 1, none⟩ = some (.int .i64 xs[k].2.1) ∧ w.cell? ⟨g, k * 3 + 2, none⟩ = some (.int .i64 xs[k].2.2) := by
  obtain ⟨rfl, _, hs⟩ := h.slAt encT_len
  have := hs.tm hk
  simp only [Nat.zero_add] at this
  exact this

/-- A thing written cell by cell. -/
theorem Own.putTm {w : World} {lo g n c k : Nat} {e : TypeId} {xs : List Tm} (h : Own encT 3 e w lo (.slice (some ⟨g, 0, none⟩) n c) xs) (hk : k < n) (t : Tm) :
    Own encT 3 e (((w.setCell ⟨g, k * 3, none⟩ (.int .i64 t.1)).setCell ⟨g, k * 3 + 1, none⟩ (.int .i64 t.2.1)).setCell ⟨g, k * 3 + 2, none⟩ (.int .i64 t.2.2)) lo (.slice (some ⟨g, 0, none⟩) n c) (xs.set k t) :=
  h.put_ encT_len hk t
theorem Only.putTm {B g j : Nat} {a w : World} (h : Only B (some g) a w) (t : Tm) :
    Only B (some g) a (((w.setCell ⟨g, j, none⟩ (.int .i64 t.1)).setCell ⟨g, j + 1, none⟩ (.int .i64 t.2.1)).setCell ⟨g, j + 2, none⟩ (.int .i64 t.2.2)) :=
  Only.put (encT t) h
theorem Own.swapTm {w : World} {lo g n c i j : Nat} {e : TypeId} {xs : List Tm} (h : Own encT 3 e w lo (.slice (some ⟨g, 0, none⟩) n c) xs) (hi : i < n) (hj : j < n) (hi' : i < xs.length) (hj' : j < xs.length) :
    Own encT 3 e ((((((w.setCell ⟨g, i * 3, none⟩ (.int .i64 xs[j].1)).setCell ⟨g, i * 3 + 1, none⟩ (.int .i64 xs[j].2.1)).setCell ⟨g, i * 3 + 2, none⟩ (.int .i64 xs[j].2.2)).setCell ⟨g, j * 3, none⟩ (.int .i64 xs[i].1)).setCell ⟨g, j * 3 + 1, none⟩ (.int .i64 xs[i].2.1)).setCell ⟨g, j * 3 + 2, none⟩ (.int .i64 xs[i].2.2)) lo (.slice (some ⟨g, 0, none⟩) n c) (swap xs i j hi' hj') :=
  (h.putTm hi xs[j]).putTm hj xs[i]

set_option maxHeartbeats 1000000 in
theorem rise_c (g n c lo : Nat) (xs : List Tm) (w : World) (hn : n = xs.length) (h0 : 0 < n) (hb : n ≤ 1048576) (ho : Own encT 3 31 w lo (.slice (some ⟨g, 0, none⟩) n c) xs) :
    Calls Try.prog 45 #[.slice (some ⟨g, 0, none⟩) n c] w fun e w' => e = .returned (.slice (some ⟨g, 0, none⟩) n c) ∧ Own encT 3 31 w' lo (.slice (some ⟨g, 0, none⟩) n c) (riseAt (n - 1) xs) ∧ Only w.heap.size (some g) w w' := by
  have hn' := hide hn
  clear hn
  go_enter Try.func45, Try.ntmps45
  go_wp2
  go_loopw [3, 4] (fun i _ wr => ∃ k : Nat, ∃ ys : List Tm, k < n ∧ i = .int .i64 k ∧ Hid (n = ys.length) ∧ Own encT 3 31 wr lo (.slice (some ⟨g, 0, none⟩) n c) ys ∧ Hid (riseAt k ys = riseAt (n - 1) xs) ∧ Only w.heap.size (some g) w wr) (fun i _ _ => (intOf i).toNat)
  case atStart => exact ⟨n - 1, xs, by omega, by go_num, hn', ho, hide rfl, Only.refl _ _ _⟩
  case round =>
    obtain ⟨k, ys, hk, rfl, hm, hor, he, hon⟩ := hrel
    have hlx : k < ys.length := by have := hm.out; omega
    have hlp : (k - 1) / 2 < ys.length := by omega
    have hgl := hor.addrAt (k := k) hk
    obtain ⟨a1, a2, a3⟩ := hor.tm hlx
    obtain ⟨p1, p2, p3⟩ := hor.tm hlp
    by_cases hk0 : 0 < k
    · have e3 : decide (0 < (k : Int)) = true := by simpa using hk0
      cases e2 : ltT ys[k] ys[(k - 1) / 2]
      · go_wp2
        refine wp_region_T (fun _ => True) [] [] [] [0, 1, 2, 3, 4, 5, 6, 7, 8, 9, 10, 11, 12, 13, 14] (by kernel_rfl) (by kernel_rfl) (by kernel_rfl) trivial ?_; simp only [pickL, List.getElem?_cons_succ, List.getElem?_cons_zero]
        go_wp2_with (first
          | ((with_reducible refine wpT_q0 ?_ ?_ ?_ ?_); (focus rfl); (focus rfl); (focus rfl); intro K hK) | ((with_reducible refine wpT_x0 ?_ ?_ ?_); (focus rfl); (focus rfl); intro K hK) | ((with_reducible refine wpT_noL ?_ ?_); (focus (first | exact wanted_no _ _ _ rfl rfl rfl | exact wanted_un _ _ _ rfl rfl rfl)); simp only [setO, List.set_cons_succ, List.set_cons_zero]) | ((with_reducible refine wpT_q1 ?_ ?_ ?_ ?_); (focus exact wanted_yes _ _ _ rfl rfl rfl); (focus rfl); (focus rfl); intro K hK) | ((with_reducible refine wpT_x1 ?_ ?_ ?_); (focus exact wanted_yes _ _ _ rfl rfl rfl); (focus rfl); intro K hK) | ((with_reducible refine wpT_nil ?_); try dsimp only)
          | (go_at_call 50; refine (less_t ys[k] ys[(k - 1) / 2] _).mono ?_; rintro e w1 ⟨rfl, hb1⟩; dsimp only))
        go_ret
        refine ⟨rfl, ?_, ?_⟩
        · have h5 := hor.drew.below hb1 (Nat.le_refl _)
          rw [← he.out, riseAt_stop hlx e2]
          exact h5
        · exact hon.drew.trans ((Only.of_below hb1).mono hon.size)
      · go_wp2
        refine wp_region_T (fun _ => True) [] [] [] [0, 1, 2, 3, 4, 5, 6, 7, 8, 9, 10, 11, 12, 13, 14] (by kernel_rfl) (by kernel_rfl) (by kernel_rfl) trivial ?_; simp only [pickL, List.getElem?_cons_succ, List.getElem?_cons_zero]
        go_wp2_with (first
          | ((with_reducible refine wpT_q0 ?_ ?_ ?_ ?_); (focus rfl); (focus rfl); (focus rfl); intro K hK) | ((with_reducible refine wpT_x0 ?_ ?_ ?_); (focus rfl); (focus rfl); intro K hK) | ((with_reducible refine wpT_noL ?_ ?_); (focus (first | exact wanted_no _ _ _ rfl rfl rfl | exact wanted_un _ _ _ rfl rfl rfl)); simp only [setO, List.set_cons_succ, List.set_cons_zero]) | ((with_reducible refine wpT_q1 ?_ ?_ ?_ ?_); (focus exact wanted_yes _ _ _ rfl rfl rfl); (focus rfl); (focus rfl); intro K hK) | ((with_reducible refine wpT_x1 ?_ ?_ ?_); (focus exact wanted_yes _ _ _ rfl rfl rfl); (focus rfl); intro K hK) | ((with_reducible refine wpT_nil ?_); try dsimp only)
          | (go_at_call 50; refine (less_t ys[k] ys[(k - 1) / 2] _).mono ?_; rintro e w1 ⟨rfl, hb1⟩; have ho1 := hor.drew.below hb1 (Nat.le_refl _); have f0 := ho1.frozen (k * 3); have f1 := ho1.frozen (k * 3 + 1); have f2 := ho1.frozen (k * 3 + 2); have y0 := ho1.frozen ((k - 1) / 2 * 3); have y1 := ho1.frozen ((k - 1) / 2 * 3 + 1); have y2 := ho1.frozen ((k - 1) / 2 * 3 + 2); obtain ⟨a1, a2, a3⟩ := ho1.tm hlx;  obtain ⟨p1, p2, p3⟩ := ho1.tm hlp; have hgs : g < w1.heap.size := (ho1.lt g rfl).2; have hgn : ¬ g = w1.heap.size := (by omega); have hgm : ¬ w1.heap.size = g := (by omega); dsimp only))
        go_roundw
        case rel =>
          refine ⟨(k - 1) / 2, swap ys k ((k - 1) / 2) hlx hlp, by omega, by go_num, hide (by rw [swap_len]; exact hm.out), ?_, hide ((riseAt_step hk0 hlx e2).symm.trans he.out), ?_⟩
          · exact (ho1.swapTm hk (by omega) hlx hlp).alloc _
          · exact ((((hon.drew.trans ((Only.of_below hb1).mono hon.size))).putTm ys[(k - 1) / 2]).putTm ys[k]).allocs _
        case measure => simp [intOf]; omega
    · have e3 : decide (0 < (k : Int)) = false := by simpa using hk0
      go_wp2
      refine wp_region_T (fun _ => True) [] [] [] [0, 1, 2, 3, 4, 5, 6, 7, 8, 9, 10, 11, 12, 13, 14] (by kernel_rfl) (by kernel_rfl) (by kernel_rfl) trivial ?_; simp only [pickL, List.getElem?_cons_succ, List.getElem?_cons_zero]
      go_wp2_with (first
        | ((with_reducible refine wpT_q0 ?_ ?_ ?_ ?_); (focus rfl); (focus rfl); (focus rfl); intro K hK) | ((with_reducible refine wpT_x0 ?_ ?_ ?_); (focus rfl); (focus rfl); intro K hK) | ((with_reducible refine wpT_noL ?_ ?_); (focus (first | exact wanted_no _ _ _ rfl rfl rfl | exact wanted_un _ _ _ rfl rfl rfl)); simp only [setO, List.set_cons_succ, List.set_cons_zero]) | ((with_reducible refine wpT_q1 ?_ ?_ ?_ ?_); (focus exact wanted_yes _ _ _ rfl rfl rfl); (focus rfl); (focus rfl); intro K hK) | ((with_reducible refine wpT_x1 ?_ ?_ ?_); (focus exact wanted_yes _ _ _ rfl rfl rfl); (focus rfl); intro K hK) | ((with_reducible refine wpT_nil ?_); try dsimp only)
        | fail)
      go_ret
      refine ⟨rfl, ?_, hon.drew⟩
      have h5 := hor.drew
      rw [← he.out, riseAt_zero hk0]
      exact h5
end Go.Proofs.Ytaklfalkpkifmaa
