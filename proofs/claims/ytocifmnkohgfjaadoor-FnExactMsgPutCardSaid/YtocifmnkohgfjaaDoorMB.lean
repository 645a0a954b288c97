/-
  The texts of rows and asks in both packages: 'row', 'ReqPut', 'l1Put', the words. (Printed by gen_mb.py.)
  Conditions: the library's table of powers of ten ('Tab') and the program's words ('WordsAt') read as their text lays them.
-/
import Derived.Test.YtocifmnkohgfjaaDoorMA
import Derived.Test.YtocifmnkohgfjaaDoorDR
import Derived.Test.YtocifmnkohgfjaaDoorRegS
namespace Go.Proofs.YtocifmnkohgfjaaDoor
open Go.RowKit Rg
open Go.Lib hiding intOf
set_option linter.unusedVariables false
set_option linter.unusedSimpArgs false

def encS : ByteArray → List Value := fun s => [.string s]
theorem encS_len : ∀ s, (encS s).length = 1 := fun _ => rfl
theorem Sl.str {w : World} {lo hi b off k : Nat} {xs : List ByteArray} (h : Sl encS 1 w lo hi (some ⟨b, off, none⟩) xs) (hk : k < xs.length) : w.cell? ⟨b, off + k, none⟩ = some (.string xs[k]) := by
  have := h.at_ hk 0 (.string xs[k]) rfl
  simpa using this
def opWs : List ByteArray := [asS [], asS [106, 111, 105, 110], asS [109, 111, 118, 101], asS [116, 97, 107, 101], asS [104, 105, 116], asS [103, 105, 118, 101]]
def kindWs : List ByteArray := [asS [], asS [97, 115, 107], asS [111, 102, 102, 101, 114], asS [121, 101, 115], asS [115, 117, 114, 101], asS [116, 117, 114, 110], asS [108, 101, 97, 100]]
theorem opWs_at {k : Nat} (hk : k < opWs.length) : opWs[k] = asS (opW (k : Int)) := by
  have h6 : k < 6 := hk
  rcases k with _ | _ | _ | _ | _ | _ | k <;> first | rfl | omega
theorem kindWs_at {k : Nat} (hk : k < kindWs.length) : kindWs[k] = asS (kindW (k : Int)) := by
  have h6 : k < 7 := hk
  rcases k with _ | _ | _ | _ | _ | _ | _ | k <;> first | rfl | omega
/-- A variable holds a list of words. -/
def SayAt (g : Nat) (ws : List ByteArray) (w : World) : Prop := ∃ b off c, w.cell? ⟨g, 0, none⟩ = some (.slice (some ⟨b, off, none⟩) ws.length c) ∧ ws.length ≤ c ∧ c ≤ maxLen ∧ b < w.heap.size ∧ Sl encS 1 w 0 w.heap.size (some ⟨b, off, none⟩) ws
theorem SayAt.below {g : Nat} {ws : List ByteArray} {w w' : World} (h : SayAt g ws w) (hb : Below w.heap.size w w') : SayAt g ws w' := by
  obtain ⟨b, off, c, h1, h2, h3, h4, h5⟩ := h
  exact ⟨b, off, c, keepc hb h1, h2, h3, Nat.lt_of_lt_of_le h4 hb.size, (h5.below hb (Nat.le_refl _)).mono (Nat.le_refl _) hb.size⟩
abbrev WordsAt (w : World) : Prop := SayAt 1 opWs w
abbrev KindsAt (w : World) : Prop := SayAt 0 kindWs w

theorem rowB_take (wd : List UInt8) (xs : List Int) (k : Nat) (hk : k < xs.length) : asS (rowB wd (xs.take k)) ++ (asS [32] ++ asS (itoa xs[k])) = asS (rowB wd (xs.take (k + 1))) := by
  rw [asS_app, asS_app]
  unfold rowB
  rw [List.take_succ_eq_append_getElem hk, List.flatMap_append]
  simp
theorem rowB_len (wd : List UInt8) (hwd : wd.length ≤ 10) : ∀ (xs : List Int), (∀ x ∈ xs, -1 ≤ x ∧ x ≤ 30) → (rowB wd xs).length ≤ 10 + 22 * xs.length := by
  intro xs hx
  have key : ∀ (xs : List Int), (∀ x ∈ xs, -1 ≤ x ∧ x ≤ 30) → (xs.flatMap fun x => 32 :: itoa x).length ≤ 22 * xs.length := by
    intro xs
    induction xs with
    | nil => intro _; simp
    | cons x xs ih =>
      intro h
      have h1 := itoa_small (h x (by simp)).1 (h x (by simp)).2
      have h2 := ih (fun y hy => h y (by simp [hy]))
      simp only [List.flatMap_cons, List.length_append, List.length_cons]
      omega
  have := key xs hx
  unfold rowB
  simp only [List.length_append]
  omega
theorem row_c (wd : List UInt8) (xs : List Int) (A : Option Addr) (n c lo hi : Nat) (w : World) (hn : n = xs.length) (hn3 : n ≤ 3) (hs : Sl encI 1 w lo hi A xs) (hhi : hi ≤ w.heap.size) (ht : Tab w) (hx : ∀ x ∈ xs, -1 ≤ x ∧ x ≤ 30) (hwd : wd.length ≤ 10) :
    Calls Tryd.prog 17 #[.string (asS wd), .slice A n c] w fun e w' => e = .returned (.string (asS (rowB wd xs))) ∧ Below w.heap.size w w' := by
  have hn' := hide hn
  clear hn
  go_enter Tryd.func17, Tryd.ntmps17
  go_wp2
  go_loopw [9, 0] (fun i sv wr => ∃ k : Nat, k ≤ n ∧ i = .int .i64 k ∧ sv = .string (asS (rowB wd (xs.take k))) ∧ Below w.heap.size w wr) (fun i _ _ => n - (intOf i).toNat)
  case atStart => exact ⟨0, Nat.zero_le _, rfl, by simp [rowB], Below.refl _ _⟩
  case round =>
    obtain ⟨k, hk, rfl, rfl, hbr⟩ := hrel
    by_cases hlt : k < n
    · have hlx : k < xs.length := by have := hn'.out; omega
      obtain ⟨b, off, rfl, hlo, hbh⟩ := hs.addr hlx
      have a1 := (hs.below hbr hhi).i64 hlx
      have hxk := hx _ (List.getElem_mem hlx)
      have htr := ht.below hbr
      have hI := lenI xs[k] (by omega) (by omega)
      have hR : (asS (rowB wd (xs.take k))).size ≤ 100 := by
        rw [asS_size]
        have := rowB_len wd hwd (xs.take k) (fun y hy => hx y (List.mem_of_mem_take hy))
        rw [List.length_take] at this
        omega
      have z1 : ¬ 9223372036854775807 < 1 + (asS (itoa xs[k])).size := by omega
      have z2 : ¬ 9223372036854775807 < (asS (rowB wd (xs.take k))).size + (1 + (asS (itoa xs[k])).size) := by omega
      have hq := hide (rowB_take wd xs k hlx)
      go_wp2_with fail
      refine (Itoa_c xs[k] (by omega) (by omega) _ htr).mono ?_
      rintro e w1 ⟨rfl, hb1⟩
      go_wp2
      go_roundw
      case rel => exact ⟨k + 1, by omega, by go_num, congrArg Value.string hq.out, hbr.trans (hb1.mono hbr.size)⟩
      case measure => simp [intOf]; omega
    · obtain rfl : k = n := by omega
      have hq : Hid (asS (rowB wd (xs.take k)) = asS (rowB wd xs)) := hide (by rw [List.take_of_length_le (by have := hn'.out; omega)])
      go_wp2
      go_ret
      exact ⟨congrArg (fun v => Ending.returned (.string v)) hq.out, hbr⟩
theorem l1Words_c (w : World) : Calls Tryd.prog 61 #[] w fun e w' => ∃ b, e = .returned (.slice (some ⟨b, 0, none⟩) 6 6) ∧ b = w.heap.size ∧ b < w'.heap.size ∧ Sl encS 1 w' 0 w'.heap.size (some ⟨b, 0, none⟩) opWs ∧ Below w.heap.size w w' := by
  have h1 := sl_arr encS_len w #[.string (asS []), .string (asS [106, 111, 105, 110]), .string (asS [109, 111, 118, 101]), .string (asS [116, 97, 107, 101]), .string (asS [104, 105, 116]), .string (asS [103, 105, 118, 101])] 9 opWs rfl
  go_enter Tryd.func61, Tryd.ntmps61
  go_wp2
  go_ret
  exact ⟨_, rfl, rfl, by simp, h1.mono (Nat.zero_le _) (by simp), (Below.refl _ _).alloc (Nat.le_refl _) _⟩
theorem l10Words_c (w : World) : Calls Tryd.prog 29 #[] w fun e w' => ∃ b, e = .returned (.slice (some ⟨b, 0, none⟩) 7 7) ∧ b = w.heap.size ∧ b < w'.heap.size ∧ Sl encS 1 w' 0 w'.heap.size (some ⟨b, 0, none⟩) kindWs ∧ Below w.heap.size w w' := by
  have h1 := sl_arr encS_len w #[.string (asS []), .string (asS [97, 115, 107]), .string (asS [111, 102, 102, 101, 114]), .string (asS [121, 101, 115]), .string (asS [115, 117, 114, 101]), .string (asS [116, 117, 114, 110]), .string (asS [108, 101, 97, 100])] 9 kindWs rfl
  go_enter Tryd.func29, Tryd.ntmps29
  go_wp2
  go_ret
  exact ⟨_, rfl, rfl, by simp, h1.mono (Nat.zero_le _) (by simp), (Below.refl _ _).alloc (Nat.le_refl _) _⟩
theorem join5_c (l1 l2 l3 l4 l5 : List UInt8) (h1 : l1.length ≤ 100) (h2 : l2.length ≤ 100) (h3 : l3.length ≤ 100) (h4 : l4.length ≤ 100) (h5 : l5.length ≤ 100) (w : World) :
    Calls Tryd.prog 46 #[.slice (some ⟨w.heap.size, 0, none⟩) 5 5, .string (asS [32])] (w.alloc (.cells #[.string (asS l1), .string (asS l2), .string (asS l3), .string (asS l4), .string (asS l5)] 9)) fun e w' =>
      e = .returned (.string (asS (l1 ++ 32 :: (l2 ++ 32 :: (l3 ++ 32 :: (l4 ++ 32 :: l5)))))) ∧ Below w.heap.size w w' := by
  have hsl := sl_arr encS_len w #[.string (asS l1), .string (asS l2), .string (asS l3), .string (asS l4), .string (asS l5)] 9 [asS l1, asS l2, asS l3, asS l4, asS l5] rfl
  have hj : Go.Lib.join ([asS l1, asS l2, asS l3, asS l4, asS l5].map (·.data.toList)) (asS [32]).data.toList = l1 ++ 32 :: (l2 ++ 32 :: (l3 ++ 32 :: (l4 ++ 32 :: l5))) := by
    simp [asS_list, Go.Lib.join]
  refine (strings_Join w.heap.size 0 5 [asS l1, asS l2, asS l3, asS l4, asS l5] (asS [32]) _ (fun j x hx => ?_) (by simp) (by simp) (by simp) (by rw [hj]; simp; omega)).mono ?_
  · have hj5 : j < [asS l1, asS l2, asS l3, asS l4, asS l5].length := by
      rcases Nat.lt_or_ge j [asS l1, asS l2, asS l3, asS l4, asS l5].length with h | h
      · exact h
      · rw [List.getElem?_eq_none h] at hx; cases hx
    rw [List.getElem?_eq_getElem hj5] at hx
    cases hx
    exact hsl.str hj5
  · rintro e w' ⟨rfl, hb⟩
    refine ⟨?_, ((Below.refl w.heap.size w).alloc (Nat.le_refl _) _).trans (hb.mono (by simp))⟩
    rw [hj]
    rfl
set_option maxRecDepth 100000 in
set_option maxHeartbeats 1000000 in
theorem ReqPut_c (r : ReqV) (w : World) (ht : Tab w) (hw : WordsAt w) :
    Calls Tryd.prog 18 #[.agg #[.int .i64 r.1, .int .i64 r.2.1, .int .i64 r.2.2.1, .int .i64 r.2.2.2.1, .int .i64 r.2.2.2.2]] w fun e w' => e = .returned (.string (asS (putR r))) ∧ Below w.heap.size w w' := by
  obtain ⟨a, b, c, x, y⟩ := r
  simp only
  have hq := fun W => run_eq_req (a, b, c, x, y) (0, 0, 0, 0, 0) W
  simp only at hq
  cases e0 : noneR (a, b, c, x, y)
  · have e0' : decide ((a, b, c, x, y) = ((0, 0, 0, 0, 0) : ReqV)) = false := e0
    rw [e0'] at hq
    cases e1 : okR (a, b, c, x, y)
    · have hp : Hid (asS (putR (a, b, c, x, y)) = asS []) := hide (by unfold putR; rw [e0, e1]; rfl)
      have hA := (Below.refl w.heap.size w).alloc (Nat.le_refl _) (.cells #[.int .i64 a, .int .i64 b, .int .i64 c, .int .i64 x, .int .i64 y] 30)
      go_enter Tryd.func18, Tryd.ntmps18
      go_wp2_with fail
      refine (ReqOk_c a b c x y _).mono ?_
      rintro e w1 ⟨rfl, hb1⟩
      rw [e1]
      go_wp2
      go_ret
      exact ⟨congrArg (fun v => Ending.returned (.string v)) hp.out.symm, hA.trans (hb1.mono hA.size)⟩
    · obtain ⟨⟨ha0, ha1⟩, ⟨hb0, hb1⟩, ⟨hc0, hc1⟩, ⟨hx0, hx1⟩, ⟨hy0, hy1⟩⟩ := okR_rng e1
      simp only at ha0 ha1 hb0 hb1 hc0 hc1 hx0 hx1 hy0 hy1
      obtain ⟨k, rfl⟩ : ∃ k : Nat, c = (k : Int) := ⟨c.toNat, by omega⟩
      have hp : Hid (asS (putR (a, b, (k : Int), x, y)) = asS (itoa a ++ 32 :: (itoa b ++ 32 :: (opW (k : Int) ++ 32 :: (itoa x ++ 32 :: itoa y))))) := hide (by unfold putR; rw [e0, e1]; rfl)
      have hA := (Below.refl w.heap.size w).alloc (Nat.le_refl _) (.cells #[.int .i64 a, .int .i64 b, .int .i64 (k : Int), .int .i64 x, .int .i64 y] 30)
      have y0 : (w.alloc (.cells #[.int .i64 a, .int .i64 b, .int .i64 (k : Int), .int .i64 x, .int .i64 y] 30)).cell? ⟨w.heap.size, 0, none⟩ = some (.int .i64 a) := by simp
      have y1 : (w.alloc (.cells #[.int .i64 a, .int .i64 b, .int .i64 (k : Int), .int .i64 x, .int .i64 y] 30)).cell? ⟨w.heap.size, 1, none⟩ = some (.int .i64 b) := by simp
      have y2 : (w.alloc (.cells #[.int .i64 a, .int .i64 b, .int .i64 (k : Int), .int .i64 x, .int .i64 y] 30)).cell? ⟨w.heap.size, 2, none⟩ = some (.int .i64 (k : Int)) := by simp
      have y3 : (w.alloc (.cells #[.int .i64 a, .int .i64 b, .int .i64 (k : Int), .int .i64 x, .int .i64 y] 30)).cell? ⟨w.heap.size, 3, none⟩ = some (.int .i64 x) := by simp
      have y4 : (w.alloc (.cells #[.int .i64 a, .int .i64 b, .int .i64 (k : Int), .int .i64 x, .int .i64 y] 30)).cell? ⟨w.heap.size, 4, none⟩ = some (.int .i64 y) := by simp
      have hsz0 : w.heap.size < (w.alloc (.cells #[.int .i64 a, .int .i64 b, .int .i64 (k : Int), .int .i64 x, .int .i64 y] 30)).heap.size := by simp
      go_enter Tryd.func18, Tryd.ntmps18
      go_wp2_with fail
      generalize w.alloc (.cells #[.int .i64 a, .int .i64 b, .int .i64 (k : Int), .int .i64 x, .int .i64 y] 30) = v0 at *
      refine (ReqOk_c a b (k : Int) x y _).mono ?_
      rintro e v1 ⟨rfl, hv1⟩
      rw [e1]
      have y0 := keepc hv1 y0
      have y1 := keepc hv1 y1
      have y2 := keepc hv1 y2
      have y3 := keepc hv1 y3
      have y4 := keepc hv1 y4
      have hB := hA.trans (hv1.mono hA.size)
      have ht := ht.below hB
      have hw := hw.below hB
      obtain ⟨gb, go, gc, xg, gc1, gc2, gb1, gsl⟩ := hw
      have hgk : k < opWs.length := by show k < 6; omega
      have xw := gsl.str hgk
      rw [opWs_at hgk] at xw
      have h6 : opWs.length = 6 := rfl
      rw [h6] at xg gc1
      have hk6 : k < 6 := by omega
      have hz1 := hv1.size
      clear h6 hgk gsl
      have hl1 : w.heap.size < v1.heap.size := by omega
      have hg1 : 1 < v1.heap.size := lt_of_cell xg
      go_wp2
      refine wp_region_T (Since _) [30] [] [15, 17, 19, 20, 21, 23, 26] [0, 1, 3, 4, 6, 7, 8, 9, 10, 11, 12, 14, 15, 2, 5, 13, 16, 17, 18, 19] (by kernel_rfl) (by kernel_rfl) (by kernel_rfl) (Since.drew _) ?_; simp only [pickL, List.getElem?_cons_succ, List.getElem?_cons_zero]
      have hD := (Below.refl v1.heap.size v1).drew
      have y0 := keepc hD y0
      have y1 := keepc hD y1
      have y2 := keepc hD y2
      have y3 := keepc hD y3
      have y4 := keepc hD y4
      have xg := keepc hD xg
      have xw := keepc hD xw
      have hB := hB.trans (hD.mono hB.size)
      have ht := ht.below hD
      have hS : Since v1 v1.drew := Since.drew _
      have hb := hD
      clear hD
      generalize v1.drew = v2 at *
      go_wp2_with (first
        | (with_reducible refine Since.and_ ?_ ?_; (focus (repeat (first | (with_reducible exact Since.refl _) | assumption | (with_reducible refine Since.drewR ?_) | (with_reducible refine Since.alloc ?_ _) | ((with_reducible apply Since.below); rotate_left; (focus assumption))))); intro hS) | ((with_reducible refine wpT_q0 ?_ ?_ ?_ ?_); (focus rfl); (focus rfl); (focus rfl); intro K hK) | ((with_reducible refine wpT_i ?_ ?_); (focus (refine ⟨_, _, _, _, _, _, _, _, rfl, rfl, rfl, rfl, rfl, ?_⟩; omega)); intro K hK) | ((with_reducible refine wpT_bs ?_ ?_); (focus (exact ⟨_, _, _, _, _, _, rfl, rfl, rfl, rfl, rfl⟩)); intro K hK) | ((with_reducible apply wpT_l); (focus rfl); (focus rfl); (focus rfl); (focus rfl); (focus (first | exact Since.drew _ | assumption)); (focus (simp <;> omega)); (focus go_simp); intro K hK) | ((with_reducible refine wpT_xs0 ?_ ?_ ?_); (focus rfl); (focus rfl); intro K hK) | ((with_reducible refine wpT_nil ?_); try dsimp only)
        | (go_at_call 45; refine (Itoa_c _ (by omega) (by omega) _ ht).mono ?_; rintro e wn ⟨rfl, hbn⟩; have ht := ht.below hbn; have hB := hB.trans (hbn.mono hB.size); have hb := hbn; clear hbn)
        | (go_at_call 46; refine (join5_c _ _ _ _ _ (Nat.le_trans (itoa_small (by omega) (by omega)) (by omega)) (Nat.le_trans (itoa_small (by omega) (by omega)) (by omega)) (Nat.le_trans (opW_len _) (by omega)) (Nat.le_trans (itoa_small (by omega) (by omega)) (by omega)) (Nat.le_trans (itoa_small (by omega) (by omega)) (by omega)) _).mono ?_; rintro e wj ⟨rfl, hbj⟩; have hB := hB.trans (hbj.mono hB.size); have hb := hbj; clear hbj)
        | fail)
      go_ret
      exact ⟨congrArg (fun v => Ending.returned (.string v)) hp.out.symm, hB⟩
  · obtain ⟨rfl, rfl, rfl, rfl, rfl⟩ : a = 0 ∧ b = 0 ∧ c = 0 ∧ x = 0 ∧ y = 0 := by
      have := of_decide_eq_true e0
      simpa using this
    have hp : Hid (asS (putR (0, 0, 0, 0, 0)) = asS [110, 111, 110, 101]) := hide (by unfold putR; rw [e0]; rfl)
    go_enter Tryd.func18, Tryd.ntmps18
    go_wp2
    go_ret
    exact ⟨congrArg (fun v => Ending.returned (.string v)) hp.out.symm, (Below.refl _ _).alloc (Nat.le_refl _) _⟩

set_option maxRecDepth 100000 in
set_option maxHeartbeats 4000000 in
theorem l1Put_c (r : ReqV) (w : World) (hr : okR r = true) :
    Calls Tryd.prog 52 #[.agg #[.int .i64 r.1, .int .i64 r.2.1, .int .i64 r.2.2.1, .int .i64 r.2.2.2.1, .int .i64 r.2.2.2.2]] w fun e w' => e = .returned (.string (asS (putOk r))) ∧ Below w.heap.size w w' := by
  obtain ⟨a, b, c, x, y⟩ := r
  simp only
  obtain ⟨⟨ha0, ha1⟩, ⟨hb0, hb1⟩, ⟨hc0, hc1⟩, ⟨hx0, hx1⟩, ⟨hy0, hy1⟩⟩ := okR_rng hr
  simp only at ha0 ha1 hb0 hb1 hc0 hc1 hx0 hx1 hy0 hy1
  obtain ⟨k, rfl⟩ : ∃ k : Nat, c = (k : Int) := ⟨c.toNat, by omega⟩
  have s1 := itoa_small (n := a) (by omega) (by omega)
  have s2 := itoa_small (n := b) (by omega) (by omega)
  have s3 := opW_len (k : Int)
  have s4 := itoa_small (n := x) (by omega) (by omega)
  have s5 := itoa_small (n := y) (by omega) (by omega)
  rw [← asS_size] at s1 s2 s3 s4 s5
  have z1 : ¬ 9223372036854775807 < (asS (itoa a)).size + 1 := by omega
  have z2 : ¬ 9223372036854775807 < (asS (itoa a)).size + 1 + (asS (itoa b)).size := by omega
  have z3 : ¬ 9223372036854775807 < (asS (itoa a)).size + 1 + (asS (itoa b)).size + 1 := by omega
  have z4 : ¬ 9223372036854775807 < (asS (itoa a)).size + 1 + (asS (itoa b)).size + 1 + (asS (opW (k : Int))).size := by omega
  have z5 : ¬ 9223372036854775807 < (asS (itoa a)).size + 1 + (asS (itoa b)).size + 1 + (asS (opW (k : Int))).size + 1 := by omega
  have z6 : ¬ 9223372036854775807 < (asS (itoa a)).size + 1 + (asS (itoa b)).size + 1 + (asS (opW (k : Int))).size + 1 + (asS (itoa x)).size := by omega
  have z7 : ¬ 9223372036854775807 < (asS (itoa a)).size + 1 + (asS (itoa b)).size + 1 + (asS (opW (k : Int))).size + 1 + (asS (itoa x)).size + 1 := by omega
  have z8 : ¬ 9223372036854775807 < (asS (itoa a)).size + 1 + (asS (itoa b)).size + 1 + (asS (opW (k : Int))).size + 1 + (asS (itoa x)).size + 1 + (asS (itoa y)).size := by omega
  have hp : Hid ((((((((asS (itoa a) ++ asS [32]) ++ asS (itoa b)) ++ asS [32]) ++ asS (opW (k : Int))) ++ asS [32]) ++ asS (itoa x)) ++ asS [32]) ++ asS (itoa y) = asS (putOk (a, b, (k : Int), x, y))) := hide (by
    simp only [asS_app]
    unfold putOk
    simp only [List.append_assoc, List.singleton_append, List.cons_append, List.nil_append])
  have hA := (Below.refl w.heap.size w).alloc (Nat.le_refl _) (.cells #[.int .i64 a, .int .i64 b, .int .i64 (k : Int), .int .i64 x, .int .i64 y] 30)
  have y0 : (w.alloc (.cells #[.int .i64 a, .int .i64 b, .int .i64 (k : Int), .int .i64 x, .int .i64 y] 30)).cell? ⟨w.heap.size, 0, none⟩ = some (.int .i64 a) := by simp
  have y1 : (w.alloc (.cells #[.int .i64 a, .int .i64 b, .int .i64 (k : Int), .int .i64 x, .int .i64 y] 30)).cell? ⟨w.heap.size, 1, none⟩ = some (.int .i64 b) := by simp
  have y2 : (w.alloc (.cells #[.int .i64 a, .int .i64 b, .int .i64 (k : Int), .int .i64 x, .int .i64 y] 30)).cell? ⟨w.heap.size, 2, none⟩ = some (.int .i64 (k : Int)) := by simp
  have y3 : (w.alloc (.cells #[.int .i64 a, .int .i64 b, .int .i64 (k : Int), .int .i64 x, .int .i64 y] 30)).cell? ⟨w.heap.size, 3, none⟩ = some (.int .i64 x) := by simp
  have y4 : (w.alloc (.cells #[.int .i64 a, .int .i64 b, .int .i64 (k : Int), .int .i64 x, .int .i64 y] 30)).cell? ⟨w.heap.size, 4, none⟩ = some (.int .i64 y) := by simp
  have hl1 : w.heap.size < (w.alloc (.cells #[.int .i64 a, .int .i64 b, .int .i64 (k : Int), .int .i64 x, .int .i64 y] 30)).heap.size := by simp
  go_enter Tryd.func52, Tryd.ntmps52
  go_wp2
  generalize w.alloc (.cells #[.int .i64 a, .int .i64 b, .int .i64 (k : Int), .int .i64 x, .int .i64 y] 30) = v1 at *
  refine wp_region_O (Since _) [30] [16] [6, 8, 10, 11, 14, 15, 17, 18, 20, 22, 23, 25] (Ord.seg [0, 1, 4, 5, 10, 11, 16, 17, 21, 22, 2, 3, 6, 7, 8, 9, 12] (Ord.both 13 18 (Ord.seg [14, 15, 18, 19, 20, 23, 24, 25] Ord.done) (Ord.seg [] (Ord.both 13 23 (Ord.seg [14, 15, 19, 20, 23, 24, 25] Ord.done) (Ord.seg [13, 14, 15, 19, 20, 24, 25] Ord.done))))) (by kernel_rfl) (by kernel_rfl) (by kernel_rfl) (Since.drew _) ?_
  have hD := (Below.refl v1.heap.size v1).drew
  have y0 := keepc hD y0
  have y1 := keepc hD y1
  have y2 := keepc hD y2
  have y3 := keepc hD y3
  have y4 := keepc hD y4
  have hB := hA.trans (hD.mono hA.size)
  have hS : Since v1 v1.drew := Since.drew _
  have hb := hD
  have hk6 : k < 6 := by omega
  clear hD
  generalize v1.drew = v2 at *
  go_wp2_with (first
    | ((with_reducible refine wpO_seg ?_); simp only [pickL, List.toList_toArray, List.getElem?_cons_succ, List.getElem?_cons_zero]) | ((with_reducible refine wpO_both ?_ ?_) <;> simp only [pickL, List.toList_toArray, List.getElem?_cons_succ, List.getElem?_cons_zero]) | ((with_reducible refine wpO_done ?_); try dsimp only) | (with_reducible refine Since.and_ ?_ ?_; (focus (repeat (first | (with_reducible exact Since.refl _) | assumption | (with_reducible refine Since.drewR ?_) | (with_reducible refine Since.alloc ?_ _) | ((with_reducible apply Since.below); rotate_left; (focus assumption))))); intro hS) | ((with_reducible refine wpT_q0 ?_ ?_ ?_ ?_); (focus rfl); (focus rfl); (focus rfl); intro K hK) | ((with_reducible refine wpT_i ?_ ?_); (focus (refine ⟨_, _, _, _, _, _, _, _, rfl, rfl, rfl, rfl, rfl, ?_⟩; omega)); intro K hK) | ((with_reducible refine wpT_bs ?_ ?_); (focus (exact ⟨_, _, _, _, _, _, rfl, rfl, rfl, rfl, rfl⟩)); intro K hK) | ((with_reducible apply wpT_l); (focus rfl); (focus rfl); (focus rfl); (focus rfl); (focus (first | exact Since.drew _ | assumption)); (focus (simp <;> omega)); (focus go_simp); intro K hK) | ((with_reducible refine wpT_xs0 ?_ ?_ ?_); (focus rfl); (focus rfl); intro K hK) | ((with_reducible refine wpT_nil ?_); try dsimp only)
    | (go_at_call 61; refine (l1Words_c _).mono ?_; rintro e wn ⟨gb, rfl, hgb, hgl, gsl, hbn⟩; have xw := gsl.str (show k < opWs.length from hk6); rw [opWs_at (show k < opWs.length from hk6), Nat.zero_add] at xw; clear gsl hgb; have hB := hB.trans (hbn.mono hB.size); have hb := hbn; clear hbn)
    | (go_at_call 30; refine (l1Dec_c _ (by omega) (by omega) _).mono ?_; rintro e wn ⟨rfl, hbn⟩; (try have xw := keepc hbn xw); (try have hgl := Nat.lt_of_lt_of_le hgl hbn.size); have hB := hB.trans (hbn.mono hB.size); have hb := hbn; clear hbn)
    | fail)
  all_goals
    go_ret
    exact ⟨congrArg (fun v => Ending.returned (.string v)) hp.out, hB⟩
set_option maxRecDepth 100000 in
set_option maxHeartbeats 1000000 in
theorem specReqPut_c (r : ReqV) (w : World) :
    Calls Tryd.prog 31 #[.agg #[.int .i64 r.1, .int .i64 r.2.1, .int .i64 r.2.2.1, .int .i64 r.2.2.2.1, .int .i64 r.2.2.2.2]] w fun e w' => e = .returned (.string (asS (putR r))) ∧ Below w.heap.size w w' := by
  obtain ⟨a, b, c, x, y⟩ := r
  simp only
  have hA := (Below.refl w.heap.size w).alloc (Nat.le_refl _) (.cells #[.int .i64 a, .int .i64 b, .int .i64 c, .int .i64 x, .int .i64 y] 30)
  have y0 : (w.alloc (.cells #[.int .i64 a, .int .i64 b, .int .i64 c, .int .i64 x, .int .i64 y] 30)).cell? ⟨w.heap.size, 0, none⟩ = some (.int .i64 a) := by simp
  have y1 : (w.alloc (.cells #[.int .i64 a, .int .i64 b, .int .i64 c, .int .i64 x, .int .i64 y] 30)).cell? ⟨w.heap.size, 1, none⟩ = some (.int .i64 b) := by simp
  have y2 : (w.alloc (.cells #[.int .i64 a, .int .i64 b, .int .i64 c, .int .i64 x, .int .i64 y] 30)).cell? ⟨w.heap.size, 2, none⟩ = some (.int .i64 c) := by simp
  have y3 : (w.alloc (.cells #[.int .i64 a, .int .i64 b, .int .i64 c, .int .i64 x, .int .i64 y] 30)).cell? ⟨w.heap.size, 3, none⟩ = some (.int .i64 x) := by simp
  have y4 : (w.alloc (.cells #[.int .i64 a, .int .i64 b, .int .i64 c, .int .i64 x, .int .i64 y] 30)).cell? ⟨w.heap.size, 4, none⟩ = some (.int .i64 y) := by simp
  have hl1 : w.heap.size < (w.alloc (.cells #[.int .i64 a, .int .i64 b, .int .i64 c, .int .i64 x, .int .i64 y] 30)).heap.size := by simp
  go_enter Tryd.func31, Tryd.ntmps31
  go_wp2_with fail
  generalize w.alloc (.cells #[.int .i64 a, .int .i64 b, .int .i64 c, .int .i64 x, .int .i64 y] 30) = v0 at *
  refine (l1None_c a b c x y _).mono ?_
  rintro e v1 ⟨rfl, hb1⟩
  have y0 := keepc hb1 y0
  have y1 := keepc hb1 y1
  have y2 := keepc hb1 y2
  have y3 := keepc hb1 y3
  have y4 := keepc hb1 y4
  have hB := hA.trans (hb1.mono hA.size)
  have hl1 := Nat.lt_of_lt_of_le hl1 hb1.size
  cases e0 : noneR (a, b, c, x, y)
  · go_wp2_with fail
    refine (l1Ok_c a b c x y _).mono ?_
    rintro e v2 ⟨rfl, hb2⟩
    have y0 := keepc hb2 y0
    have y1 := keepc hb2 y1
    have y2 := keepc hb2 y2
    have y3 := keepc hb2 y3
    have y4 := keepc hb2 y4
    have hB := hB.trans (hb2.mono hB.size)
    have hl1 := Nat.lt_of_lt_of_le hl1 hb2.size
    cases e1 : okR (a, b, c, x, y)
    · have hp : Hid (asS (putR (a, b, c, x, y)) = asS []) := hide (by unfold putR; rw [e0, e1]; rfl)
      go_wp2
      go_ret
      exact ⟨congrArg (fun v => Ending.returned (.string v)) hp.out.symm, hB⟩
    · have hp : Hid (asS (putR (a, b, c, x, y)) = asS (putOk (a, b, c, x, y))) := hide (by unfold putR; rw [e0, e1]; rfl)
      go_wp2_with fail
      refine (l1Put_c (a, b, c, x, y) _ e1).mono ?_
      rintro e v3 ⟨rfl, hb3⟩
      rw [← hp.out]
      go_wp2
      go_ret
      exact ⟨rfl, hB.trans (hb3.mono hB.size)⟩
  · have hp : Hid (asS (putR (a, b, c, x, y)) = asS [110, 111, 110, 101]) := hide (by unfold putR; rw [e0]; rfl)
    go_wp2
    go_ret
    exact ⟨congrArg (fun v => Ending.returned (.string v)) hp.out.symm, hB⟩
end Go.Proofs.YtocifmnkohgfjaaDoor
