/-
  The texts of claims in both packages: 'claimRows', 'l10Claims'. (Printed by gen_mc.py.)
  Conditions: 'claimRows' reads the library's table of powers of ten and the program's words.
-/
import Derived.Test.YtocifmnkohgfjaaDoorMB
namespace Go.Proofs.YtocifmnkohgfjaaDoor
open Go.RowKit Rg
open Go.Lib hiding intOf
set_option linter.unusedVariables false
set_option linter.unusedSimpArgs false


theorem _root_.Go.Lib.BuilderAtF.below {T e : TypeId} {B b : Nat} {p : Value} {bs : List Value} {w w' : World} (h : BuilderAtF T e B b p bs w) (hb : Below w.heap.size w w') : BuilderAtF T e B b p bs w' := by
  obtain ⟨h1, v, h2, h3, h4⟩ := h
  exact ⟨h1, v, (hb.block b (lt_of_heap h2)).trans h2, h3.kept (row := none) ⟨hb.os, hb.tape, hb.output, hb.size, fun k hk _ => hb.block k hk⟩ (by cases h : v.ownBlock <;> simp), h4⟩
theorem _root_.Go.Lib.IsBuilderF.below {T e : TypeId} {B b : Nat} {bs : List Value} {w w' : World} (h : IsBuilderF T e B b bs w) (hb : Below w.heap.size w w') : IsBuilderF T e B b bs w' := h.imp (·.below hb) (·.below hb)
theorem Rg.Stays.alloc {b : Nat} {o : Option Obj} {w : World} (h : Stays b o w) (hl : b < w.heap.size) (ob : Obj) : Stays b o (w.alloc ob) := ⟨(((Below.refl w.heap.size w).alloc (Nat.le_refl _) ob).block b hl).trans h.heap⟩
theorem Rg.Stays.below {b : Nat} {o : Obj} {w w' : World} (h : Stays b (some o) w) (hb : Below w.heap.size w w') : Stays b (some o) w' := ⟨(hb.block b (lt_of_heap h.heap)).trans h.heap⟩
theorem putC_text (c : ClaimT) : ((asS (rowB [99, 108, 97, 105, 109] [c.1, c.2.1]) ++ asS [32]) ++ asS (putR c.2.2)) ++ asS [10] = asS (putC c) := by
  simp only [asS_app]
  unfold putC rowB
  simp
set_option maxRecDepth 100000 in
set_option maxHeartbeats 2000000 in
theorem claimRows_c (A : Option Addr) (n c lo hi : Nat) (ts : List ClaimT) (w : World) (hs : RdN 7 clR w lo hi A n c ts) (hhi : hi ≤ w.heap.size) (hok : ∀ x ∈ ts, okCl x = true) (hlen : ts.length ≤ 1048576) (ht : Tab w) (hw : WordsAt w) :
    Calls Tryd.prog 19 #[.slice A n c] w fun e w' => e = .returned (.string (asS (putCs ts))) ∧ Below w.heap.size w w' := by
  have hn' := hide hs.len
  have hc1 := hs.cap
  have hc2 := hs.max
  unfold maxLen at hc2
  have hA := (Below.refl w.heap.size w).alloc (Nat.le_refl _) (.cells #[.pointer none, .slice none 0 0] 75)
  have hF : IsBuilderF 75 5 w.heap.size w.heap.size (byteCells (putCs (ts.take 0))) (w.alloc (.cells #[.pointer none, .slice none 0 0] 75)) := IsBuilderF.of (fresh_isBuilder _ _ w)
  have hlw : w.heap.size < (w.alloc (.cells #[.pointer none, .slice none 0 0] 75)).heap.size := by simp
  go_enter Tryd.func19, Tryd.ntmps19
  go_wp2
  generalize w.alloc (.cells #[.pointer none, .slice none 0 0] 75) = wa at *
  go_loopw [8] (fun i wr => ∃ k : Nat, k ≤ n ∧ i = .int .i64 k ∧ IsBuilderF 75 5 w.heap.size w.heap.size (byteCells (putCs (ts.take k))) wr ∧ w.heap.size < wr.heap.size ∧ Below w.heap.size w wr) (fun i _ => n - (intOf i).toNat)
  case atStart => exact ⟨0, Nat.zero_le _, rfl, hF, hlw, hA⟩
  case round =>
    obtain ⟨k, hk, rfl, hbu, hzb, hbr⟩ := hrel
    have hzr := hbr.size
    by_cases hlt : k < n
    · have hlx : k < ts.length := by have := hn'.out; omega
      obtain ⟨b, off, rfl, hlo, hbh⟩ := hs.addr hlx
      obtain ⟨a0, a1, a2, a3, a4, a5, a6⟩ := (hs.below (flat_kept _) hbr hhi).claim hlx
      have hokk := hok _ (List.getElem_mem hlx)
      obtain ⟨⟨p0, p1⟩, ⟨q0, q1⟩⟩ := okCl_rng hokk
      have hxs : ∀ x ∈ [ts[k].1, ts[k].2.1], -1 ≤ x ∧ x ≤ 30 := by
        intro x hx
        simp only [List.mem_cons, List.not_mem_nil, or_false] at hx
        rcases hx with rfl | rfl <;> omega
      have r1 := rowB_len [99, 108, 97, 105, 109] (by simp) _ hxs
      have r2 := putR_len ts[k].2.2
      rw [← asS_size] at r1 r2
      simp only [List.length_cons, List.length_nil] at r1
      have z0 : ¬ 9223372036854775807 < (asS (rowB [99, 108, 97, 105, 109] [ts[k].1, ts[k].2.1])).size + 1 := by omega
      have z1 : ¬ 9223372036854775807 < (asS (rowB [99, 108, 97, 105, 109] [ts[k].1, ts[k].2.1])).size + 1 + (asS (putR ts[k].2.2)).size := by omega
      have z2 : ¬ 9223372036854775807 < (asS (rowB [99, 108, 97, 105, 109] [ts[k].1, ts[k].2.1])).size + 1 + (asS (putR ts[k].2.2)).size + 1 := by omega
      clear r1 r2
      have hq := hide (putC_text ts[k])
      have hW := hide (fun (W : World) (h : IsBuilderF 75 5 w.heap.size w.heap.size (byteCells (putCs (ts.take k))) W) (hle : w.heap.size ≤ W.heap.size) => Builder_WriteString w.heap.size w.heap.size _ (((asS (rowB [99, 108, 97, 105, 109] [ts[k].1, ts[k].2.1]) ++ asS [32]) ++ asS (putR ts[k].2.2)) ++ asS [10]) W h (by
        rw [hq.out, byteCells_length, asS_size]
        have h1 := putC_len hokk
        have h2 := putCs_len (cs := ts.take k) (fun x hx => hok x (List.mem_of_mem_take hx))
        rw [List.length_take] at h2
        omega) hle)
      have hcells : Hid (byteCells (putCs (ts.take k)) ++ strCells (((asS (rowB [99, 108, 97, 105, 109] [ts[k].1, ts[k].2.1]) ++ asS [32]) ++ asS (putR ts[k].2.2)) ++ asS [10]) = byteCells (putCs (ts.take (k + 1)))) := hide (by
        rw [hq.out, putCs_take ts k hlx, byteCells_append]
        rfl)
      have hAc := (Below.refl wr.heap.size wr).alloc (Nat.le_refl _) (.cells #[.int .i64 ts[k].1, .int .i64 ts[k].2.1, .int .i64 ts[k].2.2.1, .int .i64 ts[k].2.2.2.1, .int .i64 ts[k].2.2.2.2.1, .int .i64 ts[k].2.2.2.2.2.1, .int .i64 ts[k].2.2.2.2.2.2] 63)
      have y0 : (wr.alloc (.cells #[.int .i64 ts[k].1, .int .i64 ts[k].2.1, .int .i64 ts[k].2.2.1, .int .i64 ts[k].2.2.2.1, .int .i64 ts[k].2.2.2.2.1, .int .i64 ts[k].2.2.2.2.2.1, .int .i64 ts[k].2.2.2.2.2.2] 63)).cell? ⟨wr.heap.size, 0, none⟩ = some (.int .i64 ts[k].1) := by simp
      have y1 : (wr.alloc (.cells #[.int .i64 ts[k].1, .int .i64 ts[k].2.1, .int .i64 ts[k].2.2.1, .int .i64 ts[k].2.2.2.1, .int .i64 ts[k].2.2.2.2.1, .int .i64 ts[k].2.2.2.2.2.1, .int .i64 ts[k].2.2.2.2.2.2] 63)).cell? ⟨wr.heap.size, 1, none⟩ = some (.int .i64 ts[k].2.1) := by simp
      have y2 : (wr.alloc (.cells #[.int .i64 ts[k].1, .int .i64 ts[k].2.1, .int .i64 ts[k].2.2.1, .int .i64 ts[k].2.2.2.1, .int .i64 ts[k].2.2.2.2.1, .int .i64 ts[k].2.2.2.2.2.1, .int .i64 ts[k].2.2.2.2.2.2] 63)).cell? ⟨wr.heap.size, 2, none⟩ = some (.int .i64 ts[k].2.2.1) := by simp
      have y3 : (wr.alloc (.cells #[.int .i64 ts[k].1, .int .i64 ts[k].2.1, .int .i64 ts[k].2.2.1, .int .i64 ts[k].2.2.2.1, .int .i64 ts[k].2.2.2.2.1, .int .i64 ts[k].2.2.2.2.2.1, .int .i64 ts[k].2.2.2.2.2.2] 63)).cell? ⟨wr.heap.size, 3, none⟩ = some (.int .i64 ts[k].2.2.2.1) := by simp
      have y4 : (wr.alloc (.cells #[.int .i64 ts[k].1, .int .i64 ts[k].2.1, .int .i64 ts[k].2.2.1, .int .i64 ts[k].2.2.2.1, .int .i64 ts[k].2.2.2.2.1, .int .i64 ts[k].2.2.2.2.2.1, .int .i64 ts[k].2.2.2.2.2.2] 63)).cell? ⟨wr.heap.size, 4, none⟩ = some (.int .i64 ts[k].2.2.2.2.1) := by simp
      have y5 : (wr.alloc (.cells #[.int .i64 ts[k].1, .int .i64 ts[k].2.1, .int .i64 ts[k].2.2.1, .int .i64 ts[k].2.2.2.1, .int .i64 ts[k].2.2.2.2.1, .int .i64 ts[k].2.2.2.2.2.1, .int .i64 ts[k].2.2.2.2.2.2] 63)).cell? ⟨wr.heap.size, 5, none⟩ = some (.int .i64 ts[k].2.2.2.2.2.1) := by simp
      have y6 : (wr.alloc (.cells #[.int .i64 ts[k].1, .int .i64 ts[k].2.1, .int .i64 ts[k].2.2.1, .int .i64 ts[k].2.2.2.1, .int .i64 ts[k].2.2.2.2.1, .int .i64 ts[k].2.2.2.2.2.1, .int .i64 ts[k].2.2.2.2.2.2] 63)).cell? ⟨wr.heap.size, 6, none⟩ = some (.int .i64 ts[k].2.2.2.2.2.2) := by simp
      have hlb : wr.heap.size < (wr.alloc (.cells #[.int .i64 ts[k].1, .int .i64 ts[k].2.1, .int .i64 ts[k].2.2.1, .int .i64 ts[k].2.2.2.1, .int .i64 ts[k].2.2.2.2.1, .int .i64 ts[k].2.2.2.2.2.1, .int .i64 ts[k].2.2.2.2.2.2] 63)).heap.size := by simp
      have hst : Stays wr.heap.size (some (.cells #[.int .i64 ts[k].1, .int .i64 ts[k].2.1, .int .i64 ts[k].2.2.1, .int .i64 ts[k].2.2.2.1, .int .i64 ts[k].2.2.2.2.1, .int .i64 ts[k].2.2.2.2.2.1, .int .i64 ts[k].2.2.2.2.2.2] 63 (0, 0))) (wr.alloc (.cells #[.int .i64 ts[k].1, .int .i64 ts[k].2.1, .int .i64 ts[k].2.2.1, .int .i64 ts[k].2.2.2.1, .int .i64 ts[k].2.2.2.2.1, .int .i64 ts[k].2.2.2.2.2.1, .int .i64 ts[k].2.2.2.2.2.2] 63)) := ⟨heap_alloc_new wr _⟩
      go_wp2
      have hB := hbr.trans (hAc.mono hzr)
      have hbu := hbu.below hAc
      have ht := ht.below hB
      have hw := hw.below hB
      clear a0 a1 a2 a3 a4 a5 a6
      generalize wr.alloc (.cells #[.int .i64 ts[k].1, .int .i64 ts[k].2.1, .int .i64 ts[k].2.2.1, .int .i64 ts[k].2.2.2.1, .int .i64 ts[k].2.2.2.2.1, .int .i64 ts[k].2.2.2.2.2.1, .int .i64 ts[k].2.2.2.2.2.2] 63) = v1 at *
      refine wp_region_T (Stays _ _) [63] [] [20, 18] [0, 1, 2, 3, 7, 8, 4, 5, 6, 9, 10, 11, 12] (by kernel_rfl) (by kernel_rfl) (by kernel_rfl) (Stays.drew hst) ?_; simp only [pickL, List.getElem?_cons_succ, List.getElem?_cons_zero]
      have hD := (Below.refl v1.heap.size v1).drew
      have y0 := keepc hD y0
      have y1 := keepc hD y1
      have y2 := keepc hD y2
      have y3 := keepc hD y3
      have y4 := keepc hD y4
      have y5 := keepc hD y5
      have y6 := keepc hD y6
      have hB := hB.trans (hD.mono hB.size)
      have hbu := hbu.below hD
      have ht := ht.below hD
      have hw := hw.below hD
      have hst := hst.drew
      have hlb := Nat.lt_of_lt_of_le hlb hD.size
      clear hD
      generalize v1.drew = v2 at *
      go_wp2_with (first
        | ((with_reducible refine Stays.and_ ?_ ?_; (focus (repeat (first | (with_reducible assumption) | ((with_reducible refine Stays.cell ?_ ?_); rotate_left; (focus (first | (with_reducible assumption) | (simp; done) | (simp; omega)))) | (with_reducible refine Stays.drew ?_) | ((with_reducible refine Stays.alloc ?_ ?_ _); rotate_left; (focus (first | (with_reducible assumption) | omega)))))); intro hS)) | ((with_reducible refine wpT_q0 ?_ ?_ ?_ ?_); (focus rfl); (focus rfl); (focus rfl); intro K hK) | ((with_reducible refine wpT_bs ?_ ?_); (focus (exact ⟨_, _, _, _, _, _, rfl, rfl, rfl, rfl, rfl⟩)); intro K hK) | ((with_reducible apply wpT_k); (focus rfl); (focus rfl); (focus rfl); (focus rfl); (focus (first | assumption | exact Stays.drew (by assumption))); (focus rfl); (focus go_simp); intro K hK) | ((with_reducible refine wpT_xs0 ?_ ?_ ?_); (focus rfl); (focus rfl); intro K hK) | ((with_reducible refine wpT_nil ?_); try dsimp only)
        | (go_at_call 17; refine (row_c [99, 108, 97, 105, 109] [ts[k].1, ts[k].2.1] _ 2 2 _ _ _ rfl (by omega) (sl_arr encI_len v2 #[.int .i64 ts[k].1, .int .i64 ts[k].2.1] 3 [ts[k].1, ts[k].2.1] rfl) (by simp) (ht.below ((Below.refl v2.heap.size v2).alloc (Nat.le_refl _) _)) hxs (by simp)).mono ?_; rintro e v3 ⟨rfl, hb3⟩; have hb3 := ((Below.refl v2.heap.size v2).alloc (Nat.le_refl _) _).trans (hb3.mono (by simp)); have ht := ht.below hb3; have hw := hw.below hb3; have hbu := hbu.below hb3; have hB := hB.trans (hb3.mono hB.size); have hst := hst.below hb3; clear hb3)
        | (go_at_call 18; refine (ReqPut_c ts[k].2.2 v3 ht hw).mono ?_; rintro e v4 ⟨rfl, hb4⟩; have ht := ht.below hb4; have hw := hw.below hb4; have hbu := hbu.below hb4; have hB := hB.trans (hb4.mono hB.size); have hst := hst.below hb4; clear hb4)
        | (go_at_call 47; refine (hW.out v4 hbu hB.size).mono ?_; rintro e v5 ⟨rfl, hbu5, hb5, hk5⟩; rw [hcells.out] at hbu5; have hB5 := hB.trans (hb5.mono (Nat.le_refl _)); have hst : Stays wr.heap.size _ v5 := ⟨hk5 _ _ hst.heap (by intro h; injection h with h; omega) (by intro c fz h; injection h with _ h _; revert h; decide)⟩)
        | fail)
      go_roundw
      case rel => exact ⟨k + 1, by omega, by go_num, .inr hbu5, hbu5.lt, hB5⟩
      case measure => simp [intOf]; omega
    · obtain rfl : k = n := by omega
      have hq : Hid (asS (putCs (ts.take k)) = asS (putCs ts)) := hide (by rw [List.take_of_length_le (by have := hn'.out; omega)])
      go_wp2_with fail
      refine (Builder_String_any w.heap.size w.heap.size _ _ hbu hzr).mono ?_
      rintro e w5 ⟨rfl, _, hb5, _⟩
      go_wp2
      go_ret
      exact ⟨congrArg (fun v => Ending.returned (.string v)) hq.out, hbr.trans hb5⟩

theorem l10_text (O : List UInt8) (c : ClaimT) : ((((((asS O ++ asS [99, 108, 97, 105, 109, 32]) ++ asS (itoa c.1)) ++ asS [32]) ++ asS (itoa c.2.1)) ++ asS [32]) ++ asS (putR c.2.2)) ++ asS [10] = asS (O ++ putC c) := by
  simp only [asS_app]
  unfold putC
  simp
set_option maxRecDepth 100000 in
set_option maxHeartbeats 2000000 in
theorem l10Claims_c (A : Option Addr) (n c lo hi : Nat) (ts : List ClaimT) (w : World) (hs : RdN 7 clR w lo hi A n c ts) (hhi : hi ≤ w.heap.size) (hok : ∀ x ∈ ts, okCl x = true) (hlen : ts.length ≤ 1048576) :
    Calls Tryd.prog 32 #[.slice A n c] w fun e w' => e = .returned (.string (asS (putCs ts))) ∧ Below w.heap.size w w' := by
  have hn' := hide hs.len
  have hc1 := hs.cap
  have hc2 := hs.max
  unfold maxLen at hc2
  go_enter Tryd.func32, Tryd.ntmps32
  go_wp2
  go_loopw [4, 3] (fun i sv wr => ∃ k : Nat, k ≤ n ∧ i = .int .i64 k ∧ sv = .string (asS (putCs (ts.take k))) ∧ Below w.heap.size w wr) (fun i _ _ => n - (intOf i).toNat)
  case atStart => exact ⟨0, Nat.zero_le _, rfl, rfl, Below.refl _ _⟩
  case round =>
    obtain ⟨k, hk, rfl, rfl, hB⟩ := hrel
    by_cases hlt : k < n
    · have hlx : k < ts.length := by have := hn'.out; omega
      obtain ⟨b, off, rfl, hlo, hbh⟩ := hs.addr hlx
      have hokk := hok _ (List.getElem_mem hlx)
      obtain ⟨⟨p0, p1⟩, ⟨q0, q1⟩⟩ := okCl_rng hokk
      have r1 := putCs_len (cs := ts.take k) (fun x hx => hok x (List.mem_of_mem_take hx))
      have r2 := itoa_small (n := ts[k].1) (by omega) (by omega)
      have r3 := itoa_small (n := ts[k].2.1) (by omega) (by omega)
      have r4 := putR_len ts[k].2.2
      rw [List.length_take] at r1
      rw [← asS_size] at r1 r2 r3 r4
      have z0 : ¬ 9223372036854775807 < (asS (putCs (ts.take k))).size + 6 := by omega
      have z1 : ¬ 9223372036854775807 < (asS (putCs (ts.take k))).size + 6 + (asS (itoa ts[k].1)).size := by omega
      have z2 : ¬ 9223372036854775807 < (asS (putCs (ts.take k))).size + 6 + (asS (itoa ts[k].1)).size + 1 := by omega
      have z3 : ¬ 9223372036854775807 < (asS (putCs (ts.take k))).size + 6 + (asS (itoa ts[k].1)).size + 1 + (asS (itoa ts[k].2.1)).size := by omega
      have z4 : ¬ 9223372036854775807 < (asS (putCs (ts.take k))).size + 6 + (asS (itoa ts[k].1)).size + 1 + (asS (itoa ts[k].2.1)).size + 1 := by omega
      have z5 : ¬ 9223372036854775807 < (asS (putCs (ts.take k))).size + 6 + (asS (itoa ts[k].1)).size + 1 + (asS (itoa ts[k].2.1)).size + 1 + (asS (putR ts[k].2.2)).size := by omega
      have z6 : ¬ 9223372036854775807 < (asS (putCs (ts.take k))).size + 6 + (asS (itoa ts[k].1)).size + 1 + (asS (itoa ts[k].2.1)).size + 1 + (asS (putR ts[k].2.2)).size + 1 := by omega
      clear r1 r2 r3 r4
      have hq : Hid (((((((asS (putCs (ts.take k)) ++ asS [99, 108, 97, 105, 109, 32]) ++ asS (itoa ts[k].1)) ++ asS [32]) ++ asS (itoa ts[k].2.1)) ++ asS [32]) ++ asS (putR ts[k].2.2)) ++ asS [10] = asS (putCs (ts.take (k + 1)))) := hide (by rw [l10_text, putCs_take ts k hlx])
      have hbw : b < wr.heap.size := by have := hB.size; omega
      go_wp2
      refine wp_region_T (Since _) [63] [] [12, 23, 25, 31, 33, 19, 20, 27, 28] [0, 1, 2, 3, 4, 5, 6, 10, 11, 12, 13, 14, 18, 19, 20, 21, 22, 7, 8, 9, 15, 16, 17, 23, 24, 25, 26] (by kernel_rfl) (by kernel_rfl) (by kernel_rfl) (Since.drew _) ?_; simp only [pickL, List.getElem?_cons_succ, List.getElem?_cons_zero]
      have hS : Since wr wr.drew := Since.drew _
      have hb := (Below.refl wr.heap.size wr).drew
      have hB := hB.trans (hb.mono hB.size)
      obtain ⟨a0, a1, a2, a3, a4, a5, a6⟩ := (hs.below (flat_kept _) hB hhi).claim hlx
      have hb := hb
      generalize wr.drew = v2 at *
      go_wp2_with (first
        | (with_reducible refine Since.and_ ?_ ?_; (focus (repeat (first | (with_reducible exact Since.refl _) | assumption | (with_reducible refine Since.drewR ?_) | (with_reducible refine Since.alloc ?_ _) | ((with_reducible apply Since.below); rotate_left; (focus assumption))))); intro hS) | ((with_reducible refine wpT_q0 ?_ ?_ ?_ ?_); (focus rfl); (focus rfl); (focus rfl); intro K hK) | ((with_reducible refine wpT_i ?_ ?_); (focus (refine ⟨_, _, _, _, _, _, _, _, rfl, rfl, rfl, rfl, rfl, ?_⟩; omega)); intro K hK) | ((with_reducible refine wpT_bs ?_ ?_); (focus (exact ⟨_, _, _, _, _, _, rfl, rfl, rfl, rfl, rfl⟩)); intro K hK) | ((with_reducible apply wpT_l); (focus rfl); (focus rfl); (focus rfl); (focus rfl); (focus (first | exact Since.drew _ | assumption)); (focus (simp <;> omega)); (focus go_simp); intro K hK) | ((with_reducible refine wpT_xs0 ?_ ?_ ?_); (focus rfl); (focus rfl); intro K hK) | ((with_reducible refine wpT_nil ?_); try dsimp only)
        | (go_at_call 30; refine (l1Dec_c _ (by omega) (by omega) _).mono ?_; rintro e wn ⟨rfl, hbn⟩; have hB := hB.trans (hbn.mono hB.size); have hb := hbn; clear hbn)
        | (go_at_call 31; refine (specReqPut_c ts[k].2.2 _).mono ?_; rintro e wn ⟨rfl, hbn⟩; have hB := hB.trans (hbn.mono hB.size); have hb := hbn; clear hbn)
        | fail)
      go_roundw
      case rel => exact ⟨k + 1, by omega, by go_num, congrArg Value.string hq.out, hB⟩
      case measure => simp [intOf]; omega
    · obtain rfl : k = n := by omega
      have hq : Hid (asS (putCs (ts.take k)) = asS (putCs ts)) := hide (by rw [List.take_of_length_le (by have := hn'.out; omega)])
      go_wp2
      go_ret
      exact ⟨congrArg (fun v => Ending.returned (.string v)) hq.out, hB⟩
end Go.Proofs.YtocifmnkohgfjaaDoor
