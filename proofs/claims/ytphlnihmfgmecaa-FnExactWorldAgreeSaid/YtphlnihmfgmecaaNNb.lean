/-
  Package laws' deep copies of worlds. (Printed by gen_nlr.py.)
  Conditions: none.
-/
import Derived.Test.YtphlnihmfgmecaaNNa
namespace Go.Proofs.Ytphlnihmfgmecaa
open Go.RowKit Rg
set_option linter.unusedVariables false
set_option linter.unusedSimpArgs false

theorem infoRep : (Try.prog.info? 39).map (fun i => (i.zero, i.size, i.bytes)) = some (some (.agg #[.int .i64 0, .int .i64 0, .bool false, .int .i64 0, .slice none 0 0, .slice none 0 0, .slice none 0 0]), 7, 104) := by kernel_rfl
set_option maxHeartbeats 1000000 in
theorem toRepS_c {A : Option Addr} {n c lo hi : Nat} {ts : List RepT} {w : World} (hs : RdN 7 repR w lo hi A n c ts) (hb : szReps ts ≤ 1048576) (hhi : hi ≤ w.heap.size) :
    Calls Try.prog 128 #[.slice A n c] w fun e w' => ∃ (A' : Option Addr) (n' c' : Nat), e = .returned (.slice A' n' c') ∧ FrR w' w.heap.size w'.heap.size A' n' c' ts ∧ Below w.heap.size w w' := by
  have hn' := hide hs.len
  have hbs := hide hb
  have hbn : n ≤ 1048576 := by rw [hs.len]; have h1 := hb; unfold szReps at h1; omega
  have hmk := fun W => run_make_n (P := Try.prog) 44 39 (info_parts infoRep).choose _ Try.underlying44 (info_parts infoRep).choose_spec.1 (info_parts infoRep).choose_spec.2.1 .i64 .i64 n (by rw [(info_parts infoRep).choose_spec.2.2.2]; omega) (by omega) W
  rw [(info_parts infoRep).choose_spec.2.2.1] at hmk
  obtain ⟨zx, hzx⟩ : ∃ zx : Cs 7, zx.val = [.int .i64 0, .int .i64 0, .bool false, .int .i64 0, .slice none 0 0, .slice none 0 0, .slice none 0 0] := ⟨⟨[.int .i64 0, .int .i64 0, .bool false, .int .i64 0, .slice none 0 0, .slice none 0 0, .slice none 0 0], rfl, by intro u hu; simp at hu; (first | (rcases hu with rfl | rfl | rfl | rfl | rfl | rfl | rfl | rfl | rfl | rfl | rfl <;> rfl) | (rcases hu with rfl | rfl | rfl | rfl | rfl | rfl | rfl <;> rfl) | (rcases hu with rfl | rfl | rfl | rfl <;> rfl) | (rcases hu with rfl | rfl | rfl <;> rfl) | (rcases hu with rfl | rfl <;> rfl) | ((repeat' ((with_reducible refine Or.elim hu ?_ ?_) <;> (clear hu; intro hu))) <;> (subst hu; rfl)))⟩, rfl⟩
  have hown : Own Cs.val 7 tR (w.alloc (.cells (madeCells (Value.agg #[.int .i64 0, .int .i64 0, .bool false, .int .i64 0, .slice none 0 0, .slice none 0 0, .slice none 0 0]).cells (n * 7)) 39)) w.heap.size (.slice (some ⟨w.heap.size, 0, none⟩) n n) (List.replicate n zx) :=
    own_madeC (by omega) _ w _ n zx (Value.agg #[.int .i64 0, .int .i64 0, .bool false, .int .i64 0, .slice none 0 0, .slice none 0 0, .slice none 0 0]) hzx.symm (Nat.le_refl _) (by unfold maxLen; omega)
  have hbel : Below w.heap.size w (w.alloc (.cells (madeCells (Value.agg #[.int .i64 0, .int .i64 0, .bool false, .int .i64 0, .slice none 0 0, .slice none 0 0, .slice none 0 0]).cells (n * 7)) 39)) := (Below.refl _ _).alloc (Nat.le_refl _) _
  have hw1 : w.heap.size + 1 = (w.alloc (.cells (madeCells (Value.agg #[.int .i64 0, .int .i64 0, .bool false, .int .i64 0, .slice none 0 0, .slice none 0 0, .slice none 0 0]).cells (n * 7)) 39)).heap.size := by simp
  go_enter Try.func128, Try.ntmps128
  go_wp2
  go_loopw [4] (fun i wr => ∃ (k : Nat) (ls : List (Cs 7)), k ≤ n ∧ i = .int .i64 k ∧ Hid (ls.length = k) ∧ Own Cs.val 7 tR wr w.heap.size (.slice (some ⟨w.heap.size, 0, none⟩) n n) (ls ++ List.replicate (n - k) zx) ∧ FL repF wr (w.heap.size + 1) wr.heap.size ls (ts.take k) ∧ Below w.heap.size w wr) (fun i _ => n - (intOf i).toNat)
  case atStart => exact ⟨0, [], Nat.zero_le _, rfl, rfl, by rw [List.nil_append, Nat.sub_zero]; exact hown, by rw [List.take_zero]; exact Nat.le_of_eq hw1, hbel⟩
  case round =>
    obtain ⟨k, ls, hk, rfl, hls, ho, hfl, hbr⟩ := hrel
    have hzr := hbr.size
    by_cases hlt : k < n
    · have hlx : k < ts.length := by have := hn'.out; omega
      obtain ⟨b, off, rfl, hlo, hbh⟩ := hs.addr hlx
      obtain ⟨A1, n1, c1, B1, p1, d1, E1, q1, f1, a0, a1, a2, a3, a4, a5, a6, r0, r1, r2⟩ := (hs.below rep_kept hbr hhi).rep hlx
      have hzk : Hid (szRep ts[k] ≤ 1048576) := hide (by have h1 := sum_at szRep ts k hlx; have h2 := hbs.out; unfold szReps at h2; omega)
      have hgl := (ho.addrAt hlt)
      have hgs : w.heap.size < wr.heap.size := by obtain ⟨g, hg, _, h3⟩ := hgl; injection hg with hg; injection hg with hg; omega
      clear hgl
      go_wp2_with fail
      refine (toRep_c ts[k] A1 B1 E1 n1 c1 p1 d1 q1 f1 lo hi wr r0 r1 r2 (by omega) (by have := hzk.out; unfold szRep at this; omega) (by have := hzk.out; unfold szRep at this; omega) (by have := hzk.out; unfold szRep at this; omega)).mono ?_
      rintro e w1 ⟨Ar, Br, Er, nr, cr, pr, dr, qr, fr, rfl, hF, hb1⟩
      have hz1 := hb1.size
      have ho1 := ho.below hb1 (Nat.le_refl _)
      obtain ⟨p0, q0⟩ := ho1.cellAt0 Cs.len hlt (by omega)
      have f0 := ho1.frozen (k * 7)
      obtain ⟨p1, q1⟩ := ho1.cellAt Cs.len hlt 1 (by omega)
      have f1 := ho1.frozen (k * 7 + 1)
      obtain ⟨p2, q2⟩ := ho1.cellAt Cs.len hlt 2 (by omega)
      have f2 := ho1.frozen (k * 7 + 2)
      obtain ⟨p3, q3⟩ := ho1.cellAt Cs.len hlt 3 (by omega)
      have f3 := ho1.frozen (k * 7 + 3)
      obtain ⟨p4, q4⟩ := ho1.cellAt Cs.len hlt 4 (by omega)
      have f4 := ho1.frozen (k * 7 + 4)
      obtain ⟨p5, q5⟩ := ho1.cellAt Cs.len hlt 5 (by omega)
      have f5 := ho1.frozen (k * 7 + 5)
      obtain ⟨p6, q6⟩ := ho1.cellAt Cs.len hlt 6 (by omega)
      have f6 := ho1.frozen (k * 7 + 6)
      obtain ⟨x1, hx1⟩ : ∃ x1 : Cs 7, x1.val = [.int .i64 ts[k].1, .int .i64 ts[k].2.1, .bool ts[k].2.2.1, .int .i64 ts[k].2.2.2.1, .slice Ar nr cr, .slice Br pr dr, .slice Er qr fr] := ⟨⟨[.int .i64 ts[k].1, .int .i64 ts[k].2.1, .bool ts[k].2.2.1, .int .i64 ts[k].2.2.2.1, .slice Ar nr cr, .slice Br pr dr, .slice Er qr fr], rfl, by intro u hu; simp at hu; (first | (rcases hu with rfl | rfl | rfl | rfl | rfl | rfl | rfl | rfl | rfl | rfl | rfl <;> rfl) | (rcases hu with rfl | rfl | rfl | rfl | rfl | rfl | rfl <;> rfl) | (rcases hu with rfl | rfl | rfl | rfl <;> rfl) | (rcases hu with rfl | rfl | rfl <;> rfl) | (rcases hu with rfl | rfl <;> rfl) | ((repeat' ((with_reducible refine Or.elim hu ?_ ?_) <;> (clear hu; intro hu))) <;> (subst hu; rfl)))⟩, rfl⟩
      have hput := ho1.put_ Cs.len hlt x1
      rw [set_at_len ls zx x1 k n hls.out hlt, hx1] at hput
      have hfl1 := (hfl.keep repF_kept (fun b _ hb => hb1.block b hb)).snoc (c := x1) (t := ts[k]) repF_kept hz1 (by rw [hx1]; exact hF)
      rw [← List.take_succ_eq_append_getElem hlx] at hfl1
      have hBz := hbr.trans (hb1.mono hzr)
      have hput' := hide hput
      have hfl' := hide hfl1
      clear hput hfl1 hF ho hfl
      go_wp2
      go_roundw
      case rel =>
        refine ⟨k + 1, ls ++ [x1], by omega, by go_num, hide (by rw [List.length_append, hls.out]; rfl), hput'.out, ?_, (((((((hBz).setCell (by simp) _).setCell (by simp) _).setCell (by simp) _).setCell (by simp) _).setCell (by simp) _).setCell (by simp) _).setCell (by simp) _⟩
        have hA : Above (w.heap.size + 1) w1 (putCells w1 w.heap.size (k * 7) [.int .i64 ts[k].1, .int .i64 ts[k].2.1, .bool ts[k].2.2.1, .int .i64 ts[k].2.2.2.1, .slice Ar nr cr, .slice Br pr dr, .slice Er qr fr]) := Above.put (by omega) _ (Above.refl _ _)
        have h7 := (hfl'.out.above repF_kept hA (Nat.le_refl _)).hi_mono (Nat.le_of_eq (size_putCells [.int .i64 ts[k].1, .int .i64 ts[k].2.1, .bool ts[k].2.2.1, .int .i64 ts[k].2.2.2.1, .slice Ar nr cr, .slice Br pr dr, .slice Er qr fr] w1 w.heap.size (k * 7)).symm)
        exact h7
      case measure => simp [intOf]; omega
    · obtain rfl : k = n := by omega
      go_wp2
      go_ret
      rw [Nat.sub_self, List.replicate_zero, List.append_nil] at ho
      rw [List.take_of_length_le (by rw [hn'.out]; omega)] at hfl
      have hgs : w.heap.size < wr.heap.size := by have := hfl.le; omega
      exact ⟨_, _, _, rfl, ⟨w.heap.size, ls, rfl, Nat.le_refl _, hgs, ho, hfl⟩, hbr⟩

set_option maxRecDepth 100000 in
set_option maxHeartbeats 4000000 in
theorem toWorld_c (t : WorldT) (A B : Option Addr) (n c p d : Nat) (lo hi : Nat) (w : World) (h0 : RdN 7 repR w lo hi A n c t.2.1) (h1 : RdN 11 msgR w lo hi B p d t.2.2) (hhi : hi ≤ w.heap.size) (hz0 : szReps t.2.1 ≤ 1048576) (hz1 : szMsgs t.2.2 ≤ 1048576) :
    Calls Try.prog 62 #[.agg #[.int .i64 t.1, .slice A n c, .slice B p d]] w fun e w' => ∃ (Ar Br : Option Addr) (nr cr pr dr : Nat), e = .returned (.agg #[.int .i64 t.1, .slice Ar nr cr, .slice Br pr dr]) ∧ worldF w' w.heap.size w'.heap.size [.int .i64 t.1, .slice Ar nr cr, .slice Br pr dr] t ∧ Below w.heap.size w w' := by
  have hB : Below w.heap.size w (((w.alloc (.cells #[.int .i64 t.1, .slice A n c, .slice B p d] 88)).alloc (.cells #[.int .i64 0, .slice none 0 0, .slice none 0 0] 46)).alloc (.cells #[.int .i64 t.1, .slice none 0 0, .slice none 0 0] 46)) := ((Below.refl _ _).alloc (Nat.le_refl _) _ |>.alloc (by simp) _).alloc (by simp; omega) _
  obtain ⟨t1, t2, t3, t4⟩ := heap3 w (.cells #[.int .i64 t.1, .slice A n c, .slice B p d] 88) (.cells #[.int .i64 0, .slice none 0 0, .slice none 0 0] 46) (.cells #[.int .i64 t.1, .slice none 0 0, .slice none 0 0] 46)
  have x1 : (((w.alloc (.cells #[.int .i64 t.1, .slice A n c, .slice B p d] 88)).alloc (.cells #[.int .i64 0, .slice none 0 0, .slice none 0 0] 46)).alloc (.cells #[.int .i64 t.1, .slice none 0 0, .slice none 0 0] 46)).cell? ⟨w.heap.size, 1, none⟩ = some (.slice A n c) := by simp only [World.cell?, t1]; rfl
  have x2 : (((w.alloc (.cells #[.int .i64 t.1, .slice A n c, .slice B p d] 88)).alloc (.cells #[.int .i64 0, .slice none 0 0, .slice none 0 0] 46)).alloc (.cells #[.int .i64 t.1, .slice none 0 0, .slice none 0 0] 46)).cell? ⟨w.heap.size, 2, none⟩ = some (.slice B p d) := by simp only [World.cell?, t1]; rfl
  have z0 : (((w.alloc (.cells #[.int .i64 t.1, .slice A n c, .slice B p d] 88)).alloc (.cells #[.int .i64 0, .slice none 0 0, .slice none 0 0] 46)).alloc (.cells #[.int .i64 t.1, .slice none 0 0, .slice none 0 0] 46)).cell? ⟨w.heap.size + 1, 0, none⟩ = some (.int .i64 0) := by simp only [World.cell?, t2]; rfl
  have z1 : (((w.alloc (.cells #[.int .i64 t.1, .slice A n c, .slice B p d] 88)).alloc (.cells #[.int .i64 0, .slice none 0 0, .slice none 0 0] 46)).alloc (.cells #[.int .i64 t.1, .slice none 0 0, .slice none 0 0] 46)).cell? ⟨w.heap.size + 1, 1, none⟩ = some (.slice none 0 0) := by simp only [World.cell?, t2]; rfl
  have z2 : (((w.alloc (.cells #[.int .i64 t.1, .slice A n c, .slice B p d] 88)).alloc (.cells #[.int .i64 0, .slice none 0 0, .slice none 0 0] 46)).alloc (.cells #[.int .i64 t.1, .slice none 0 0, .slice none 0 0] 46)).cell? ⟨w.heap.size + 1, 2, none⟩ = some (.slice none 0 0) := by simp only [World.cell?, t2]; rfl
  have zf0 : (((w.alloc (.cells #[.int .i64 t.1, .slice A n c, .slice B p d] 88)).alloc (.cells #[.int .i64 0, .slice none 0 0, .slice none 0 0] 46)).alloc (.cells #[.int .i64 t.1, .slice none 0 0, .slice none 0 0] 46)).frozen? ⟨w.heap.size + 1, 0, none⟩ = false := by simp only [World.frozen?, t2]; simp
  have zf1 : (((w.alloc (.cells #[.int .i64 t.1, .slice A n c, .slice B p d] 88)).alloc (.cells #[.int .i64 0, .slice none 0 0, .slice none 0 0] 46)).alloc (.cells #[.int .i64 t.1, .slice none 0 0, .slice none 0 0] 46)).frozen? ⟨w.heap.size + 1, 1, none⟩ = false := by simp only [World.frozen?, t2]; simp
  have zf2 : (((w.alloc (.cells #[.int .i64 t.1, .slice A n c, .slice B p d] 88)).alloc (.cells #[.int .i64 0, .slice none 0 0, .slice none 0 0] 46)).alloc (.cells #[.int .i64 t.1, .slice none 0 0, .slice none 0 0] 46)).frozen? ⟨w.heap.size + 1, 2, none⟩ = false := by simp only [World.frozen?, t2]; simp
  have y0 : (((w.alloc (.cells #[.int .i64 t.1, .slice A n c, .slice B p d] 88)).alloc (.cells #[.int .i64 0, .slice none 0 0, .slice none 0 0] 46)).alloc (.cells #[.int .i64 t.1, .slice none 0 0, .slice none 0 0] 46)).cell? ⟨w.heap.size + 1 + 1, 0, none⟩ = some (.int .i64 t.1) := by simp only [World.cell?, t3]; rfl
  have y1 : (((w.alloc (.cells #[.int .i64 t.1, .slice A n c, .slice B p d] 88)).alloc (.cells #[.int .i64 0, .slice none 0 0, .slice none 0 0] 46)).alloc (.cells #[.int .i64 t.1, .slice none 0 0, .slice none 0 0] 46)).cell? ⟨w.heap.size + 1 + 1, 1, none⟩ = some (.slice none 0 0) := by simp only [World.cell?, t3]; rfl
  have y2 : (((w.alloc (.cells #[.int .i64 t.1, .slice A n c, .slice B p d] 88)).alloc (.cells #[.int .i64 0, .slice none 0 0, .slice none 0 0] 46)).alloc (.cells #[.int .i64 t.1, .slice none 0 0, .slice none 0 0] 46)).cell? ⟨w.heap.size + 1 + 1, 2, none⟩ = some (.slice none 0 0) := by simp only [World.cell?, t3]; rfl
  have yf0 : (((w.alloc (.cells #[.int .i64 t.1, .slice A n c, .slice B p d] 88)).alloc (.cells #[.int .i64 0, .slice none 0 0, .slice none 0 0] 46)).alloc (.cells #[.int .i64 t.1, .slice none 0 0, .slice none 0 0] 46)).frozen? ⟨w.heap.size + 1 + 1, 0, none⟩ = false := by simp only [World.frozen?, t3]; simp
  have yf1 : (((w.alloc (.cells #[.int .i64 t.1, .slice A n c, .slice B p d] 88)).alloc (.cells #[.int .i64 0, .slice none 0 0, .slice none 0 0] 46)).alloc (.cells #[.int .i64 t.1, .slice none 0 0, .slice none 0 0] 46)).frozen? ⟨w.heap.size + 1 + 1, 1, none⟩ = false := by simp only [World.frozen?, t3]; simp
  have yf2 : (((w.alloc (.cells #[.int .i64 t.1, .slice A n c, .slice B p d] 88)).alloc (.cells #[.int .i64 0, .slice none 0 0, .slice none 0 0] 46)).alloc (.cells #[.int .i64 t.1, .slice none 0 0, .slice none 0 0] 46)).frozen? ⟨w.heap.size + 1 + 1, 2, none⟩ = false := by simp only [World.frozen?, t3]; simp
  have hl : w.heap.size + 1 + 1 < (((w.alloc (.cells #[.int .i64 t.1, .slice A n c, .slice B p d] 88)).alloc (.cells #[.int .i64 0, .slice none 0 0, .slice none 0 0] 46)).alloc (.cells #[.int .i64 t.1, .slice none 0 0, .slice none 0 0] 46)).heap.size := by rw [t4]; omega
  clear t1 t2 t3 t4
  have k0 := hide (fun W (h : Below w.heap.size w W) => toRepS_c (h0.below rep_kept h hhi) hz0 (Nat.le_trans hhi h.size))
  have k1 := hide (fun W (h : Below w.heap.size w W) => toMsgS_c (h1.below msg_kept h hhi) hz1 (Nat.le_trans hhi h.size))
  go_enter Try.func62, Try.ntmps62
  go_wp2_with fail
  generalize (((w.alloc (.cells #[.int .i64 t.1, .slice A n c, .slice B p d] 88)).alloc (.cells #[.int .i64 0, .slice none 0 0, .slice none 0 0] 46)).alloc (.cells #[.int .i64 t.1, .slice none 0 0, .slice none 0 0] 46)) = v0 at *
  refine (k0.out _ hB).mono ?_
  rintro e u0 ⟨Ar, nr, cr, rfl, g0, hb0⟩
  have hB := hB.trans (hb0.mono hB.size)
  have hzhb0 := hb0.size
  have x2 := keepc hb0 x2
  have z0 := keepc hb0 z0
  have zf0 := keepf hb0 (by omega) zf0
  have z1 := keepc hb0 z1
  have zf1 := keepf hb0 (by omega) zf1
  have z2 := keepc hb0 z2
  have zf2 := keepf hb0 (by omega) zf2
  have y0 := keepc hb0 y0
  have yf0 := keepf hb0 (by omega) yf0
  have y1 := keepc hb0 y1
  have yf1 := keepf hb0 (by omega) yf1
  have y2 := keepc hb0 y2
  have yf2 := keepf hb0 (by omega) yf2
  have hl := Nat.lt_of_lt_of_le hl hb0.size
  have hA : Above (w.heap.size + 1 + 1 + 1) u0 (u0.setCell ⟨w.heap.size + 1 + 1, 1, none⟩ (.slice Ar nr cr)) := by repeat (first | (with_reducible exact Above.refl _ _) | (with_reducible refine Above.drew ?_) | ((with_reducible refine Above.setCell ?_ ?_ _); rotate_left; (focus (first | (simp; done) | (simp; omega)))))
  have hB : Below w.heap.size w (u0.setCell ⟨w.heap.size + 1 + 1, 1, none⟩ (.slice Ar nr cr)) := by repeat (first | (with_reducible exact hB) | (with_reducible refine Below.drew ?_) | ((with_reducible refine Below.setCell ?_ ?_ _); rotate_left; (focus (first | (simp; done) | (simp; omega)))))
  have x2 : (u0.setCell ⟨w.heap.size + 1 + 1, 1, none⟩ (.slice Ar nr cr)).cell? ⟨w.heap.size, 2, none⟩ = some (.slice B p d) := by go_simp
  have z0 : (u0.setCell ⟨w.heap.size + 1 + 1, 1, none⟩ (.slice Ar nr cr)).cell? ⟨w.heap.size + 1, 0, none⟩ = some (.int .i64 0) := by go_simp
  have zf0 : (u0.setCell ⟨w.heap.size + 1 + 1, 1, none⟩ (.slice Ar nr cr)).frozen? ⟨w.heap.size + 1, 0, none⟩ = false := by go_simp
  have z1 : (u0.setCell ⟨w.heap.size + 1 + 1, 1, none⟩ (.slice Ar nr cr)).cell? ⟨w.heap.size + 1, 1, none⟩ = some (.slice none 0 0) := by go_simp
  have zf1 : (u0.setCell ⟨w.heap.size + 1 + 1, 1, none⟩ (.slice Ar nr cr)).frozen? ⟨w.heap.size + 1, 1, none⟩ = false := by go_simp
  have z2 : (u0.setCell ⟨w.heap.size + 1 + 1, 1, none⟩ (.slice Ar nr cr)).cell? ⟨w.heap.size + 1, 2, none⟩ = some (.slice none 0 0) := by go_simp
  have zf2 : (u0.setCell ⟨w.heap.size + 1 + 1, 1, none⟩ (.slice Ar nr cr)).frozen? ⟨w.heap.size + 1, 2, none⟩ = false := by go_simp
  have y0 : (u0.setCell ⟨w.heap.size + 1 + 1, 1, none⟩ (.slice Ar nr cr)).cell? ⟨w.heap.size + 1 + 1, 0, none⟩ = some (.int .i64 t.1) := by go_simp
  have yf0 : (u0.setCell ⟨w.heap.size + 1 + 1, 1, none⟩ (.slice Ar nr cr)).frozen? ⟨w.heap.size + 1 + 1, 0, none⟩ = false := by go_simp
  have y1 : (u0.setCell ⟨w.heap.size + 1 + 1, 1, none⟩ (.slice Ar nr cr)).cell? ⟨w.heap.size + 1 + 1, 1, none⟩ = some (.slice Ar nr cr) := by go_simp
  have yf1 : (u0.setCell ⟨w.heap.size + 1 + 1, 1, none⟩ (.slice Ar nr cr)).frozen? ⟨w.heap.size + 1 + 1, 1, none⟩ = false := by go_simp
  have y2 : (u0.setCell ⟨w.heap.size + 1 + 1, 1, none⟩ (.slice Ar nr cr)).cell? ⟨w.heap.size + 1 + 1, 2, none⟩ = some (.slice none 0 0) := by go_simp
  have yf2 : (u0.setCell ⟨w.heap.size + 1 + 1, 1, none⟩ (.slice Ar nr cr)).frozen? ⟨w.heap.size + 1 + 1, 2, none⟩ = false := by go_simp
  have hl : w.heap.size + 1 + 1 < (u0.setCell ⟨w.heap.size + 1 + 1, 1, none⟩ (.slice Ar nr cr)).heap.size := by simpa using hl
  have hsz0 : (u0.setCell ⟨w.heap.size + 1 + 1, 1, none⟩ (.slice Ar nr cr)).heap.size = u0.heap.size := by simp
  go_wp2_with fail
  have g0 := g0.above repF_kept hA (by omega)
  generalize (u0.setCell ⟨w.heap.size + 1 + 1, 1, none⟩ (.slice Ar nr cr)) = v1 at *
  refine (k1.out _ hB).mono ?_
  rintro e u1 ⟨Br, pr, dr, rfl, g1, hb1⟩
  have hB := hB.trans (hb1.mono hB.size)
  have hzhb1 := hb1.size
  have g0 := g0.below repF_kept hb1 (by omega)
  have z0 := keepc hb1 z0
  have zf0 := keepf hb1 (by omega) zf0
  have z1 := keepc hb1 z1
  have zf1 := keepf hb1 (by omega) zf1
  have z2 := keepc hb1 z2
  have zf2 := keepf hb1 (by omega) zf2
  have y0 := keepc hb1 y0
  have yf0 := keepf hb1 (by omega) yf0
  have y1 := keepc hb1 y1
  have yf1 := keepf hb1 (by omega) yf1
  have y2 := keepc hb1 y2
  have yf2 := keepf hb1 (by omega) yf2
  have hl := Nat.lt_of_lt_of_le hl hb1.size
  go_wp2
  refine bodyPost_ret (v := .agg #[.int .i64 t.1, .slice Ar nr cr, .slice Br pr dr]) (by simp [results, Try.results62, go_sem, y0, y1, y2, z0, z1, z2]) rfl ⟨Ar, Br, nr, cr, pr, dr, rfl, ?_, ?_⟩
  rotate_left
  · repeat (first | (with_reducible exact hB) | (with_reducible refine Below.drew ?_) | ((with_reducible refine Below.setCell ?_ ?_ _); rotate_left; (focus (first | (simp; done) | (simp; omega)))))
  · generalize hwf : (World.setCell _ _ _) = wf
    have hA : Above (w.heap.size + 1 + 1 + 1) u1 wf := by
      rw [← hwf]
      repeat (first | (with_reducible exact Above.refl _ _) | (with_reducible refine Above.drew ?_) | ((with_reducible refine Above.setCell ?_ ?_ _); rotate_left; (focus (first | (simp; done) | (simp; omega)))))
    have hws : wf.heap.size = u1.heap.size := by rw [← hwf]; simp
    clear hwf
    have g0 := g0.above repF_kept hA (by omega)
    have g1 := g1.above msgF_kept hA (by omega)
    exact ⟨v1.heap.size, _, _, _, _, _, _, by omega, by omega, rfl, g0.mono repF_kept (by omega) (by omega), g1.mono msgF_kept (by omega) (by omega)⟩
end Go.Proofs.Ytphlnihmfgmecaa
