/-
  'FnExactRepList' returns true, for every argument. (Printed by gen_nra.py.)
  Conditions: none.
-/
import Derived.Test.YtphlnihmfgmecaaNRL
import Derived.Test.YtphlnihmfgmecaaNLp
import Derived.Test.YtphlnihmfgmecaaNPq
import Derived.Test.YtphlnihmfgmecaaNMa
import Derived.Test.YtphlnihmfgmecaaNNa
namespace Go.Proofs.Ytphlnihmfgmecaa
open Go.RowKit Rg
set_option linter.unusedVariables false
set_option linter.unusedSimpArgs false

theorem repF_inv {w : World} {lo hi : Nat} {t : RepT} {A B E : Option Addr} {n c p d q f : Nat} (h : repF w lo hi [.int .i64 t.1, .int .i64 t.2.1, .bool t.2.2.1, .int .i64 t.2.2.2.1, .slice A n c, .slice B p d, .slice E q f] t) : ∃ m1 m2, lo ≤ m1 ∧ m1 ≤ m2 ∧ m2 ≤ hi ∧ OwnC w lo m1 A n c t.2.2.2.2.1 ∧ FrM w m1 m2 B p d t.2.2.2.2.2.1 ∧ OwnC w m2 hi E q f t.2.2.2.2.2.2 := by
  obtain ⟨m1, m2, A9, n9, c9, B9, p9, d9, E9, q9, f9, l1, l2, l3, he, r0, r1, r2⟩ := h
  simp only [List.cons.injEq, Value.slice.injEq, true_and, and_true] at he
  obtain ⟨⟨e0a, e0b, e0c⟩, ⟨e1a, e1b, e1c⟩, ⟨e2a, e2b, e2c⟩⟩ := he
  subst e0a; subst e0b; subst e0c; subst e1a; subst e1b; subst e1c; subst e2a; subst e2b; subst e2c
  exact ⟨m1, m2, l1, l2, l3, r0, r1, r2⟩

theorem listFrom_len : ∀ (cs : List ClaimT) (s : Int), (listFrom s cs).length ≤ cs.length
  | [], s => by simp [listFrom]
  | c :: cs, s => by
    have := listFrom_len cs (s + 1)
    unfold listFrom
    split
    · simpa using this
    · simp

set_option maxRecDepth 100000 in
set_option maxHeartbeats 4000000 in
theorem lawExactRepList (t : RepT) (A B E : Option Addr) (n c p d q f : Nat) (w : World) (h0 : RdN 7 clR w 0 w.heap.size A n c t.2.2.2.2.1) (h1 : RdN 11 msgR w 0 w.heap.size B p d t.2.2.2.2.2.1) (h2 : RdN 7 clR w 0 w.heap.size E q f t.2.2.2.2.2.2) :
    Calls Try.prog 13 #[.agg #[.int .i64 t.1, .int .i64 t.2.1, .bool t.2.2.1, .int .i64 t.2.2.2.1, .slice A n c, .slice B p d, .slice E q f]] w fun e w' => e = .returned (.bool true) ∧ Below w.heap.size w w' := by
  have hB : Below w.heap.size w (w.alloc (.cells #[.int .i64 t.1, .int .i64 t.2.1, .bool t.2.2.1, .int .i64 t.2.2.2.1, .slice A n c, .slice B p d, .slice E q f] 80)) := (Below.refl _ _).alloc (Nat.le_refl _) _
  have x0 : (w.alloc (.cells #[.int .i64 t.1, .int .i64 t.2.1, .bool t.2.2.1, .int .i64 t.2.2.2.1, .slice A n c, .slice B p d, .slice E q f] 80)).cell? ⟨w.heap.size, 0, none⟩ = some (.int .i64 t.1) := by simp
  have x1 : (w.alloc (.cells #[.int .i64 t.1, .int .i64 t.2.1, .bool t.2.2.1, .int .i64 t.2.2.2.1, .slice A n c, .slice B p d, .slice E q f] 80)).cell? ⟨w.heap.size, 1, none⟩ = some (.int .i64 t.2.1) := by simp
  have x2 : (w.alloc (.cells #[.int .i64 t.1, .int .i64 t.2.1, .bool t.2.2.1, .int .i64 t.2.2.2.1, .slice A n c, .slice B p d, .slice E q f] 80)).cell? ⟨w.heap.size, 2, none⟩ = some (.bool t.2.2.1) := by simp
  have x3 : (w.alloc (.cells #[.int .i64 t.1, .int .i64 t.2.1, .bool t.2.2.1, .int .i64 t.2.2.2.1, .slice A n c, .slice B p d, .slice E q f] 80)).cell? ⟨w.heap.size, 3, none⟩ = some (.int .i64 t.2.2.2.1) := by simp
  have x4 : (w.alloc (.cells #[.int .i64 t.1, .int .i64 t.2.1, .bool t.2.2.1, .int .i64 t.2.2.2.1, .slice A n c, .slice B p d, .slice E q f] 80)).cell? ⟨w.heap.size, 4, none⟩ = some (.slice A n c) := by simp
  have x5 : (w.alloc (.cells #[.int .i64 t.1, .int .i64 t.2.1, .bool t.2.2.1, .int .i64 t.2.2.2.1, .slice A n c, .slice B p d, .slice E q f] 80)).cell? ⟨w.heap.size, 5, none⟩ = some (.slice B p d) := by simp
  have x6 : (w.alloc (.cells #[.int .i64 t.1, .int .i64 t.2.1, .bool t.2.2.1, .int .i64 t.2.2.2.1, .slice A n c, .slice B p d, .slice E q f] 80)).cell? ⟨w.heap.size, 6, none⟩ = some (.slice E q f) := by simp
  have hl : w.heap.size < (w.alloc (.cells #[.int .i64 t.1, .int .i64 t.2.1, .bool t.2.2.1, .int .i64 t.2.2.2.1, .slice A n c, .slice B p d, .slice E q f] 80)).heap.size := by simp
  have ks := hide (fun W (h : Below w.heap.size w W) => szRep_c t A B E n c p d q f 0 w.heap.size 1048576 W (h0.below (flat_kept _) h (Nat.le_refl _)) (h1.below msg_kept h (Nat.le_refl _)) (h2.below (flat_kept _) h (Nat.le_refl _)) h.size (by omega))
  by_cases hz : szRep t ≤ 1048576
  · have y := hide (szO_yes hz)
    have hzp : Hid (szRep t = t.2.2.2.2.1.length + szMsgs t.2.2.2.2.2.1 + t.2.2.2.2.2.2.length) := hide rfl
    have kt := hide (fun W (h : Below w.heap.size w W) => toRep_c t A B E n c p d q f 0 w.heap.size W (h0.below (flat_kept _) h (Nat.le_refl _)) (h1.below msg_kept h (Nat.le_refl _)) (h2.below (flat_kept _) h (Nat.le_refl _)) h.size (by have := hzp.out; omega) (by have := hzp.out; omega) (by have := hzp.out; omega))
    obtain ⟨xs, hxs, hxl⟩ : ∃ xs : List ReqT, (if okRep t then listFrom 1 t.2.2.2.2.2.2 else []) = xs ∧ xs.length ≤ 1048576 := ⟨_, rfl, by
      split
      · rename_i h
        have h1 := okCls_len (okRep_done h)
        have h2 := listFrom_len t.2.2.2.2.2.2 1
        omega
      · simp⟩
    have kspec := hide (fun (A B E : Option Addr) (n c p d q f lo hi : Nat) W h0 h1 h2 (hh : hi ≤ W.heap.size) => specRepList_c t A B E n c p d q f lo hi W h0 h1 h2 hh)
    have kimpl := hide (fun (A B E : Option Addr) (n c p d q f lo hi : Nat) W h0 h1 h2 (hh : hi ≤ W.heap.size) => RepList_c t A B E n c p d q f lo hi W h0 h1 h2 hh)
    simp only [hxs] at kspec kimpl
    clear hxs
    have d1 : decide (((1048576 - szRep t : Nat) : Int) < 0) = false := by simp
    go_enter Try.func13, Try.ntmps13
    go_wp2_with fail
    generalize w.alloc (.cells #[.int .i64 t.1, .int .i64 t.2.1, .bool t.2.2.1, .int .i64 t.2.2.2.1, .slice A n c, .slice B p d, .slice E q f] 80) = v0 at *
    refine (ks.out _ hB).mono ?_
    rintro e u0 ⟨rfl, hb0⟩
    rw [y.out]
    have x0 := keepc hb0 x0
    have x1 := keepc hb0 x1
    have x2 := keepc hb0 x2
    have x3 := keepc hb0 x3
    have x4 := keepc hb0 x4
    have x5 := keepc hb0 x5
    have x6 := keepc hb0 x6
    have hB := hB.trans (hb0.mono hB.size)
    have hl := Nat.lt_of_lt_of_le hl hb0.size
    have hz_hb0 := hb0.size
    go_wp2_with fail
    refine (kt.out _ hB).mono ?_
    rintro e u1 ⟨A1, B1, E1, n1, c1, p1, d1, q1, f1, rfl, ff1, hb1⟩
    have x0 := keepc hb1 x0
    have x1 := keepc hb1 x1
    have x2 := keepc hb1 x2
    have x3 := keepc hb1 x3
    have x4 := keepc hb1 x4
    have x5 := keepc hb1 x5
    have x6 := keepc hb1 x6
    have hB := hB.trans (hb1.mono hB.size)
    have hl := Nat.lt_of_lt_of_le hl hb1.size
    have hz_hb1 := hb1.size
    obtain ⟨g0, g1, g2⟩ := repR_inv (repF_R ff1)
    clear ff1
    go_wp2_with fail
    refine (kspec.out A1 B1 E1 n1 c1 p1 d1 q1 f1 u0.heap.size u1.heap.size u1 g0 g1 g2 (Nat.le_refl _)).mono ?_
    rintro e u2 ⟨vw, rfl, ow, hb2⟩
    obtain ⟨Aw, cw, rfl, _, _, _⟩ := ow.form
    have rw2 := ow.rdn encReq_len
    clear ow g0 g1 g2
    have x0 := keepc hb2 x0
    have x1 := keepc hb2 x1
    have x2 := keepc hb2 x2
    have x3 := keepc hb2 x3
    have x4 := keepc hb2 x4
    have x5 := keepc hb2 x5
    have x6 := keepc hb2 x6
    have hB := hB.trans (hb2.mono hB.size)
    have hl := Nat.lt_of_lt_of_le hl hb2.size
    have hz_hb2 := hb2.size
    go_wp2_with fail
    refine (kt.out _ hB).mono ?_
    rintro e u3 ⟨A2, B2, E2, n2, c2, p2, d2, q2, f2, rfl, ff3, hb3⟩
    have x0 := keepc hb3 x0
    have x1 := keepc hb3 x1
    have x2 := keepc hb3 x2
    have x3 := keepc hb3 x3
    have x4 := keepc hb3 x4
    have x5 := keepc hb3 x5
    have x6 := keepc hb3 x6
    have hB := hB.trans (hb3.mono hB.size)
    have hl := Nat.lt_of_lt_of_le hl hb3.size
    have hz_hb3 := hb3.size
    obtain ⟨qq0, qq1, qq2⟩ := repR_inv (repF_R ff3)
    obtain ⟨mm1, mm2, l1, l2, l3, oo0, oo1, oo2⟩ := repF_inv ff3
    clear ff3
    have rw3 := rw2.below (flat_kept _) hb3 (Nat.le_refl _)
    clear rw2
    have hA := (Below.refl u3.heap.size u3).alloc (Nat.le_refl _) (.cells #[.int .i64 t.1, .int .i64 t.2.1, .bool t.2.2.1, .int .i64 t.2.2.2.1, .slice A2 n2 c2, .slice B2 p2 d2, .slice E2 q2 f2] 39)
    have y0 : (u3.alloc (.cells #[.int .i64 t.1, .int .i64 t.2.1, .bool t.2.2.1, .int .i64 t.2.2.2.1, .slice A2 n2 c2, .slice B2 p2 d2, .slice E2 q2 f2] 39)).cell? ⟨u3.heap.size, 0, none⟩ = some (.int .i64 t.1) := by simp
    have y1 : (u3.alloc (.cells #[.int .i64 t.1, .int .i64 t.2.1, .bool t.2.2.1, .int .i64 t.2.2.2.1, .slice A2 n2 c2, .slice B2 p2 d2, .slice E2 q2 f2] 39)).cell? ⟨u3.heap.size, 1, none⟩ = some (.int .i64 t.2.1) := by simp
    have y2 : (u3.alloc (.cells #[.int .i64 t.1, .int .i64 t.2.1, .bool t.2.2.1, .int .i64 t.2.2.2.1, .slice A2 n2 c2, .slice B2 p2 d2, .slice E2 q2 f2] 39)).cell? ⟨u3.heap.size, 2, none⟩ = some (.bool t.2.2.1) := by simp
    have y3 : (u3.alloc (.cells #[.int .i64 t.1, .int .i64 t.2.1, .bool t.2.2.1, .int .i64 t.2.2.2.1, .slice A2 n2 c2, .slice B2 p2 d2, .slice E2 q2 f2] 39)).cell? ⟨u3.heap.size, 3, none⟩ = some (.int .i64 t.2.2.2.1) := by simp
    have y4 : (u3.alloc (.cells #[.int .i64 t.1, .int .i64 t.2.1, .bool t.2.2.1, .int .i64 t.2.2.2.1, .slice A2 n2 c2, .slice B2 p2 d2, .slice E2 q2 f2] 39)).cell? ⟨u3.heap.size, 4, none⟩ = some (.slice A2 n2 c2) := by simp
    have y5 : (u3.alloc (.cells #[.int .i64 t.1, .int .i64 t.2.1, .bool t.2.2.1, .int .i64 t.2.2.2.1, .slice A2 n2 c2, .slice B2 p2 d2, .slice E2 q2 f2] 39)).cell? ⟨u3.heap.size, 5, none⟩ = some (.slice B2 p2 d2) := by simp
    have y6 : (u3.alloc (.cells #[.int .i64 t.1, .int .i64 t.2.1, .bool t.2.2.1, .int .i64 t.2.2.2.1, .slice A2 n2 c2, .slice B2 p2 d2, .slice E2 q2 f2] 39)).cell? ⟨u3.heap.size, 6, none⟩ = some (.slice E2 q2 f2) := by simp
    have x0 := keepc hA x0
    have x1 := keepc hA x1
    have x2 := keepc hA x2
    have x3 := keepc hA x3
    have x4 := keepc hA x4
    have x5 := keepc hA x5
    have x6 := keepc hA x6
    have hB := hB.trans (hA.mono hB.size)
    have hl := Nat.lt_of_lt_of_le hl hA.size
    have hz_hA := hA.size
    have qq0 := qq0.below (flat_kept _) hA (by omega)
    have qq1 := qq1.below msg_kept hA (by omega)
    have qq2 := qq2.below (flat_kept _) hA (by omega)
    have oo0 := oo0.below hA (by omega)
    have oo1 := Fr.below msgF_kept oo1 hA (by omega)
    have oo2 := oo2.below hA (by omega)
    have rw3a := rw3.below (flat_kept _) hA (by omega)
    clear rw3
    have hl3 : u3.heap.size < (u3.alloc (.cells #[.int .i64 t.1, .int .i64 t.2.1, .bool t.2.2.1, .int .i64 t.2.2.2.1, .slice A2 n2 c2, .slice B2 p2 d2, .slice E2 q2 f2] 39)).heap.size := by simp
    go_wp2_with fail
    generalize u3.alloc (.cells #[.int .i64 t.1, .int .i64 t.2.1, .bool t.2.2.1, .int .i64 t.2.2.2.1, .slice A2 n2 c2, .slice B2 p2 d2, .slice E2 q2 f2] 39) = v3 at *
    refine (kimpl.out A2 B2 E2 n2 c2 p2 d2 q2 f2 u2.heap.size u3.heap.size v3 qq0 qq1 qq2 (by omega)).mono ?_
    rintro e u4 ⟨vg, rfl, og, hb4⟩
    obtain ⟨Ag, cg, rfl, _, _, _⟩ := og.form
    have gbk : Hid (∀ b, (Value.slice Ag xs.length cg).ownBlock = some b → v3.heap.size ≤ b ∧ b < u4.heap.size) := hide (fun b hb => og.lt b hb)
    have x0 := keepc hb4 x0
    have x1 := keepc hb4 x1
    have x2 := keepc hb4 x2
    have x3 := keepc hb4 x3
    have x4 := keepc hb4 x4
    have x5 := keepc hb4 x5
    have x6 := keepc hb4 x6
    have y0 := keepc hb4 y0
    have y1 := keepc hb4 y1
    have y2 := keepc hb4 y2
    have y3 := keepc hb4 y3
    have y4 := keepc hb4 y4
    have y5 := keepc hb4 y5
    have y6 := keepc hb4 y6
    have hB := hB.trans (hb4.mono hB.size)
    have hl := Nat.lt_of_lt_of_le hl hb4.size
    have hz_hb4 := hb4.size
    have qq0 := qq0.below (flat_kept _) hb4 (by omega)
    have qq1 := qq1.below msg_kept hb4 (by omega)
    have qq2 := qq2.below (flat_kept _) hb4 (by omega)
    have oo0 := oo0.below hb4 (by omega)
    have oo1 := Fr.below msgF_kept oo1 hb4 (by omega)
    have oo2 := oo2.below hb4 (by omega)
    have rw4 := rw3a.below (flat_kept _) hb4 (by omega)
    clear rw3a
    have hl3 := Nat.lt_of_lt_of_le hl3 hz_hb4
    go_wp2_with fail
    refine (eqReqS_same (og.rdn encReq_len) rw4 (Nat.le_refl _) (by omega)).mono ?_
    rintro e u5 ⟨rfl, hb5⟩
    have og5 := og.below hb5 (Nat.le_refl _)
    clear og
    have x0 := keepc hb5 x0
    have x1 := keepc hb5 x1
    have x2 := keepc hb5 x2
    have x3 := keepc hb5 x3
    have x4 := keepc hb5 x4
    have x5 := keepc hb5 x5
    have x6 := keepc hb5 x6
    have y0 := keepc hb5 y0
    have y1 := keepc hb5 y1
    have y2 := keepc hb5 y2
    have y3 := keepc hb5 y3
    have y4 := keepc hb5 y4
    have y5 := keepc hb5 y5
    have y6 := keepc hb5 y6
    have hB := hB.trans (hb5.mono hB.size)
    have hl := Nat.lt_of_lt_of_le hl hb5.size
    have hz_hb5 := hb5.size
    have qq0 := qq0.below (flat_kept _) hb5 (by omega)
    have qq1 := qq1.below msg_kept hb5 (by omega)
    have qq2 := qq2.below (flat_kept _) hb5 (by omega)
    have oo0 := oo0.below hb5 (by omega)
    have oo1 := Fr.below msgF_kept oo1 hb5 (by omega)
    have oo2 := oo2.below hb5 (by omega)
    have rw5 := rw4.below (flat_kept _) hb5 (by omega)
    clear rw4
    have hl3 := Nat.lt_of_lt_of_le hl3 hz_hb5
    go_wp2
    refine wp_region_T (Since _) [] [] [27] [0, 1, 2, 3, 4] (by kernel_rfl) (by kernel_rfl) (by kernel_rfl) (Since.drew _) ?_; simp only [pickL, List.getElem?_cons_succ, List.getElem?_cons_zero]
    have hD := (Below.refl u5.heap.size u5).drew
    have x0 := keepc hD x0
    have x1 := keepc hD x1
    have x2 := keepc hD x2
    have x3 := keepc hD x3
    have x4 := keepc hD x4
    have x5 := keepc hD x5
    have x6 := keepc hD x6
    have y0 := keepc hD y0
    have y1 := keepc hD y1
    have y2 := keepc hD y2
    have y3 := keepc hD y3
    have y4 := keepc hD y4
    have y5 := keepc hD y5
    have y6 := keepc hD y6
    have hB := hB.trans (hD.mono hB.size)
    have hl := Nat.lt_of_lt_of_le hl hD.size
    have hz_hD := hD.size
    have qq0 := qq0.below (flat_kept _) hD (by omega)
    have qq1 := qq1.below msg_kept hD (by omega)
    have qq2 := qq2.below (flat_kept _) hD (by omega)
    have oo0 := oo0.below hD (by omega)
    have oo1 := Fr.below msgF_kept oo1 hD (by omega)
    have oo2 := oo2.below hD (by omega)
    have rw5a := rw5.below (flat_kept _) hD (by omega)
    clear rw5
    have hl3 := Nat.lt_of_lt_of_le hl3 hz_hD
    have og5 := og5.below hD (Nat.le_refl _)
    have hS : Since u5 u5.drew := Since.drew _
    clear hD hb0 hb1 hb2 hb3 hb4 hb5 hA
    generalize u5.drew = u6 at *
    go_wp2_with (first
      | (with_reducible refine Since.and_ ?_ ?_; (focus (repeat (first | (with_reducible exact Since.refl _) | assumption | (with_reducible refine Since.drewR ?_) | (with_reducible refine Since.alloc ?_ _) | ((with_reducible apply Since.below); rotate_left; (focus assumption))))); intro hS) | ((with_reducible refine wpT_q0 ?_ ?_ ?_ ?_); (focus rfl); (focus rfl); (focus rfl); intro K hK) | ((with_reducible apply wpT_l); (focus rfl); (focus rfl); (focus rfl); (focus rfl); (focus (first | exact Since.drew _ | assumption)); (focus (simp <;> omega)); (focus go_simp); intro K hK) | ((with_reducible refine wpT_xs0 ?_ ?_ ?_); (focus rfl); (focus rfl); intro K hK) | ((with_reducible refine wpT_noL ?_ ?_); (focus (first | exact wanted_no _ _ _ rfl rfl rfl | exact wanted_un _ _ _ rfl rfl rfl)); simp only [setO, List.set_cons_succ, List.set_cons_zero]) | ((with_reducible refine wpT_q1 ?_ ?_ ?_ ?_); (focus exact wanted_yes _ _ _ rfl rfl rfl); (focus rfl); (focus rfl); intro K hK) | ((with_reducible refine wpT_xs1 ?_ ?_ ?_); (focus exact wanted_yes _ _ _ rfl rfl rfl); (focus rfl); intro K hK) | ((with_reducible refine wpT_nil ?_); try dsimp only)
      | (go_at_call 56; refine (kt.out _ hB).mono ?_; rintro e u7 ⟨A3, B3, E3, n3, c3, p3, d3, q3, f3, rfl, ff7, hb7⟩; have hB := hB.trans (hb7.mono hB.size); obtain ⟨p0_, p1_, p2_⟩ := repR_inv (repF_R ff7); clear ff7; have qq0 := qq0.below (flat_kept _) hb7 (by omega); have qq1 := qq1.below msg_kept hb7 (by omega); have qq2 := qq2.below (flat_kept _) hb7 (by omega); have hz7 := hb7.size; have x0 := keepc hb7 x0; have x1 := keepc hb7 x1; have x2 := keepc hb7 x2; have x3 := keepc hb7 x3; have x4 := keepc hb7 x4; have x5 := keepc hb7 x5; have x6 := keepc hb7 x6; have y0 := keepc hb7 y0; have y1 := keepc hb7 y1; have y2 := keepc hb7 y2; have y3 := keepc hb7 y3; have y4 := keepc hb7 y4; have y5 := keepc hb7 y5; have y6 := keepc hb7 y6; have hb7 := hb7)
      | (go_at_call 57; refine (eqRep_same t A2 B2 E2 n2 c2 p2 d2 q2 f2 A3 B3 E3 n3 c3 p3 d3 q3 f3 u2.heap.size u3.heap.size u6.heap.size u7.heap.size u7 qq0 qq1 qq2 p0_ p1_ p2_ (by omega) (Nat.le_refl _)).mono ?_; rintro e u8 ⟨rfl, hb8⟩; have hB := hB.trans (hb8.mono hB.size); have hz8 := hb8.size; have x0 := keepc hb8 x0; have x1 := keepc hb8 x1; have x2 := keepc hb8 x2; have x3 := keepc hb8 x3; have x4 := keepc hb8 x4; have x5 := keepc hb8 x5; have x6 := keepc hb8 x6; have y0 := keepc hb8 y0; have y1 := keepc hb8 y1; have y2 := keepc hb8 y2; have y3 := keepc hb8 y3; have y4 := keepc hb8 y4; have y5 := keepc hb8 y5; have y6 := keepc hb8 y6; have hb8 := hb8)
      | fail)
    have oo0 := oo0.below hb7 (by omega)
    have oo1 := Fr.below msgF_kept oo1 hb7 (by omega)
    have oo2 := oo2.below hb7 (by omega)
    have oo0 := oo0.below hb8 (by omega)
    have oo1 := Fr.below msgF_kept oo1 hb8 (by omega)
    have oo2 := oo2.below hb8 (by omega)
    have rw7 := rw5a.below (flat_kept _) hb7 (by omega)
    clear rw5a
    have rw8 := rw7.below (flat_kept _) hb8 (by omega)
    clear rw7
    have og8 := (og5.below hb7 (Nat.le_refl _)).below hb8 (Nat.le_refl _)
    clear og5 qq0 qq1 qq2 p0_ p1_ p2_
    refine (markRep_c t A2 B2 E2 n2 c2 p2 d2 q2 f2 u2.heap.size mm1 mm2 u3.heap.size 1 u8 oo0 oo1 oo2 l1 l2 l3 (by omega) hz (by omega) (by omega)).mono ?_
    rintro e u9 ⟨kk, rfl, hkk, hm9⟩
    have x0 := hm9.keepc (by omega) x0
    have x1 := hm9.keepc (by omega) x1
    have x2 := hm9.keepc (by omega) x2
    have x3 := hm9.keepc (by omega) x3
    have x4 := hm9.keepc (by omega) x4
    have x5 := hm9.keepc (by omega) x5
    have x6 := hm9.keepc (by omega) x6
    have hz9 := hm9.size
    have hB := hB.trans ((hm9.below (by omega)).mono (by omega))
    have rw9 := rw8.keep (flat_kept _) (fun b _ h2 => hm9.block b (by omega) (by omega))
    have og9 := og8.keep (fun b hb => hm9.block b (by have := (gbk.out b hb).2; omega) (by have := (gbk.out b hb).1; omega))
    clear rw8 og8 oo0 oo1 oo2
    have d2 : decide (kk < 0) = false := by simp; omega
    go_wp2_with fail
    refine (eqReqS_same (og9.rdn encReq_len) rw9 (Nat.le_refl _) (by omega)).mono ?_
    rintro e u10 ⟨rfl, hb10⟩
    have og10 := og9.below hb10 (Nat.le_refl _)
    clear og9
    have x0 := keepc hb10 x0
    have x1 := keepc hb10 x1
    have x2 := keepc hb10 x2
    have x3 := keepc hb10 x3
    have x4 := keepc hb10 x4
    have x5 := keepc hb10 x5
    have x6 := keepc hb10 x6
    have hB := hB.trans (hb10.mono hB.size)
    have hz10 := hb10.size
    have rw10 := rw9.below (flat_kept _) hb10 (by omega)
    clear rw9
    go_wp2_with fail
    refine (markReqS_c Ag xs.length cg _ 1 xs u10 rfl hxl (by omega) (by omega) og10).mono ?_
    rintro e u11 ⟨rfl, om, ho11⟩
    have hm11 : Mid v3.heap.size u4.heap.size u10 u11 := Mid.of_only ho11 gbk.out
    have hz11 := hm11.size
    have hB := hB.trans ((hm11.below (by omega)).mono (by omega))
    have x0 := hm11.keepc (by omega) x0
    have x1 := hm11.keepc (by omega) x1
    have x2 := hm11.keepc (by omega) x2
    have x3 := hm11.keepc (by omega) x3
    have x4 := hm11.keepc (by omega) x4
    have x5 := hm11.keepc (by omega) x5
    have x6 := hm11.keepc (by omega) x6
    have rw11 := rw10.keep (flat_kept _) (fun b _ h2 => hm11.block b (by omega) (by omega))
    clear rw10 og10 ho11
    go_wp2_with fail
    refine (heldReqS_c Ag xs.length cg v3.heap.size u11.heap.size 1 u11 hxl (by omega) (by omega) (om.slAt encReq_len).2.2).mono ?_
    rintro e u11' ⟨rfl, hq⟩
    subst hq
    have d3 : decide (1 + 5 * (xs.length : Int) < 0) = false := by simp; omega
    have d4 : (1 + 5 * (xs.length : Int) != 1 + 5 * (xs.length : Int)) = false := by simp
    obtain ⟨kq, hkq⟩ : ∃ kq : Int, 1 + 5 * (xs.length : Int) = kq := ⟨_, rfl⟩
    rw [hkq] at d3 d4
    have hkq' := hide hkq
    rw [hkq]
    clear hkq
    go_wp2_with fail
    refine (kt.out _ hB).mono ?_
    rintro e u12 ⟨A4, B4, E4, n4, c4, p4, d4, q4, f4, rfl, ff12, hb12⟩
    have om12 := om.below hb12 (Nat.le_refl _)
    obtain ⟨s0_, s1_, s2_⟩ := repR_inv (repF_R ff12)
    clear ff12 om
    have hB := hB.trans (hb12.mono hB.size)
    have hz12 := hb12.size
    have rw12 := rw11.below (flat_kept _) hb12 (by omega)
    clear rw11
    go_wp2_with fail
    refine (kimpl.out A4 B4 E4 n4 c4 p4 d4 q4 f4 u11.heap.size u12.heap.size u12 s0_ s1_ s2_ (Nat.le_refl _)).mono ?_
    rintro e u13 ⟨vh, rfl, oh, hb13⟩
    obtain ⟨Ah, ch, rfl, _, _, _⟩ := oh.form
    have hB := hB.trans (hb13.mono hB.size)
    have hz13 := hb13.size
    have om13 := om12.below hb13 (Nat.le_refl _)
    clear om12 s0_ s1_ s2_
    have rw13 := rw12.below (flat_kept _) hb13 (by omega)
    clear rw12
    go_wp2_with fail
    refine (eqReqS_same (oh.rdn encReq_len) rw13 (Nat.le_refl _) (by omega)).mono ?_
    rintro e u14 ⟨rfl, hb14⟩
    have hB := hB.trans (hb14.mono hB.size)
    have om14 := om13.below hb14 (Nat.le_refl _)
    clear rw13 om13 oh
    go_wp2_with fail
    refine (heldReqS_c Ag xs.length cg v3.heap.size u14.heap.size 1 u14 hxl (by omega) (by omega) (om14.slAt encReq_len).2.2).mono ?_
    rintro e u15 ⟨rfl, hq⟩
    subst hq
    rw [hkq'.out]
    go_wp2
    go_ret
    exact ⟨rfl, hB⟩
  · have y := hide (szO_no (show 1048576 < szRep t by omega))
    go_enter Try.func13, Try.ntmps13
    go_wp2_with fail
    generalize w.alloc (.cells #[.int .i64 t.1, .int .i64 t.2.1, .bool t.2.2.1, .int .i64 t.2.2.2.1, .slice A n c, .slice B p d, .slice E q f] 80) = v0 at *
    refine (ks.out _ hB).mono ?_
    rintro e u0 ⟨rfl, hb0⟩
    rw [y.out]
    have hB := hB.trans (hb0.mono hB.size)
    go_wp2
    go_ret
    exact ⟨rfl, hB⟩
end Go.Proofs.Ytphlnihmfgmecaa
