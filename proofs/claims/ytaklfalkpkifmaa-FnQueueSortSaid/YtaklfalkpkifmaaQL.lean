/-
  'QueueNext' in both packages.
-/
import Derived.Test.YtaklfalkpkifmaaQK
namespace Go.Proofs.Ytaklfalkpkifmaa
open Go.RowKit Rg
set_option linter.unusedVariables false

namespace Rg
/-- Block b is as it was: kept behind the effects of a region whose loads of that block may come up late. -/
structure Stays (b : Nat) (o : Option Obj) (w2 : World) : Prop where
  heap : w2.heap[b]? = o
theorem Stays.drew {b : Nat} {o : Option Obj} {w : World} (h : Stays b o w) : Stays b o w.drew := ⟨h.heap⟩
theorem Stays.cell {b : Nat} {o : Option Obj} {w : World} (h : Stays b o w) {p : Addr} {u : Value} (hne : b ≠ p.block) : Stays b o (w.setCell p u) := ⟨(Below.heap_setCell w p u b hne).trans h.heap⟩
theorem Stays.and_ {b : Nat} {o : Option Obj} {w : World} {R : Prop} (h : Stays b o w) (k : Stays b o w → R) : Stays b o w ∧ R := ⟨h, k h⟩
theorem gives_load_at {P : Program} {o : Oper} {a : Act} {w w2 : World} {p : Addr} {v : Value} {t : TypeId} {x : Operand} {cs : Array Value} {e : TypeId} {fz : Nat × Nat} (ho : o.op = .load t x) (hx : a.eval x = .pointer (some p)) (hh : w.heap[p.block]? = some (.cells cs e fz)) (hh2 : w2.heap[p.block]? = some (.cells cs e fz)) (hg : Gives P o a w v) :
    Gives P o a w2 v := by
  unfold Gives at *
  obtain ⟨dst, op, type, pos, after, guard⟩ := o
  simp only at ho
  subst ho
  simp only [execOp, hx, Instr.loadAt, Instr.sureAddr, Sem.run_bind, Sem.run_pure, Result.andThen_ok, loadVar] at hg ⊢
  cases hi : (isAgg t).run P w with
  | halt x w1 => rw [hi] at hg; simp at hg
  | ok b w1 =>
    obtain ⟨rfl, hi2⟩ := free_isAgg P t w w2 b w1 hi
    rw [hi] at hg
    rw [hi2]
    simp only [Result.andThen_ok] at hg ⊢
    cases b
    · simp only [Bool.false_eq_true, if_false] at hg ⊢
      cases hl : (load p).run P w1 with
      | halt x w3 => rw [hl] at hg; simp at hg
      | ok u' w3 =>
        rw [hl] at hg
        simp only [Result.andThen_ok, Result.ok.injEq, Next.value.injEq] at hg
        obtain ⟨rfl, rfl⟩ := hg
        rw [run_load_since hh hh2 rfl hl]
        rfl
    · simp only [if_true, Sem.run_bind, Sem.run_pure] at hg ⊢
      cases hs : (sizeOf t).run P w1 with
      | halt x w3 => rw [hs] at hg; simp at hg
      | ok n w3 =>
        obtain ⟨rfl, hs2⟩ := free_sizeOf P t w1 w2 n w3 hs
        rw [hs] at hg
        rw [hs2]
        simp only [Result.andThen_ok, loadCells] at hg ⊢
        cases hl : (loadCellsFrom p 0 n #[]).run P w3 with
        | halt x w4 => rw [hl] at hg; simp at hg
        | ok r w4 =>
          rw [hl] at hg
          simp only [Result.andThen_ok, Result.ok.injEq, Next.value.injEq] at hg
          obtain ⟨rfl, rfl⟩ := hg
          rw [run_loadCells_since hh hh2 n 0 #[] r hl]
          rfl
theorem wpT_k {P : Program} {ops : Array Oper} {et sl : List Tmp} {QT : Act → World → Prop} {o : Oper} {rest : List Oper} {a : Act} {w : World} {b : Nat} {ob : Option Obj} {t : TypeId} (x : Operand) (p : Addr) (hg : o.guard = none) (ho : o.op = .load t x) (het : inT et o = false) (hx : a.eval x = .pointer (some p))
    (hS : Stays b ob w) (hp : p.block = b) (hc : (w.cell? p).isSome = true)
    (h : ∀ K : Act → World → Prop, (∀ a', wpT P ops (Stays b ob) et sl QT rest a' w → K a' w) → o.wp P a w K Qf) : wpT P ops (Stays b ob) et sl QT (o :: rest) a w := by
  have h1 := h (fun a' w' => w' = w ∧ wpT P ops (Stays b ob) et sl QT rest a' w') (fun a' h => ⟨rfl, h⟩)
  have he : isE et o = false := by simp [isE, isEop, ho, het]
  obtain ⟨u, hc⟩ := Option.isSome_iff_exists.1 hc
  unfold Oper.wp at h1
  generalize hr : (execOp a.eval o).run P w = r at h1
  cases r with
  | ok n w' =>
    obtain ⟨v, rfl⟩ := exec_value he hr
    simp only [Oper.upon] at h1
    obtain ⟨rfl, h2⟩ := h1
    refine wpT_s v he hg hr (fun w2 h3 => ?_) h2
    have hb : w2.heap[p.block]? = w'.heap[p.block]? := by rw [hp, h3.heap, hS.heap]
    obtain ⟨cs, e, fz, hh⟩ : ∃ cs e fz, w'.heap[p.block]? = some (.cells cs e fz) := by
      unfold World.cell? at hc
      split at hc
      · rename_i cs e fz hh; exact ⟨cs, e, fz, hh⟩
      · cases hc
    exact gives_load_at ho hx hh (hb.trans hh) hr
  | halt y w' =>
    exfalso
    cases y <;> simp only [Oper.upon] at h1
    exact h1
end Rg

/-- A box with a thing. -/
structure Bx (b : Nat) (u : Tm) (w : World) : Prop where
  l : b < w.heap.size
  a1 : w.cell? ⟨b, 0, none⟩ = some (.int .i64 u.1)
  a2 : w.cell? ⟨b, 1, none⟩ = some (.int .i64 u.2.1)
  a3 : w.cell? ⟨b, 2, none⟩ = some (.int .i64 u.2.2)
  f1 : w.frozen? ⟨b, 0, none⟩ = false
  f2 : w.frozen? ⟨b, 1, none⟩ = false
  f3 : w.frozen? ⟨b, 2, none⟩ = false
theorem Bx.keep {b : Nat} {u : Tm} {w w' : World} (h : Bx b u w) (hs : w.heap.size ≤ w'.heap.size) (k0 : w'.heap[b]? = w.heap[b]?) : Bx b u w' :=
  ⟨Nat.lt_of_lt_of_le h.l hs, (World.cell?_of_block k0).trans h.a1, (World.cell?_of_block k0).trans h.a2, (World.cell?_of_block k0).trans h.a3, (World.frozen?_of_block k0).trans h.f1, (World.frozen?_of_block k0).trans h.f2, (World.frozen?_of_block k0).trans h.f3⟩
theorem Bx.below {b : Nat} {u : Tm} {w w' : World} (h : Bx b u w) (hb : Below w.heap.size w w') : Bx b u w' := h.keep hb.size (hb.block b h.l)
theorem Bx.only {b : Nat} {u : Tm} {w w' : World} {g : Option Nat} (h : Bx b u w) (ho : Only w.heap.size g w w') (hne : g ≠ some b) : Bx b u w' := h.keep ho.size (ho.block b h.l hne)
theorem Bx.made (W : World) (u : Tm) (e : TypeId) : Bx W.heap.size u (W.alloc (.cells #[.int .i64 u.1, .int .i64 u.2.1, .int .i64 u.2.2] e)) :=
  ⟨by simp, by simp, by simp, by simp, by simp, by simp, by simp⟩
theorem below_box3 {B b : Nat} {a w : World} (h : Below B a w) (hb : B ≤ b) (u0 u1 u2 : Value) : Below B a (((w.setCell ⟨b, 0, none⟩ u0).setCell ⟨b, 1, none⟩ u1).setCell ⟨b, 2, none⟩ u2) :=
  below_putCells [u0, u1, u2] h hb

/-- What 'QueueNext' answers. -/
def nextL (xs : List Tm) : List Tm × Tm × Bool := if h : okQ xs ∧ 0 < xs.length then (popL xs h.2, xs[0]'h.2, true) else ([], (0, 0, 0), false)
theorem nextL_not {xs : List Tm} (h : decide (okQ xs) = false ∨ xs.length = 0) : nextL xs = ([], (0, 0, 0), false) := by
  unfold nextL
  rw [dif_neg]
  rintro ⟨h1, h2⟩
  rcases h with h | h
  · simp at h; exact h h1
  · omega
theorem nextL_yes {xs : List Tm} (h : decide (okQ xs) = true) (h2 : 0 < xs.length) : nextL xs = (popL xs h2, xs[0], true) := by
  simp at h; unfold nextL; rw [dif_pos ⟨h, h2⟩]

set_option maxHeartbeats 2000000 in
theorem QueueNext_c (A : Option Addr) (n c lo hi : Nat) (xs : List Tm) (w : World) (hn : n = xs.length) (hb : n ≤ 1048576) (hc : n ≤ c) (hc2 : c ≤ maxLen) (hs : Sl encT 3 w lo hi A xs) (hhi : hi ≤ w.heap.size) :
    Calls Try.prog 25 #[.slice A n c] w fun e w' => ∃ v, e = .returned (.tuple #[v, .agg #[.int .i64 (nextL xs).2.1.1, .int .i64 (nextL xs).2.1.2.1, .int .i64 (nextL xs).2.1.2.2], .bool (nextL xs).2.2]) ∧ Own encT 3 31 w' w.heap.size v (nextL xs).1 ∧ Below w.heap.size w w' := by
  have hn' := hide hn
  clear hn
  have hW : Below w.heap.size w (w.alloc (.cells #[.int .i64 0, .int .i64 0, .int .i64 0] 31)) := (Below.refl _ _).alloc (Nat.le_refl _) _
  have hX := Bx.made w (0, 0, 0) 31
  go_enter Try.func25, Try.ntmps25
  go_wp2_with fail
  refine (QueueOk_c A n c lo hi xs _ hn'.out hb hc hc2 (hs.below hW hhi) (Nat.le_trans hhi hW.size)).mono ?_
  rintro e w1 ⟨rfl, hb1⟩
  have hB1 : Below w.heap.size w w1 := hW.trans (hb1.mono hW.size)
  have hX1 := hX.below hb1
  have x1 := hX1.a1
  have x2 := hX1.a2
  have x3 := hX1.a3
  have x4 := hX1.f1
  have x5 := hX1.f2
  have x6 := hX1.f3
  cases e1 : decide (okQ xs)
  · have hno := nextL_not (.inl e1)
    go_wp2
    refine bodyPost_ret (v := .tuple #[.slice none 0 0, .agg #[.int .i64 0, .int .i64 0, .int .i64 0], .bool false]) (by simp [results, Try.results25, go_sem, x1, x2, x3]) rfl ⟨.slice none 0 0, by rw [hno], by rw [hno]; exact Own.nil_ _ _ _ _ _, below_box3 hB1 (Nat.le_refl _) _ _ _⟩
  · by_cases h0 : n = 0
    · subst h0
      have hno := nextL_not (xs := xs) (.inr hn'.out.symm)
      go_wp2
      refine bodyPost_ret (v := .tuple #[.slice none 0 0, .agg #[.int .i64 0, .int .i64 0, .int .i64 0], .bool false]) (by simp [results, Try.results25, go_sem, x1, x2, x3]) rfl ⟨.slice none 0 0, by rw [hno], by rw [hno]; exact Own.nil_ _ _ _ _ _, below_box3 hB1 (Nat.le_refl _) _ _ _⟩
    · have hne : ((n : Int) == 0) = false := by simp; omega
      have h0x : 0 < xs.length := by have := hn'.out; omega
      have hy := hide (nextL_yes e1 h0x)
      go_wp2_with fail
      refine (clone_c A n c lo hi xs w1 hn'.out hb (hs.below hB1 hhi) (Nat.le_trans hhi hB1.size)).mono ?_
      rintro e w2 ⟨A', rfl, ho2, hb2⟩
      have hB2 : Below w.heap.size w w2 := hB1.trans (hb2.mono hB1.size)
      have hX2 := hX1.below hb2
      obtain ⟨g, rfl, hg1, hg2⟩ := ho2.addrAt (k := 0) (by omega)
      obtain ⟨m, rfl⟩ : ∃ m, n = m + 1 := ⟨n - 1, by omega⟩
      go_wp2_with fail
      refine (pop_c g m (m + 1) w1.heap.size xs w2 hn'.out h0x (by omega) ho2).mono ?_
      rintro e w3 ⟨rfl, ho3, hon3⟩
      have hB3 : Below w.heap.size w w3 := hB2.trans (hon3.toBelow hB2.size (fun k hk => by cases hk; have := hB1.size; omega))
      have hX3 := hX2.only hon3 (by simp; have := hX1.l; omega)
      have hX4 := hX3.below ((Below.refl _ w3).alloc (Nat.le_refl _) (.cells #[.int .i64 xs[0].1, .int .i64 xs[0].2.1, .int .i64 xs[0].2.2] 31))
      have hY4 := Bx.made w3 xs[0] 31
      have ho4 := ho3.alloc (.cells #[.int .i64 xs[0].1, .int .i64 xs[0].2.1, .int .i64 xs[0].2.2] 31)
      have hB4 := hB3.alloc hB3.size (.cells #[.int .i64 xs[0].1, .int .i64 xs[0].2.1, .int .i64 xs[0].2.2] 31)
      have hlt : w.heap.size < w3.heap.size := hX3.l
      have hpl : Hid (m = (popL xs h0x).length) := hide ho3.lenEq
      go_wp2
      generalize w3.alloc (.cells #[.int .i64 xs[0].1, .int .i64 xs[0].2.1, .int .i64 xs[0].2.2] 31) = wc at *
      have hst : Stays w3.heap.size wc.heap[w3.heap.size]? wc := ⟨rfl⟩
      have y1 := hY4.a1
      have y2 := hY4.a2
      have y3 := hY4.a3
      clear x1 x2 x3 x4 x5 x6
      refine wp_region_T (Stays _ _) [] [] [24] [0, 2, 1, 3, 4, 5] (by kernel_rfl) (by kernel_rfl) (by kernel_rfl) (Stays.drew hst) ?_; simp only [pickL, List.getElem?_cons_succ, List.getElem?_cons_zero]
      go_wp2_with (first
        | ((with_reducible refine Stays.and_ ?_ ?_); (focus (repeat (first | assumption | ((with_reducible refine Stays.cell ?_ ?_); rotate_left; (focus (first | assumption | (simp; omega))))))); intro hS) | ((with_reducible refine wpT_q0 ?_ ?_ ?_ ?_); (focus rfl); (focus rfl); (focus rfl); intro K hK) | ((with_reducible apply wpT_k); (focus rfl); (focus rfl); (focus rfl); (focus rfl); (focus (first | assumption | exact Stays.drew (by assumption))); (focus rfl); (focus go_simp); intro K hK) | ((with_reducible refine wpT_xs0 ?_ ?_ ?_); (focus rfl); (focus rfl); intro K hK) | ((with_reducible refine wpT_noL ?_ ?_); (focus (first | exact wanted_no _ _ _ rfl rfl rfl | exact wanted_un _ _ _ rfl rfl rfl)); simp only [setO, List.set_cons_succ, List.set_cons_zero]) | ((with_reducible refine wpT_q1 ?_ ?_ ?_ ?_); (focus exact wanted_yes _ _ _ rfl rfl rfl); (focus rfl); (focus rfl); intro K hK) | ((with_reducible refine wpT_xs1 ?_ ?_ ?_); (focus exact wanted_yes _ _ _ rfl rfl rfl); (focus rfl); intro K hK) | ((with_reducible refine wpT_nil ?_); try dsimp only)
        | (go_at_call 43; refine (clone_c _ m (m + 1) _ _ (popL xs h0x) wc.drew hpl.out (by omega) (ho4.drew.slAt encT_len).2.2 (Nat.le_refl _)).mono ?_; rintro e w5 ⟨A5, rfl, ho5, hb5⟩; have hB5 : Below w.heap.size w w5 := hB4.drew.trans (hb5.mono hB4.size); have hX5 := (hX4.below (Below.drew (Below.refl _ _))).below hb5; have x1 := hX5.a1; have x2 := hX5.a2; have x3 := hX5.a3; have x4 := hX5.f1; have x5 := hX5.f2; have x6 := hX5.f3; have hst5 : Stays w3.heap.size wc.heap[w3.heap.size]? w5 := ⟨hb5.block _ hY4.l⟩; dsimp only))
      refine bodyPost_ret (v := .tuple #[.slice A5 m m, .agg #[.int .i64 xs[0].1, .int .i64 xs[0].2.1, .int .i64 xs[0].2.2], .bool true]) (by simp [results, Try.results25, go_sem, x1, x2, x3]) rfl ⟨.slice A5 m m, by rw [hy.out], ?_, below_box3 hB5 (Nat.le_refl _) _ _ _⟩
      rw [hy.out]
      exact (ho5.mono hB4.size).box3 (fun k hk => by have g1 := (ho5.lt k hk).1; have g2 := hX4.l; have g3 : wc.heap.size ≤ k := g1; omega) _ _ _

set_option maxHeartbeats 2000000 in
theorem specQueueNext_c (A : Option Addr) (n c lo hi : Nat) (xs : List Tm) (w : World) (hn : n = xs.length) (hb : n ≤ 1048576) (hs : Sl encT 3 w lo hi A xs) (hhi : hi ≤ w.heap.size) :
    Calls Try.prog 24 #[.slice A n c] w fun e w' => ∃ v, e = .returned (.tuple #[v, .agg #[.int .i64 (nextL xs).2.1.1, .int .i64 (nextL xs).2.1.2.1, .int .i64 (nextL xs).2.1.2.2], .bool (nextL xs).2.2]) ∧ Own encT 3 31 w' w.heap.size v (nextL xs).1 ∧ Below w.heap.size w w' := by
  have hn' := hide hn
  clear hn
  have hW : Below w.heap.size w (w.alloc (.cells #[.int .i64 0, .int .i64 0, .int .i64 0] 31)) := (Below.refl _ _).alloc (Nat.le_refl _) _
  have hX := Bx.made w (0, 0, 0) 31
  go_enter Try.func24, Try.ntmps24
  go_wp2_with fail
  refine (l13Ok_c A n c lo hi xs _ hn'.out hb (hs.below hW hhi) (Nat.le_trans hhi hW.size)).mono ?_
  rintro e w1 ⟨rfl, hb1⟩
  have hB1 : Below w.heap.size w w1 := hW.trans (hb1.mono hW.size)
  have hX1 := hX.below hb1
  have x1 := hX1.a1
  have x2 := hX1.a2
  have x3 := hX1.a3
  have x4 := hX1.f1
  have x5 := hX1.f2
  have x6 := hX1.f3
  cases e1 : decide (okQ xs)
  · have hno := nextL_not (.inl e1)
    go_wp2
    refine bodyPost_ret (v := .tuple #[.slice none 0 0, .agg #[.int .i64 0, .int .i64 0, .int .i64 0], .bool false]) (by simp [results, Try.results24, go_sem, x1, x2, x3]) rfl ⟨.slice none 0 0, by rw [hno], by rw [hno]; exact Own.nil_ _ _ _ _ _, below_box3 hB1 (Nat.le_refl _) _ _ _⟩
  · by_cases h0 : n = 0
    · subst h0
      have hno := nextL_not (xs := xs) (.inr hn'.out.symm)
      go_wp2
      refine bodyPost_ret (v := .tuple #[.slice none 0 0, .agg #[.int .i64 0, .int .i64 0, .int .i64 0], .bool false]) (by simp [results, Try.results24, go_sem, x1, x2, x3]) rfl ⟨.slice none 0 0, by rw [hno], by rw [hno]; exact Own.nil_ _ _ _ _ _, below_box3 hB1 (Nat.le_refl _) _ _ _⟩
    · have hne : ((n : Int) == 0) = false := by simp; omega
      have h0x : 0 < xs.length := by have := hn'.out; omega
      have hy := hide (nextL_yes e1 h0x)
      obtain ⟨m, rfl⟩ : ∃ m, n = m + 1 := ⟨n - 1, by omega⟩
      go_wp2_with (at_builtin; refine wpList_app encT_len (by omega) encT_one rfl _ _ 25 rfl 31 _ 24 Try.underlying25 info_T rfl w1.heap.size _ [] rfl (own_empty encT 3 _ w1) lo hi _ xs _ _ rfl hn'.out ?h1 ?h2 ?h3 ?_)
      case h1 => exact hs.below (hB1.alloc hB1.size _) hhi
      case h2 => have := hn'.out; simp [maxLen]; omega
      case h3 => simp
      intro v2 w2 ho2' hg2' hb2'
      have hb2 : Below w1.heap.size w1 w2 := ((Below.refl _ _).alloc (Nat.le_refl _) _).trans hb2'
      have hB2 : Below w.heap.size w w2 := hB1.trans (hb2.mono hB1.size)
      have ho2 : Own encT 3 31 w2 w1.heap.size v2 xs := by simpa using ho2'
      clear ho2' hg2' hb2' x1 x2 x3 x4 x5 x6
      have hX2 := hX1.below hb2
      obtain ⟨A', c', rfl, hc', hm', hs'⟩ := ho2.sl encT_len
      rw [← hn'.out] at ho2 hc' ⊢
      clear hs'
      obtain ⟨g, rfl, hg1, hg2⟩ := ho2.addrAt (k := 0) (by omega)
      obtain ⟨z1, z2, z3⟩ := ho2.tm h0x
      obtain ⟨v1, v2, v3⟩ := ho2.tm (k := m) (by have := hn'.out; omega)
      have f1 := ho2.frozen (0 * 3)
      have f2 := ho2.frozen (0 * 3 + 1)
      have f3 := ho2.frozen (0 * 3 + 2)
      have hxm : m < xs.length := by have := hn'.out; omega
      have hset := (ho2.putTm (k := 0) (by omega) xs[m]).cutTo encT_len (k := m) (by omega)
      simp only [Nat.zero_mul, Nat.zero_add] at z1 z2 z3 f1 f2 f3 hset
      have hgn : ¬ g = w2.heap.size := by omega
      have hgm : ¬ w2.heap.size = g := by omega
      have hon3 : Only w2.heap.size (some g) w2 (((w2.setCell ⟨g, 0, none⟩ (.int .i64 xs[m].1)).setCell ⟨g, 1, none⟩ (.int .i64 xs[m].2.1)).setCell ⟨g, 2, none⟩ (.int .i64 xs[m].2.2)) := Only.putTm (j := 0) (Only.refl _ _ _) xs[m]
      have hsz : Hid (w2.heap.size = (((w2.setCell ⟨g, 0, none⟩ (.int .i64 xs[m].1)).setCell ⟨g, 1, none⟩ (.int .i64 xs[m].2.1)).setCell ⟨g, 2, none⟩ (.int .i64 xs[m].2.2)).heap.size) := hide (by simp [World.setCell])
      have hB3 : Below w.heap.size w (((w2.setCell ⟨g, 0, none⟩ (.int .i64 xs[m].1)).setCell ⟨g, 1, none⟩ (.int .i64 xs[m].2.1)).setCell ⟨g, 2, none⟩ (.int .i64 xs[m].2.2)) := hB2.trans (hon3.toBelow hB2.size (fun k hk => by cases hk; have := hB1.size; omega))
      have hX3 := hX2.only hon3 (by simp; have := hX1.l; omega)
      have hpl : Hid (popL xs h0x = sinkAt 0 ((xs.set 0 xs[m]).take m)) := hide (by
        have e1 : xs.length - 1 = m := by have := hn'.out; omega
        unfold popL; simp only [e1])
      have hlen : Hid (m = ((xs.set 0 xs[m]).take m).length) := hide (by simp; omega)
      have hw2 : w.heap.size < w2.heap.size := hX2.l
      go_wp2
      clear z1 z2 z3 v1 v2 v3 f1 f2 f3 hgn hgm
      generalize (((w2.setCell ⟨g, 0, none⟩ (.int .i64 xs[m].1)).setCell ⟨g, 1, none⟩ (.int .i64 xs[m].2.1)).setCell ⟨g, 2, none⟩ (.int .i64 xs[m].2.2)) = w3 at *
      have hX4 := hX3.below ((Below.refl _ w3).alloc (Nat.le_refl _) (.cells #[.int .i64 xs[0].1, .int .i64 xs[0].2.1, .int .i64 xs[0].2.2] 31))
      have hY4 := Bx.made w3 xs[0] 31
      have ho4 := hset.alloc (.cells #[.int .i64 xs[0].1, .int .i64 xs[0].2.1, .int .i64 xs[0].2.2] 31)
      have hB4 := hB3.alloc hB3.size (.cells #[.int .i64 xs[0].1, .int .i64 xs[0].2.1, .int .i64 xs[0].2.2] 31)
      rw [← hsz.out] at hY4
      have hgs : g < w2.heap.size := hg2
      generalize w3.alloc (.cells #[.int .i64 xs[0].1, .int .i64 xs[0].2.1, .int .i64 xs[0].2.2] 31) = wc at *
      have hst : Stays w2.heap.size wc.heap[w2.heap.size]? wc := ⟨rfl⟩
      have y1 := hY4.a1
      have y2 := hY4.a2
      have y3 := hY4.a3
      refine wp_region_T (Stays _ _) [] [] [36] [0, 1, 2, 3, 4, 6, 5, 7, 8, 9] (by kernel_rfl) (by kernel_rfl) (by kernel_rfl) (Stays.drew hst) ?_; simp only [pickL, List.getElem?_cons_succ, List.getElem?_cons_zero]
      go_wp2_with (first
        | ((with_reducible refine Stays.and_ ?_ ?_); (focus (repeat (first | assumption | ((with_reducible refine Stays.cell ?_ ?_); rotate_left; (focus (first | assumption | (simp; omega))))))); intro hS) | ((with_reducible refine wpT_q0 ?_ ?_ ?_ ?_); (focus rfl); (focus rfl); (focus rfl); intro K hK) | ((with_reducible apply wpT_k); (focus rfl); (focus rfl); (focus rfl); (focus rfl); (focus (first | assumption | exact Stays.drew (by assumption))); (focus rfl); (focus go_simp); intro K hK) | ((with_reducible refine wpT_xs0 ?_ ?_ ?_); (focus rfl); (focus rfl); intro K hK) | ((with_reducible refine wpT_noL ?_ ?_); (focus (first | exact wanted_no _ _ _ rfl rfl rfl | exact wanted_un _ _ _ rfl rfl rfl)); simp only [setO, List.set_cons_succ, List.set_cons_zero]) | ((with_reducible refine wpT_q1 ?_ ?_ ?_ ?_); (focus exact wanted_yes _ _ _ rfl rfl rfl); (focus rfl); (focus rfl); intro K hK) | ((with_reducible refine wpT_xs1 ?_ ?_ ?_); (focus exact wanted_yes _ _ _ rfl rfl rfl); (focus rfl); intro K hK) | ((with_reducible refine wpT_nil ?_); try dsimp only)
        | (go_at_call 46; refine (sink_c g m c' w1.heap.size ((xs.set 0 xs[m]).take m) wc.drew hlen.out (by omega) ho4.drew).mono ?_; rintro e w5 ⟨rfl, ho5, hon5⟩; have hB5 : Below w.heap.size w w5 := hB4.drew.trans (hon5.toBelow hB4.size (fun k hk => by cases hk; have := hB1.size; omega)); have hX5 := (hX4.below (Below.drew (Below.refl _ _))).only hon5 (by simp; have := hX1.l; omega); have x1 := hX5.a1; have x2 := hX5.a2; have x3 := hX5.a3; have x4 := hX5.f1; have x5 := hX5.f2; have x6 := hX5.f3; have hst5 : Stays w2.heap.size wc.heap[w2.heap.size]? w5 := ⟨hon5.block _ hY4.l (by simp; omega)⟩; dsimp only))
      refine bodyPost_ret (v := .tuple #[.slice (some ⟨g, 0, none⟩) m c', .agg #[.int .i64 xs[0].1, .int .i64 xs[0].2.1, .int .i64 xs[0].2.2], .bool true]) (by simp [results, Try.results24, go_sem, x1, x2, x3]) rfl ⟨.slice (some ⟨g, 0, none⟩) m c', by rw [hy.out], ?_, below_box3 hB5 (Nat.le_refl _) _ _ _⟩
      rw [hy.out]
      dsimp only
      rw [hpl.out]
      exact (ho5.mono hB1.size).box3 (fun k hk => by have g1 := (ho5.lt k hk).1; have := hX1.l; omega) _ _ _
end Go.Proofs.Ytaklfalkpkifmaa
