/-
  'GameOk' of the program, of any game. (Printed by gen_ia.py.)
  Conditions: none.
-/
import Derived.Test.YtajmfonepnkofaaDoorHR
namespace Go.Proofs.YtajmfonepnkofaaDoor
open Go.RowKit Rg
set_option linter.unusedVariables false
set_option linter.unusedSimpArgs false

/-- Whether a game is ok. -/
noncomputable def okB (g : GameT) : Bool := @decide (okG g) (Classical.propDecidable _)
theorem okB_iff (g : GameT) : okB g = true ↔ okG g := by unfold okB; exact @decide_eq_true_iff _ (Classical.propDecidable _)
theorem okB_false {g : GameT} (h : ¬ okG g) : okB g = false := by
  cases e : okB g
  · rfl
  · exact absurd ((okB_iff g).1 e) h
theorem okB_true {g : GameT} (h : okG g) : okB g = true := (okB_iff g).2 h
/-- The first 'k' figures are ok, and in order. -/
def preE (es : List EntT) (k : Nat) : Prop := ∀ j (h : j < es.length), j < k → entOk es[j] ∧ lastC es j < es[j].1
theorem preE.zero (es : List EntT) : preE es 0 := fun j _ h => absurd h (by omega)
theorem preE.succ {es : List EntT} {k : Nat} (h : preE es k) (hk : k < es.length) (h1 : entOk es[k]) (h2 : lastC es k < es[k].1) : preE es (k + 1) := fun j hj hjk => by
  by_cases e : j < k
  · exact h j hj e
  · obtain rfl : j = k := by omega
    exact ⟨h1, h2⟩
theorem lastC_succ {es : List EntT} {k : Nat} (hk : k < es.length) : lastC es (k + 1) = es[k].1 := by unfold lastC; rw [if_neg (by omega), Nat.add_sub_cancel, getD_at hk]
theorem preE.last {es : List EntT} {k : Nat} (h : preE es k) (hk : k ≤ es.length) : 0 ≤ lastC es k ∧ lastC es k ≤ 4 := by
  cases k with
  | zero => unfold lastC; simp
  | succ j =>
    have := (h j (by omega) (by omega)).1.1
    unfold rng at this
    rw [lastC_succ (by omega)]
    omega
theorem preE.gold {es : List EntT} : ∀ {k : Nat}, preE es k → k ≤ es.length → 0 ≤ goldS (es.take k) ∧ goldS (es.take k) ≤ 20 * (k : Int)
  | 0, _, _ => by simp [goldS]
  | k + 1, h, hk => by
    have ih := preE.gold (k := k) (fun j hj hjk => h j hj (by omega)) (by omega)
    have he := (h k (by omega) (by omega)).1.2.2.2.2
    unfold rng at he
    rw [goldS_take (by omega)]
    omega
theorem preE.inc {es : List EntT} (h : preE es es.length) : (es.map (·.1)).Pairwise (· < ·) := by
  rw [List.pairwise_iff_getElem]
  intro i j hi hj hij
  simp only [List.getElem_map]
  simp only [List.length_map] at hi hj
  induction j with
  | zero => omega
  | succ j ih =>
    have h1 := (h (j + 1) hj hj).2
    rw [lastC_succ (by omega)] at h1
    by_cases e : i = j
    · subst e; exact h1
    · exact Int.lt_trans (ih (by simpa using (show j < es.length by omega)) (by omega) (by omega)) h1
theorem okG.preE {g : GameT} (h : okG g) (k : Nat) : preE g.1 k := fun j hj _ => ⟨h.ent _ (List.getElem_mem hj), (lastC_lt h.inc (fun e he => (h.ent e he).1) hj).2.1⟩
theorem ok_not {g : GameT} {k : Nat} (hk : k < g.1.length) (h : ¬ (entOk g.1[k] ∧ lastC g.1 k < g.1[k].1)) : okB g = false := okB_false fun hg => h (hg.preE (k + 1) k hk (by omega))
def preF (xs : List Int) (k : Nat) : Prop := ∀ j (h : j < xs.length), j < k → rng xs[j] 0 20
theorem preF.succ {xs : List Int} {k : Nat} (h : preF xs k) (hk : k < xs.length) (h1 : rng xs[k] 0 20) : preF xs (k + 1) := fun j hj hjk => by
  by_cases e : j < k
  · exact h j hj e
  · obtain rfl : j = k := by omega
    exact h1
theorem preF.sum {xs : List Int} : ∀ {k : Nat}, preF xs k → k ≤ xs.length → 0 ≤ (xs.take k).sum ∧ (xs.take k).sum ≤ 20 * (k : Int)
  | 0, _, _ => by simp
  | k + 1, h, hk => by
    have ih := preF.sum (k := k) (fun j hj hjk => h j hj (by omega)) (by omega)
    have he := h k (by omega) (by omega)
    unfold rng at he
    rw [sum_take (by omega)]
    omega
theorem ok_flo {g : GameT} {k : Nat} (hk : k < g.2.1.length) (h : ¬ rng g.2.1[k] 0 20) : okB g = false := okB_false fun hg => h (hg.flo _ (List.getElem_mem hk))
theorem ok_all {g : GameT} (h1 : Go.Proofs.YtajmfonepnkofaaDoor.preE g.1 g.1.length) (h2 : preF g.2.1 g.2.1.length) (h3 : ∀ x ∈ g.2.2, rng x 0 30) (h4 : g.2.1.length = 16) (h5 : g.2.2.length = 4) (h6 : goldS g.1 + g.2.1.sum = 20) : okG g :=
  ⟨fun e he => by obtain ⟨j, hj, rfl⟩ := List.mem_iff_getElem.1 he; exact (h1 j hj hj).1, h1.inc, fun x hx => by obtain ⟨j, hj, rfl⟩ := List.mem_iff_getElem.1 hx; exact h2 j hj hj, h3, h4, h5, h6⟩
theorem inB_no {n lo hi : Int} (h : inB n lo hi = false) : ¬ (lo ≤ n ∧ n ≤ hi) := by unfold inB at h; exact of_decide_eq_false h
theorem inB_yes {n lo hi : Int} (h : inB n lo hi = true) : lo ≤ n ∧ n ≤ hi := by unfold inB at h; exact of_decide_eq_true h
set_option maxRecDepth 100000 in
set_option maxHeartbeats 4000000 in
theorem GameOkA_c (A : Option Addr) (n c : Nat) (B : Option Addr) (p d : Nat) (E : Option Addr) (q f : Nat) (D : Nat → Prop) (g : GameT) (w : World) (hg : GmD w D A n c B p d E q f g) (hD : ∀ b, D b → b < w.heap.size) (hbn : n ≤ 1048576) (hbp : p ≤ 1048576) (hbq : q ≤ 1048576) :
    Calls Tryd.prog 30 #[.agg #[.slice A n c, .slice B p d, .slice E q f]] w fun e w' => e = .returned (.bool (okB g)) ∧ Below w.heap.size w w' := by
  have hA0 := (Below.refl w.heap.size w).alloc (Nat.le_refl _) (.cells #[.slice A n c, .slice B p d, .slice E q f] 35)
  have hx0 := Bx3.made w (.slice A n c) (.slice B p d) (.slice E q f) 35
  have hx0h := hide hx0
  have hgh := hide hg
  have hn' := hide hg.en.len
  have hp' := hide hg.fl.len
  have hq' := hide hg.la.len
  clear hx0 hg
  go_enter Tryd.func30, Tryd.ntmps30
  go_wp2
  generalize w.alloc (.cells #[.slice A n c, .slice B p d, .slice E q f] 35) = w1 at *
  go_loopw [12, 3, 4] (fun i l s wr => ∃ (k : Nat) (lc gs : Int), k ≤ n ∧ i = .int .i64 (k : Int) ∧ l = .int .i64 lc ∧ s = .int .i64 gs ∧ Hid (lastC g.1 k = lc) ∧ Hid (goldS (g.1.take k) = gs) ∧ Hid (preE g.1 k) ∧ Below w1.heap.size w1 wr) (fun i _ _ _ => n - (intOf i).toNat)
  case atStart => exact ⟨0, 0, 0, Nat.zero_le _, rfl, rfl, rfl, hide rfl, hide rfl, hide (preE.zero _), Below.refl _ _⟩
  case round =>
    obtain ⟨k, lc, gs, hk, rfl, rfl, rfl, hlch, hgsh, hpre, hbr⟩ := hrel
    have hz1 := hA0.size
    have hzr := hbr.size
    have hgr := (hgh.out.below hA0 hD).below hbr (fun b hb => by have := hD b hb; omega)
    have hxr := hx0h.out.below hbr hx0h.out.lt
    obtain ⟨xx0, xx1, xx2, -, -, -⟩ := hxr.cells
    have hlxr := hxr.lt
    have hlcb : 0 ≤ lc ∧ lc ≤ 4 := by have := hpre.out.last (by have := hn'.out; omega); rw [hlch.out] at this; exact this
    have hgsb : 0 ≤ gs ∧ gs ≤ 20 * (k : Int) := by have := hpre.out.gold (by have := hn'.out; omega); rw [hgsh.out] at this; exact this
    by_cases hlt : k < n
    · have hlx : k < g.1.length := by have := hn'.out; omega
      obtain ⟨b, off, rfl, hDb⟩ := hgr.en.addr hlx
      obtain ⟨a0, a1, a2, a3, a4⟩ := hgr.en.ent hlx
      have hbw := hD b hDb
      have hbr' : b < wr.heap.size := by omega
      have hw64 : Hid (goldS (g.1.take (k + 1)) = gs + g.1[k].2.2.2.2) := hide (by rw [goldS_take hlx, hgsh.out])
      clear hgr
      cases i1 : inB g.1[k].1 (lc + 1) 4
      · have i1n := inB_no i1
        have hres := hide (ok_not hlx (g := g) (by
          rintro ⟨⟨t1, t2, t3, t4, t5⟩, t6⟩
          unfold rng at t1 t2 t3 t4 t5
          rw [hlch.out] at t6
          omega))
        go_wp2_with (first
          | (go_at_call 54; refine (in_c _ _ _ _).mono ?_; rintro e _ ⟨rfl, rfl⟩; (try simp only [i1]))
          | (go_at_call 55; refine (onBoard_c _ _ _).mono ?_; rintro e _ ⟨rfl, rfl⟩; (try simp only [i1]))
          | fail)
        go_ret
        exact ⟨by rw [hres.out]; rfl, hA0.trans ((hbr.mono hz1).trans ((Below.refl _ _).alloc (by omega) _))⟩
      · have i1y := inB_yes i1
        cases i2 : inB g.1[k].2.1 0 3 && inB g.1[k].2.2.1 0 3
        · have i2n : ¬ ((0 ≤ g.1[k].2.1 ∧ g.1[k].2.1 ≤ 3) ∧ (0 ≤ g.1[k].2.2.1 ∧ g.1[k].2.2.1 ≤ 3)) := fun h => by unfold inB at i2; simp only [decide_eq_true h.1, decide_eq_true h.2] at i2; cases i2
          have hres := hide (ok_not hlx (g := g) (by
            rintro ⟨⟨t1, t2, t3, t4, t5⟩, t6⟩
            unfold rng at t1 t2 t3 t4 t5
            rw [hlch.out] at t6
            exact i2n ⟨t2, t3⟩))
          go_wp2_with (first
            | (go_at_call 54; refine (in_c _ _ _ _).mono ?_; rintro e _ ⟨rfl, rfl⟩; (try simp only [i1, i2]))
            | (go_at_call 55; refine (onBoard_c _ _ _).mono ?_; rintro e _ ⟨rfl, rfl⟩; (try simp only [i1, i2]))
            | fail)
          go_ret
          exact ⟨by rw [hres.out]; rfl, hA0.trans ((hbr.mono hz1).trans ((Below.refl _ _).alloc (by omega) _))⟩
        · have i2y := (Bool.and_eq_true _ _).mp i2
          have i21 := inB_yes i2y.1
          have i22 := inB_yes i2y.2
          clear i2y
          cases i3 : inB g.1[k].2.2.2.1 0 3
          · have i3n := inB_no i3
            have hres := hide (ok_not hlx (g := g) (by
              rintro ⟨⟨t1, t2, t3, t4, t5⟩, t6⟩
              unfold rng at t1 t2 t3 t4 t5
              rw [hlch.out] at t6
              omega))
            go_wp2_with (first
              | (go_at_call 54; refine (in_c _ _ _ _).mono ?_; rintro e _ ⟨rfl, rfl⟩; (try simp only [i1, i2, i3]))
              | (go_at_call 55; refine (onBoard_c _ _ _).mono ?_; rintro e _ ⟨rfl, rfl⟩; (try simp only [i1, i2, i3]))
              | fail)
            go_ret
            exact ⟨by rw [hres.out]; rfl, hA0.trans ((hbr.mono hz1).trans ((Below.refl _ _).alloc (by omega) _))⟩
          · have i3y := inB_yes i3
            cases i4 : inB g.1[k].2.2.2.2 0 20
            · have i4n := inB_no i4
              have hres := hide (ok_not hlx (g := g) (by
                rintro ⟨⟨t1, t2, t3, t4, t5⟩, t6⟩
                unfold rng at t1 t2 t3 t4 t5
                rw [hlch.out] at t6
                omega))
              go_wp2_with (first
                | (go_at_call 54; refine (in_c _ _ _ _).mono ?_; rintro e _ ⟨rfl, rfl⟩; (try simp only [i1, i2, i3, i4]))
                | (go_at_call 55; refine (onBoard_c _ _ _).mono ?_; rintro e _ ⟨rfl, rfl⟩; (try simp only [i1, i2, i3, i4]))
                | fail)
              go_ret
              exact ⟨by rw [hres.out]; rfl, hA0.trans ((hbr.mono hz1).trans ((Below.refl _ _).alloc (by omega) _))⟩
            · have i4y := inB_yes i4
              have hpre' := hide (hpre.out.succ hlx ⟨by unfold rng; omega, i21, i22, i3y, i4y⟩ (by rw [hlch.out]; omega))
              have hlast' := hide (lastC_succ (es := g.1) hlx)
              go_wp2_with (first
                | (go_at_call 54; refine (in_c _ _ _ _).mono ?_; rintro e _ ⟨rfl, rfl⟩; (try simp only [i1, i2, i3, i4]))
                | (go_at_call 55; refine (onBoard_c _ _ _).mono ?_; rintro e _ ⟨rfl, rfl⟩; (try simp only [i1, i2, i3, i4]))
                | fail)
              go_roundw
              case rel => exact ⟨k + 1, _, _, by omega, by go_num, rfl, rfl, hlast', hw64, hpre', hbr.trans ((Below.refl _ _).alloc (by omega) _)⟩
              case measure => simp [intOf]; omega
    · obtain rfl : k = n := by omega
      have hpreN := hide (show preE g.1 g.1.length from by rw [← hn'.out]; exact hpre.out)
      have hgsN : Hid (goldS g.1 = gs) := hide (by rw [← hgsh.out, List.take_of_length_le (by have := hn'.out; omega)])
      go_wp2
      generalize wr = v1 at *
      go_loopw [52, 4] (fun i s ws => ∃ (j : Nat) (fs : Int), j ≤ p ∧ i = .int .i64 (j : Int) ∧ s = .int .i64 (gs + fs) ∧ Hid ((g.2.1.take j).sum = fs) ∧ Hid (preF g.2.1 j) ∧ Below v1.heap.size v1 ws) (fun i _ _ => p - (intOf i).toNat)
      case atStart => exact ⟨0, 0, Nat.zero_le _, rfl, by simp, hide rfl, hide (fun j _ h => absurd h (by omega)), Below.refl _ _⟩
      case round =>
        obtain ⟨j, fs, hj, rfl, rfl, hfsh, hpf, hbs⟩ := hrel
        have hzs := hbs.size
        have hgs2 := hgr.below hbs (fun b hb => by have := hD b hb; omega)
        have hxs := hxr.below hbs hlxr
        clear xx0 xx1 xx2
        obtain ⟨xx0, xx1, xx2, -, -, -⟩ := hxs.cells
        have hlxs := hxs.lt
        have hfsb : 0 ≤ fs ∧ fs ≤ 20 * (j : Int) := by have := hpf.out.sum (by have := hp'.out; omega); rw [hfsh.out] at this; exact this
        have hBs := hA0.trans ((hbr.mono hz1).trans (hbs.mono (by omega)))
        by_cases hlt2 : j < p
        · have hjx : j < g.2.1.length := by have := hp'.out; omega
          obtain ⟨bB, offB, rfl, hDb⟩ := hgs2.fl.addr hjx
          have a0 := hgs2.fl.i64 hjx
          have hbw := hD bB hDb
          have hbr' : bB < wr.heap.size := by omega
          have hnext : Hid ((g.2.1.take (j + 1)).sum = fs + g.2.1[j]) := hide (by rw [sum_take hjx, hfsh.out])
          clear hgs2
          cases i1 : inB g.2.1[j] 0 20
          · have hres := hide (ok_flo hjx (g := g) (fun h => inB_no i1 h))
            go_wp2_with (first
              | (go_at_call 54; refine (in_c _ _ _ _).mono ?_; rintro e _ ⟨rfl, rfl⟩; (try simp only [i1]))
              | fail)
            go_ret
            exact ⟨by rw [hres.out]; rfl, hBs⟩
          · have i1y := inB_yes i1
            have hpf' := hide (hpf.out.succ hjx i1y)
            go_wp2_with (first
              | (go_at_call 54; refine (in_c _ _ _ _).mono ?_; rintro e _ ⟨rfl, rfl⟩; (try simp only [i1]))
              | fail)
            go_roundw
            case rel => exact ⟨j + 1, _, by omega, by go_num, by congr 1; omega, hnext, hpf', hbs⟩
            case measure => simp [intOf]; omega
        · obtain rfl : j = p := by omega
          have hpfN := hide (show preF g.2.1 g.2.1.length from by rw [← hp'.out]; exact hpf.out)
          have hfsN : Hid (g.2.1.sum = fs) := hide (by rw [← hfsh.out, List.take_of_length_le (by have := hp'.out; omega)])
          have hlaN := hide (hgs2.la.rdn encI_len hD)
          clear hgs2
          by_cases h16 : j = 16
          · by_cases h4 : q = 4
            · subst h4
              subst h16
              cases h20 : (gs + fs == 20)
              · have hres := hide (show okB g = false from okB_false fun hg => by
                  have := hg.sum
                  rw [hgsN.out, hfsN.out] at this
                  rw [this] at h20
                  cases h20)
                go_wp2
                go_ret
                exact ⟨by rw [hres.out]; rfl, hBs⟩
              · have h20' : Hid (gs + fs = 20) := hide (by simpa using h20)
                go_wp2_with fail
                refine (contains_badNum E 4 f 0 w.heap.size g.2.2 (fun x => !inB x 0 30) wr hlaN.out (by omega) (fun j hj W hB => badNum1_c _ W)).mono ?_
                rintro e w9 ⟨rfl, hb9⟩
                have hB9 := hBs.trans (hb9.mono (by omega))
                cases hno : g.2.2.any (fun x => !inB x 0 30)
                · have hres := hide (show okB g = true from okB_true (ok_all hpreN.out hpfN.out (fun x hx => by
                    have := List.any_eq_false.1 hno x hx
                    simp [inB] at this
                    exact this) hp'.out.symm hq'.out.symm (by rw [hgsN.out, hfsN.out]; exact h20'.out)))
                  go_wp2
                  go_ret
                  exact ⟨by rw [hres.out]; rfl, hB9⟩
                · have hres := hide (show okB g = false from okB_false fun hg => by
                    obtain ⟨x, hx, h⟩ := List.any_eq_true.1 hno
                    have := hg.las x hx
                    unfold rng at this
                    simp [inB] at h
                    omega)
                  go_wp2
                  go_ret
                  exact ⟨by rw [hres.out]; rfl, hB9⟩
            · have hres := hide (show okB g = false from okB_false fun hg => h4 (by rw [hq'.out]; exact hg.n4))
              have e1 : ((q : Int) == 4) = false := by simp; omega
              have e2 : decide ((q : Int) = 4) = false := decide_eq_false (by omega)
              have e3 : ¬ ((q : Int) = 4) := by omega
              subst h16
              go_wp2
              go_ret
              exact ⟨by rw [hres.out]; rfl, hBs⟩
          · have hres := hide (show okB g = false from okB_false fun hg => h16 (by rw [hp'.out]; exact hg.n16))
            have e1 : ((j : Int) == 16) = false := by simp; omega
            have e2 : decide ((j : Int) = 16) = false := decide_eq_false (by omega)
            have e3 : ¬ ((j : Int) = 16) := by omega
            go_wp2
            go_ret
            exact ⟨by rw [hres.out]; rfl, hBs⟩
end Go.Proofs.YtajmfonepnkofaaDoor
