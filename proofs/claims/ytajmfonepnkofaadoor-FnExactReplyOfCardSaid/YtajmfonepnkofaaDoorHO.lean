/-
  Games in the program: 'GameOk' of one that is ok, 'figure', 'near', 'floor'. (Printed by gen_ho.py.)
  Conditions: none.
-/
import Derived.Test.YtajmfonepnkofaaDoorHN
namespace Go.Proofs.YtajmfonepnkofaaDoor
open Go.RowKit Rg
set_option linter.unusedVariables false
set_option linter.unusedSimpArgs false

theorem RdN.intD {w : World} {lo hi b off n c k : Nat} {ts : List Int} (h : RdN 1 (flatR encI) w lo hi (some ⟨b, off, none⟩) n c ts) (hk : k < ts.length) : ∃ v : Value, v = .int .i64 ts[k] ∧ w.cell? ⟨b, off + k, none⟩ = some (.int .i64 ts[k]) := ⟨_, rfl, h.int_ hk⟩

theorem index_badNum (A : Option Addr) (n c lo hi : Nat) (ts : List Int) (p : Int → Bool) (w : World) (hs : RdN 1 (flatR encI) w lo hi A n c ts) (hhi : hi ≤ w.heap.size) (hp : ∀ (k : Nat) (hk : k < ts.length) (W : World), Below w.heap.size w W → Calls Tryd.prog 57 #[.int .i64 ts[k]] W fun e W' => e = .returned (.bool (p ts[k])) ∧ Below W.heap.size W W') :
    Calls Tryd.prog 81 #[.slice A n c, .func (.func 57) #[] #[]] w fun e w' => ∃ i : Int, e = .returned (.int .i64 i) ∧ (i = -1 ∧ ts.any p = false ∨ 0 ≤ i ∧ ts.any p = true) ∧ Below w.heap.size w w' := by
  have hn' := hide hs.len
  have hc1 := hs.cap
  have hc2 := hs.max
  unfold maxLen at hc2
  have hp' := hide hp
  clear hp
  go_enter Tryd.func81, Tryd.ntmps81
  go_wp2
  go_loopw [8, 5] (fun i _ wr => ∃ k : Nat, k ≤ n ∧ i = .int .i64 k ∧ Hid (∀ j (h : j < ts.length), j < k → ¬ p ts[j] = true) ∧ Below w.heap.size w wr) (fun i _ _ => n - (intOf i).toNat)
  case atStart => exact ⟨0, Nat.zero_le _, rfl, fun j h h' => absurd h' (by omega), Below.refl _ _⟩
  case round =>
    obtain ⟨k, hk, rfl, hno, hbr⟩ := hrel
    by_cases hlt : k < n
    · have hlx : k < ts.length := by have := hn'.out; omega
      obtain ⟨b', off, rfl, hlo, hbh⟩ := hs.addr hlx
      obtain ⟨-, -, a0⟩ := (hs.below (flat_kept _) hbr hhi).intD hlx
      go_wp2_with fail
      refine (hp'.out k hlx wr hbr).mono ?_
      rintro e w1 ⟨rfl, hb1⟩
      cases he : p ts[k]
      · have he' := hide he
        go_wp2
        go_roundw
        case rel => exact ⟨k + 1, by omega, by go_num, fun j hj hjk h => by
          by_cases h2 : j < k
          · exact hno.out j hj h2 h
          · obtain rfl : j = k := by omega
            have := he'.out
            simp [h] at this, hbr.trans (hb1.mono hbr.size)⟩
        case measure => simp [intOf]; omega
      · have he' : Hid (ts.any p = true) := hide (List.any_eq_true.2 ⟨ts[k], List.getElem_mem hlx, he⟩)
        go_wp2
        go_ret
        exact ⟨k, rfl, .inr ⟨by omega, he'.out⟩, hbr.trans (hb1.mono hbr.size)⟩
    · obtain rfl : k = n := by omega
      go_wp2
      go_ret
      refine ⟨-1, rfl, .inl ⟨rfl, ?_⟩, hbr⟩
      simp only [List.any_eq_false]
      intro x hx
      obtain ⟨j, hj, rfl⟩ := List.mem_iff_getElem.1 hx
      exact hno.out j hj (by have := hn'.out; omega)
theorem contains_badNum (A : Option Addr) (n c lo hi : Nat) (ts : List Int) (p : Int → Bool) (w : World) (hs : RdN 1 (flatR encI) w lo hi A n c ts) (hhi : hi ≤ w.heap.size) (hp : ∀ (k : Nat) (hk : k < ts.length) (W : World), Below w.heap.size w W → Calls Tryd.prog 57 #[.int .i64 ts[k]] W fun e W' => e = .returned (.bool (p ts[k])) ∧ Below W.heap.size W W') :
    Calls Tryd.prog 56 #[.slice A n c, .func (.func 57) #[] #[]] w fun e w' => e = .returned (.bool (ts.any p)) ∧ Below w.heap.size w w' := by
  have hp' := hide hp
  clear hp
  go_enter Tryd.func56, Tryd.ntmps56
  go_wp2_with fail
  refine (index_badNum A n c lo hi ts p w hs hhi hp'.out).mono ?_
  rintro e w1 ⟨i, rfl, hi, hb1⟩
  rcases hi with ⟨rfl, h⟩ | ⟨h1, h⟩
  · have h' := hide h
    go_wp2
    go_ret
    exact ⟨by rw [h'.out]; rfl, hb1⟩
  · have h' := hide h
    have d1 : decide (0 ≤ i) = true := by simpa using h1
    go_wp2
    go_ret
    exact ⟨by rw [h'.out]; simp [h1], hb1⟩

theorem figure1_c (t : EntT) (bc : Nat) (cl : Int) (w : World) (hb : w.cell? ⟨bc, 0, none⟩ = some (.int .i64 cl)) (hlt : bc < w.heap.size) :
    Calls Tryd.prog 90 #[.agg #[.int .i64 t.1, .int .i64 t.2.1, .int .i64 t.2.2.1, .int .i64 t.2.2.2.1, .int .i64 t.2.2.2.2], .pointer (some ⟨bc, 0, none⟩)] w fun e w' => e = .returned (.bool (decide (t.1 = cl))) ∧ Below w.heap.size w w' := by
  go_enter Tryd.func90, Tryd.ntmps90
  go_wp2
  go_ret
  exact ⟨by rfl, (Below.refl _ _).alloc (Nat.le_refl _) _⟩
theorem figIx_c (A : Option Addr) (n c lo hi : Nat) (ts : List EntT) (bc : Nat) (cl : Int) (w : World) (hs : RdN 5 (flatR encEnt) w lo hi A n c ts) (hhi : hi ≤ w.heap.size) (hb : w.cell? ⟨bc, 0, none⟩ = some (.int .i64 cl)) (hlt : bc < w.heap.size) :
    Calls Tryd.prog 89 #[.slice A n c, .func (.func 90) #[] #[.pointer (some ⟨bc, 0, none⟩)]] w fun e w' => e = .returned (.int .i64 (optI (figI ts cl))) ∧ Below w.heap.size w w' := by
  have hn' := hide hs.len
  have hc1 := hs.cap
  have hc2 := hs.max
  unfold maxLen at hc2
  go_enter Tryd.func89, Tryd.ntmps89
  go_wp2
  go_loopw [8, 5] (fun i _ wr => ∃ k : Nat, k ≤ n ∧ i = .int .i64 k ∧ Hid (∀ (j : Nat) (h : j < ts.length), j < k → ts[j].1 ≠ cl) ∧ Below w.heap.size w wr) (fun i _ _ => n - (intOf i).toNat)
  case atStart => exact ⟨0, Nat.zero_le _, rfl, hide (fun j h h' => absurd h' (by omega)), Below.refl _ _⟩
  case round =>
    obtain ⟨k, hk, rfl, hno, hbr⟩ := hrel
    by_cases hlt2 : k < n
    · have hlx : k < ts.length := by have := hn'.out; omega
      obtain ⟨b', off, rfl, hlo, hbh⟩ := hs.addr hlx
      obtain ⟨a0, a1, a2, a3, a4⟩ := (hs.below (flat_kept _) hbr hhi).ent hlx
      have hbr1 := hbr.size
      go_wp2_with fail
      refine (figure1_c ts[k] bc cl wr (keepc hbr hb) (by omega)).mono ?_
      rintro e w1 ⟨rfl, hb1⟩
      cases he : decide (ts[k].1 = cl)
      · have he' := hide (show ts[k].1 ≠ cl by simpa using he)
        go_wp2
        go_roundw
        case rel => exact ⟨k + 1, by omega, by go_num, hide (fun j hj hjk => by
          by_cases h2 : j < k
          · exact hno.out j hj h2
          · obtain rfl : j = k := by omega
            exact he'.out), hbr.trans (hb1.mono hbr.size)⟩
        case measure => simp [intOf]; omega
      · have hy := hide (atI_some hlx (by simpa using he) hno.out)
        go_wp2
        go_ret
        refine ⟨?_, hbr.trans (hb1.mono hbr.size)⟩
        rw [← atI_opt, hy.out]; rfl
    · obtain rfl : k = n := by omega
      have hy := hide (atI_none (es := ts) (c := cl) (fun i hi => hno.out i hi (by have := hn'.out; omega)))
      go_wp2
      go_ret
      refine ⟨?_, hbr⟩
      rw [← atI_opt, hy.out]; rfl
theorem figure_c (A : Option Addr) (n c : Nat) (B : Option Addr) (p d : Nat) (E : Option Addr) (q f : Nat) (D : Nat → Prop) (g : GameT) (cl : Int) (lo hi : Nat) (es : List EntT) (w : World) (hs : RdN 5 (flatR encEnt) w lo hi A n c es) (hhi : hi ≤ w.heap.size) :
    Calls Tryd.prog 70 #[.agg #[.slice A n c, .slice B p d, .slice E q f], .int .i64 cl] w fun e w' => e = .returned (.int .i64 (optI (figI es cl))) ∧ Below w.heap.size w w' := by
  have hA := ((Below.refl w.heap.size w).alloc (Nat.le_refl _) (.cells #[.slice A n c, .slice B p d, .slice E q f] 35)).alloc (by simp) (.cells #[.int .i64 cl] 3)
  have hb : ((w.alloc (.cells #[.slice A n c, .slice B p d, .slice E q f] 35)).alloc (.cells #[.int .i64 cl] 3)).cell? ⟨w.heap.size + 1, 0, none⟩ = some (.int .i64 cl) := by
    have := World.cell?_alloc_new (w.alloc (.cells #[.slice A n c, .slice B p d, .slice E q f] 35)) #[.int .i64 cl] 3 0
    simp only [World.size_alloc] at this
    exact this
  have hz : w.heap.size + 1 < ((w.alloc (.cells #[.slice A n c, .slice B p d, .slice E q f] 35)).alloc (.cells #[.int .i64 cl] 3)).heap.size := by simp
  have hs2 := hs.below (flat_kept _) hA hhi
  have hh2 : hi ≤ ((w.alloc (.cells #[.slice A n c, .slice B p d, .slice E q f] 35)).alloc (.cells #[.int .i64 cl] 3)).heap.size := Nat.le_trans hhi hA.size
  go_enter Tryd.func70, Tryd.ntmps70
  go_wp2_with fail
  refine (figIx_c A n c lo hi es (w.heap.size + 1) cl _ hs2 hh2 hb hz).mono ?_
  rintro e w1 ⟨rfl, hb1⟩
  go_wp2
  go_ret
  exact ⟨rfl, hA.trans (hb1.mono hA.size)⟩
theorem nearI_c (a b : EntT) (w : World) (ha : smallE a) (hb : smallE b) :
    Calls Tryd.prog 73 #[.agg #[.int .i64 a.1, .int .i64 a.2.1, .int .i64 a.2.2.1, .int .i64 a.2.2.2.1, .int .i64 a.2.2.2.2], .agg #[.int .i64 b.1, .int .i64 b.2.1, .int .i64 b.2.2.1, .int .i64 b.2.2.2.1, .int .i64 b.2.2.2.2], .int .i64 1] w fun e w' => e = .returned (.bool (decide (nearE a b))) ∧ Below w.heap.size w w' := by
  rw [nearE_eq]
  obtain ⟨⟨h1, h2⟩, h3, h4⟩ := ha
  obtain ⟨⟨h5, h6⟩, h7, h8⟩ := hb
  have hB := ((Below.refl w.heap.size w).alloc (Nat.le_refl _) (.cells #[.int .i64 a.1, .int .i64 a.2.1, .int .i64 a.2.2.1, .int .i64 a.2.2.2.1, .int .i64 a.2.2.2.2] 82)).alloc (by simp) (.cells #[.int .i64 b.1, .int .i64 b.2.1, .int .i64 b.2.2.1, .int .i64 b.2.2.2.1, .int .i64 b.2.2.2.2] 82)
  cases e1 : inB (a.2.1 - b.2.1) (-1) 1
  · go_enter Tryd.func73, Tryd.ntmps73
    go_wp2_with (go_at_call 54; refine (in_c _ _ _ _).mono ?_; rintro e _ ⟨rfl, rfl⟩)
    go_ret
    exact ⟨rfl, hB⟩
  · go_enter Tryd.func73, Tryd.ntmps73
    go_wp2_with (go_at_call 54; refine (in_c _ _ _ _).mono ?_; rintro e _ ⟨rfl, rfl⟩)
    go_ret
    exact ⟨rfl, hB⟩
theorem onBoard_c (x y : Int) (w : World) : Calls Tryd.prog 55 #[.int .i64 x, .int .i64 y] w fun e w' => e = .returned (.bool (inB x 0 3 && inB y 0 3)) ∧ w = w' := by
  cases e1 : inB x 0 3
  · go_enter Tryd.func55, Tryd.ntmps55
    go_wp2_with (go_at_call 54; refine (in_c _ _ _ _).mono ?_; rintro e _ ⟨rfl, rfl⟩)
    go_ret
    exact ⟨rfl, rfl⟩
  · go_enter Tryd.func55, Tryd.ntmps55
    go_wp2_with (go_at_call 54; refine (in_c _ _ _ _).mono ?_; rintro e _ ⟨rfl, rfl⟩)
    go_ret
    exact ⟨rfl, rfl⟩
theorem floor_c (A : Option Addr) (n c : Nat) (g1 off d : Nat) (E : Option Addr) (q f : Nat) (t : EntT) (w : World) (ht : smallE t) :
    Calls Tryd.prog 72 #[.agg #[.slice A n c, .slice (some ⟨g1, off, none⟩) 16 d, .slice E q f], .agg #[.int .i64 t.1, .int .i64 t.2.1, .int .i64 t.2.2.1, .int .i64 t.2.2.2.1, .int .i64 t.2.2.2.2]] w fun e w' => e = .returned (.pointer (some ⟨g1, off + sqr t, none⟩)) ∧ Below w.heap.size w w' := by
  obtain ⟨⟨h1, h2⟩, h3, h4⟩ := ht
  have hsq : t.2.2.1 * 4 + t.2.1 = (sqr t : Int) := by unfold sqr; omega
  have hs16 : sqr t < 16 := by unfold sqr; omega
  generalize sqr t = sq at *
  have hB := ((Below.refl w.heap.size w).alloc (Nat.le_refl _) (.cells #[.slice A n c, .slice (some ⟨g1, off, none⟩) 16 d, .slice E q f] 35)).alloc (by simp) (.cells #[.int .i64 t.1, .int .i64 t.2.1, .int .i64 t.2.2.1, .int .i64 t.2.2.2.1, .int .i64 t.2.2.2.2] 82)
  go_enter Tryd.func72, Tryd.ntmps72
  go_wp2
  go_ret
  exact ⟨rfl, hB⟩
end Go.Proofs.YtajmfonepnkofaaDoor
