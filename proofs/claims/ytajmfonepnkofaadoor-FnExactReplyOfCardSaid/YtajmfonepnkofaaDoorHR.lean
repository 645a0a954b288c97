/-
  Games of the call's own; 'copyOf'; 'GameOk' of a game that is ok. (Printed by gen_hr.py.)
  Conditions: none.
-/
import Derived.Test.YtajmfonepnkofaaDoorHP
namespace Go.Proofs.YtajmfonepnkofaaDoor
open Go.RowKit Rg
set_option linter.unusedVariables false
set_option linter.unusedSimpArgs false

/-- A game of the call's own: three rows, apart. -/
structure GmO (w : World) (lo : Nat) (A : Option Addr) (n c : Nat) (B : Option Addr) (p d : Nat) (E : Option Addr) (q f : Nat) (g : GameT) : Prop where
  en : Own encEnt 5 82 w lo (.slice A n c) g.1
  fl : Own encI 1 3 w lo (.slice B p d) g.2.1
  la : Own encI 1 3 w lo (.slice E q f) g.2.2
  ab : ∀ k, (Value.slice A n c).ownBlock = some k → (Value.slice B p d).ownBlock ≠ some k
  ae : ∀ k, (Value.slice A n c).ownBlock = some k → (Value.slice E q f).ownBlock ≠ some k
  be : ∀ k, (Value.slice B p d).ownBlock = some k → (Value.slice E q f).ownBlock ≠ some k
section
variable {w w' : World} {lo : Nat} {A : Option Addr} {n c : Nat} {B : Option Addr} {p d : Nat} {E : Option Addr} {q f : Nat} {g : GameT}
theorem GmO.keep (h : GmO w lo A n c B p d E q f g) (hk : ∀ b, lo ≤ b → b < w.heap.size → w'.heap[b]? = w.heap[b]?) : GmO w' lo A n c B p d E q f g :=
  ⟨h.en.keep (fun b hb => hk b (h.en.lt b hb).1 (h.en.lt b hb).2), h.fl.keep (fun b hb => hk b (h.fl.lt b hb).1 (h.fl.lt b hb).2), h.la.keep (fun b hb => hk b (h.la.lt b hb).1 (h.la.lt b hb).2), h.ab, h.ae, h.be⟩
theorem GmO.below (h : GmO w lo A n c B p d E q f g) (hb : Below w.heap.size w w') : GmO w' lo A n c B p d E q f g := h.keep fun b _ h2 => hb.block b h2
theorem GmO.mono {lo' : Nat} (h : GmO w lo A n c B p d E q f g) (hl : lo' ≤ lo) : GmO w lo' A n c B p d E q f g := ⟨h.en.mono hl, h.fl.mono hl, h.la.mono hl, h.ab, h.ae, h.be⟩
theorem Own.adE {α : Type} {enc : α → List Value} {sz : Nat} {e : TypeId} {xs : List α} (h : Own enc sz e w lo (.slice A n c) xs) : A = none ∧ n = 0 ∧ c = 0 ∨ ∃ b off, A = some ⟨b, off, none⟩ := by
  rcases h with ⟨h1, _⟩ | ⟨g, cap, cur, h1, _⟩
  · injection h1 with e1 e2 e3
    exact .inl ⟨e1, e2, e3⟩
  · injection h1 with e1 e2 e3
    exact .inr ⟨g, 0, e1⟩
theorem GmO.gmD (h : GmO w lo A n c B p d E q f g) : GmD w (fun b => lo ≤ b ∧ b < w.heap.size) A n c B p d E q f g :=
  ⟨h.en.rdD encEnt_len (fun b h h' => ⟨h, h'⟩), h.fl.rdD encI_len (fun b h h' => ⟨h, h'⟩), h.la.rdD encI_len (fun b h h' => ⟨h, h'⟩), h.en.adE⟩
end
set_option maxRecDepth 100000 in
set_option maxHeartbeats 1000000 in
theorem copyOf_c (A : Option Addr) (n c : Nat) (B : Option Addr) (p d : Nat) (E : Option Addr) (q f : Nat) (D : Nat → Prop) (g : GameT) (w : World) (hg : GmD w D A n c B p d E q f g) (hD : ∀ b, D b → b < w.heap.size) (hl : g.1.length ≤ 1000 ∧ g.2.1.length ≤ 1000 ∧ g.2.2.length ≤ 1000) :
    Calls Tryd.prog 43 #[.agg #[.slice A n c, .slice B p d, .slice E q f]] w fun e w' => ∃ A' B' E' : Option Addr, e = .returned (.agg #[.slice A' n n, .slice B' p p, .slice E' q q]) ∧ GmO w' (w.heap.size + 1 + 1) A' n n B' p p E' q q g ∧ Below w.heap.size w w' := by
  have hs2 := Gs.made w (.slice A n c) (.slice B p d) (.slice E q f)
  have hg2 := hide (hg.below hs2.bel hD)
  obtain ⟨xx0, xx1, xx2, xf0, xf1, xf2⟩ := hs2.bx.cells
  obtain ⟨yy0, yy1, yy2, yg0, yg1, yg2⟩ := hs2.ry.cells
  have hz2 := hs2.sz
  have hn0 := hide hg.en.len
  have hn1 := hide hg.fl.len
  have hn2 := hide hg.la.len
  have hn0B := hide hl.1
  have hn1B := hide hl.2.1
  have hn2B := hide hl.2.2
  clear hl hg
  go_enter Tryd.func43, Tryd.ntmps43
  go_wp2
  generalize ((w.alloc (.cells #[.slice A n c, .slice B p d, .slice E q f] 35)).alloc (.cells #[.slice none 0 0, .slice none 0 0, .slice none 0 0] 35)) = w2 at *
  have hlx2 := hs2.bx.lt
  have hly2 := hs2.ry.lt
  refine wp_region_T (SinceB (w.heap.size + 1) _) [35] [] [7, 10] [0, 1, 3, 4, 6, 7, 2, 5, 8, 9, 10] (by kernel_rfl) (by kernel_rfl) (by kernel_rfl) (SinceB.drew _ _) ?_; simp only [pickL, List.getElem?_cons_succ, List.getElem?_cons_zero]
  go_wp2_with (first
    | (go_at_call 69; have hq := hoB; refine (cloneI_c E q f 0 w.heap.size g.2.2 _ hn2.out (by have h1 := hn2.out; have h2 := hn2B.out; omega) ((hg2.out.la.sl hD).below (B := w2.heap.size) (Below.appR (Below.appR (Below.drew (Below.refl _ _)) hbA) hbB) (by omega)) (by have h1 := hbA.size; have h2 := hbB.size; simp only [World.size_drew] at h1; omega)).mono ?_; rintro e wC ⟨E', rfl, hoC, hbC⟩; have hB2C : Below w2.heap.size w2 wC := Below.appR (Below.appR (Below.appR (Below.drew (Below.refl _ _)) hbA) hbB) hbC; have hSBC : SinceB (w.heap.size + 1) w2 wC := (SinceB.refl _ _).below hB2C (by omega); have hsC := hs2.below hB2C hz2; clear yy0 yy1 yy2 yg0 yg1 yg2; obtain ⟨yy0, yy1, yy2, yg0, yg1, yg2⟩ := hsC.ry.cells; have hlyC := hsC.ry.lt; have hK := hK)
    | (go_at_call 69; refine (cloneI_c B p d 0 w.heap.size g.2.1 _ hn1.out (by have h1 := hn1.out; have h2 := hn1B.out; omega) ((hg2.out.fl.sl hD).below (B := w2.heap.size) (Below.appR (Below.drew (Below.refl _ _)) hbA) (by omega)) (by have h1 := hbA.size; simp only [World.size_drew] at h1; omega)).mono ?_; rintro e wB ⟨B', rfl, hoB, hbB⟩; have hSBB : SinceB (w.heap.size + 1) w2 wB := (SinceB.refl _ _).below (Below.appR (Below.appR (Below.drew (Below.refl _ _)) hbA) hbB) (by omega); have hK := hK)
    | (go_at_call 68; refine (cloneEnt_c A n c 0 w.heap.size g.1 _ hn0.out (by have h1 := hn0.out; have h2 := hn0B.out; omega) ((hg2.out.en.sl hD).below (B := w2.heap.size) (Below.drew (Below.refl _ _)) (by omega)) (by simp only [World.size_drew]; omega)).mono ?_; rintro e wA ⟨A', rfl, hoA, hbA⟩; have hSBA : SinceB (w.heap.size + 1) w2 wA := (SinceB.refl _ _).below (Below.appR (Below.drew (Below.refl _ _)) hbA) (by omega); have hK := hK)
    | (with_reducible refine SinceB.and_ ?_ ?_; (focus (repeat (first | (with_reducible exact SinceB.refl _ _) | (with_reducible assumption) | (with_reducible refine SinceB.drewR ?_) | ((with_reducible refine SinceB.alloc ?_ ?_ _); rotate_left; (focus (first | (with_reducible assumption) | (simp; done) | (simp; omega) | omega))) | ((with_reducible refine SinceB.set ?_ ?_ _); rotate_left; (focus (first | omega | (simp; done) | (simp; omega))))))); intro hS) | ((with_reducible refine wpT_noL ?_ ?_); (focus (first | exact wanted_no _ _ _ rfl rfl rfl | exact wanted_un _ _ _ rfl rfl rfl)); simp only [setO, List.set_cons_succ, List.set_cons_zero]) | ((with_reducible refine wpT_q0 ?_ ?_ ?_ ?_); (focus rfl); (focus rfl); (focus rfl); intro K hK) | ((with_reducible refine wpT_i ?_ ?_); (focus (refine ⟨_, _, _, _, _, _, _, _, rfl, rfl, rfl, rfl, rfl, ?_⟩; omega)); intro K hK) | ((with_reducible apply wpT_lB); (focus rfl); (focus rfl); (focus rfl); (focus rfl); (focus (first | exact SinceB.drew _ _ | (with_reducible assumption))); (focus (simp <;> omega)); (focus go_simp); intro K hK) | ((with_reducible apply wpT_lwB); (focus exact wanted_yes _ _ _ rfl rfl rfl); (focus rfl); (focus rfl); (focus rfl); (focus (first | exact SinceB.drew _ _ | (with_reducible assumption))); (focus (simp <;> omega)); (focus go_simp); intro K hK) | ((with_reducible refine wpT_xs0 ?_ ?_ ?_); (focus rfl); (focus rfl); intro K hK) | ((with_reducible refine wpT_q1 ?_ ?_ ?_ ?_); (focus exact wanted_yes _ _ _ rfl rfl rfl); (focus rfl); (focus rfl); intro K hK) | ((with_reducible refine wpT_xs1 ?_ ?_ ?_); (focus exact wanted_yes _ _ _ rfl rfl rfl); (focus rfl); intro K hK) | ((with_reducible refine wpT_nil ?_); try dsimp only)
    | fail)
  have hzA := hbA.size
  have hzB := hbB.size
  have hzC := hbC.size
  simp only [World.size_drew] at hzA
  have hO : GmO wC (w.heap.size + 1 + 1) A' n n B' p p E' q q g := ⟨((hoA.below hbB (Nat.le_refl _)).below hbC (by omega)).mono (by simp only [World.size_drew]; omega), (hoB.below hbC (Nat.le_refl _)).mono (by omega), hoC.mono (by omega),
    fun k h1 h2 => by have := (hoA.lt k h1).2; have := (hoB.lt k h2).1; omega, fun k h1 h2 => by have := (hoA.lt k h1).2; have := (hoC.lt k h2).1; omega, fun k h1 h2 => by have := (hoB.lt k h1).2; have := (hoC.lt k h2).1; omega⟩
  refine bodyPost_ret (v := .agg #[.slice A' n n, .slice B' p p, .slice E' q q]) (by simp [results, Tryd.results43, go_sem, yy0, yy1, yy2, yg0, yg1, yg2]) rfl ⟨A', B', E', rfl, ?_, ?_⟩
  · refine hO.keep (fun b hb hb2 => ?_)
    have hon : Onl w.heap.size (w.heap.size + 1) wC ((((wC.setCell ⟨w.heap.size + 1, 0, none⟩ (.slice A' n n)).setCell ⟨w.heap.size + 1, 1, none⟩ (.slice B' p p)).setCell ⟨w.heap.size + 1, 2, none⟩ (.slice E' q q))) := by (repeat (first | (with_reducible exact Onl.refl _ _ _) | (with_reducible exact Onl.drewL _ _ _) | (with_reducible refine Onl.set ?_ (by simp) _) | with_reducible refine Onl.drew ?_))
    exact hon.blk b (by omega) (by omega)
  · have hon : Onl w.heap.size (w.heap.size + 1) wC ((((wC.setCell ⟨w.heap.size + 1, 0, none⟩ (.slice A' n n)).setCell ⟨w.heap.size + 1, 1, none⟩ (.slice B' p p)).setCell ⟨w.heap.size + 1, 2, none⟩ (.slice E' q q))) := by (repeat (first | (with_reducible exact Onl.refl _ _ _) | (with_reducible exact Onl.drewL _ _ _) | (with_reducible refine Onl.set ?_ (by simp) _) | with_reducible refine Onl.drew ?_))
    have h9 := hon.bel w.heap.size w (Nat.le_refl _) (Nat.le_succ _) hsC.bel
    exact ⟨h9.os, h9.tape, h9.output, h9.size, h9.block⟩
theorem goldS_take {es : List EntT} {k : Nat} (hk : k < es.length) : goldS (es.take (k + 1)) = goldS (es.take k) + es[k].2.2.2.2 := by
  unfold goldS
  rw [List.take_succ_eq_append_getElem hk, List.map_append, List.sum_append]
  simp
theorem sum_take {xs : List Int} {k : Nat} (hk : k < xs.length) : (xs.take (k + 1)).sum = (xs.take k).sum + xs[k] := by
  rw [List.take_succ_eq_append_getElem hk, List.sum_append]
  simp
theorem goldS_le {es : List EntT} (h : ∀ e ∈ es, 0 ≤ e.2.2.2.2) (k : Nat) : 0 ≤ goldS (es.take k) ∧ goldS (es.take k) ≤ goldS es := by
  have h1 : goldS es = goldS (es.take k) + goldS (es.drop k) := by unfold goldS; rw [← List.sum_append, ← List.map_append, List.take_append_drop]
  have h2 : ∀ l : List EntT, (∀ e ∈ l, 0 ≤ e.2.2.2.2) → 0 ≤ goldS l := fun l hl => by
    unfold goldS
    exact (le_sum _ (fun x hx => by obtain ⟨e, he, rfl⟩ := List.mem_map.1 hx; exact hl e he)).1
  have h3 := h2 (es.take k) (fun e he => h e (List.mem_of_mem_take he))
  have h4 := h2 (es.drop k) (fun e he => h e (List.mem_of_mem_drop he))
  omega
theorem sumI_le {xs : List Int} (h : ∀ x ∈ xs, 0 ≤ x) (k : Nat) : 0 ≤ (xs.take k).sum ∧ (xs.take k).sum ≤ xs.sum := by
  have h1 : xs.sum = (xs.take k).sum + (xs.drop k).sum := by rw [← List.sum_append, List.take_append_drop]
  have h3 := (le_sum (xs.take k) (fun e he => h e (List.mem_of_mem_take he))).1
  have h4 := (le_sum (xs.drop k) (fun e he => h e (List.mem_of_mem_drop he))).1
  omega
/-- The client of the figure before, or 0. -/
def lastC (es : List EntT) (k : Nat) : Int := if k = 0 then 0 else (es.getD (k - 1) ent0).1
theorem lastC_lt {es : List EntT} (h : (es.map (·.1)).Pairwise (· < ·)) (h2 : ∀ e ∈ es, rng e.1 1 4) {k : Nat} (hk : k < es.length) : 0 ≤ lastC es k ∧ lastC es k < es[k].1 ∧ es[k].1 ≤ 4 := by
  have h3 := h2 _ (List.getElem_mem hk)
  unfold rng at h3
  unfold lastC
  split
  · exact ⟨by omega, by omega, by omega⟩
  · have hk1 : k - 1 < es.length := by omega
    rw [getD_at hk1]
    have h4 := h2 _ (List.getElem_mem hk1)
    unfold rng at h4
    have h5 := List.pairwise_iff_getElem.1 h (k - 1) k (by simpa using hk1) (by simpa using hk) (by omega)
    simp only [List.getElem_map] at h5
    exact ⟨by omega, h5, by omega⟩

theorem badNum1_c (x : Int) (w : World) : Calls Tryd.prog 57 #[.int .i64 x] w fun e w' => e = .returned (.bool (!inB x 0 30)) ∧ Below w.heap.size w w' := by
  go_enter Tryd.func57, Tryd.ntmps57
  go_wp2_with (go_at_call 54; refine (in_c _ _ _ _).mono ?_; rintro e _ ⟨rfl, rfl⟩)
  go_ret
  exact ⟨rfl, Below.refl _ _⟩
set_option maxRecDepth 100000 in
set_option maxHeartbeats 1000000 in
theorem GameOk_c (A : Option Addr) (n c : Nat) (B : Option Addr) (p d : Nat) (E : Option Addr) (q f : Nat) (D : Nat → Prop) (g : GameT) (w : World) (hg : GmD w D A n c B p d E q f g) (hD : ∀ b, D b → b < w.heap.size) (hok : okG g) :
    Calls Tryd.prog 30 #[.agg #[.slice A n c, .slice B p d, .slice E q f]] w fun e w' => e = .returned (.bool true) ∧ Below w.heap.size w w' := by
  have hA0 := (Below.refl w.heap.size w).alloc (Nat.le_refl _) (.cells #[.slice A n c, .slice B p d, .slice E q f] 35)
  have hx0 := Bx3.made w (.slice A n c) (.slice B p d) (.slice E q f) 35
  have hx0h := hide hx0
  have hgh := hide hg
  have hokh := hide hok
  have hn' := hide hg.en.len
  have hp' : Hid (p = 16) := hide (by have h1 := hg.fl.len; have h2 := hok.n16; omega)
  have hq' : Hid (q = 4) := hide (by have h1 := hg.la.len; have h2 := hok.n4; omega)
  have hn4 : n ≤ 4 := by
    have h3 := inc_len hok.inc (fun e he => (hok.ent e he).1)
    have := hn'.out
    omega
  obtain rfl := hp'.out
  obtain rfl := hq'.out
  clear hx0 hp' hq' hg hok
  go_enter Tryd.func30, Tryd.ntmps30
  go_wp2
  generalize w.alloc (.cells #[.slice A n c, .slice B 16 d, .slice E 4 f] 35) = w1 at *
  go_loopw [12, 3, 4] (fun i l s wr => ∃ k : Nat, k ≤ n ∧ i = .int .i64 (k : Int) ∧ l = .int .i64 (lastC g.1 k) ∧ s = .int .i64 (goldS (g.1.take k)) ∧ Below w1.heap.size w1 wr) (fun i _ _ _ => n - (intOf i).toNat)
  case atStart => exact ⟨0, Nat.zero_le _, rfl, rfl, rfl, Below.refl _ _⟩
  case round =>
    obtain ⟨k, hk, rfl, rfl, rfl, hbr⟩ := hrel
    have hz1 := hA0.size
    have hzr := hbr.size
    have hgr := (hgh.out.below hA0 hD).below hbr (fun b hb => by have := hD b hb; omega)
    have hxr := hx0h.out.below hbr hx0h.out.lt
    obtain ⟨xx0, xx1, xx2, -, -, -⟩ := hxr.cells
    have hlxr := hxr.lt
    by_cases hlt : k < n
    · have hlx : k < g.1.length := by have := hn'.out; omega
      obtain ⟨b, off, rfl, hDb⟩ := hgr.en.addr hlx
      obtain ⟨a0, a1, a2, a3, a4⟩ := hgr.en.ent hlx
      have hbw := hD b hDb
      have hbr' : b < wr.heap.size := by omega
      obtain ⟨hl0, hl1, hl2⟩ := lastC_lt hokh.out.inc (fun e he => (hokh.out.ent e he).1) hlx
      have hent := hokh.out.ent _ (List.getElem_mem hlx)
      unfold entOk rng at hent
      have hgo := goldS_le (es := g.1) (fun e he => (hokh.out.ent e he).2.2.2.2.1) k
      have hgs : goldS g.1 ≤ 20 := by
        have h1 := hokh.out.sum
        have h2 := (le_sum g.2.1 (fun x hx => (hokh.out.flo x hx).1)).1
        omega
      have hnext := hide (goldS_take hlx)
      have hlastn := hide (show lastC g.1 (k + 1) = g.1[k].1 by unfold lastC; rw [if_neg (by omega), Nat.add_sub_cancel, getD_at hlx])
      have i1 : inB g.1[k].1 (lastC g.1 k + 1) 4 = true := by simp [inB]; omega
      have i2 : (inB g.1[k].2.1 0 3 && inB g.1[k].2.2.1 0 3) = true := by simp [inB]; omega
      have i3 : inB g.1[k].2.2.2.1 0 3 = true := by simp [inB]; omega
      have i4 : inB g.1[k].2.2.2.2 0 20 = true := by simp [inB]; omega
      clear hgr
      generalize lastC g.1 k = lc at *
      generalize goldS (g.1.take k) = gs at *
      go_wp2_with (first
        | (go_at_call 54; refine (in_c _ _ _ _).mono ?_; rintro e _ ⟨rfl, rfl⟩; simp only [i1, i3, i4])
        | (go_at_call 55; refine (onBoard_c _ _ _).mono ?_; rintro e _ ⟨rfl, rfl⟩; simp only [i2])
        | fail)
      go_roundw
      case rel => exact ⟨k + 1, by omega, by go_num, by rw [hlastn.out], by rw [hnext.out], hbr.trans ((Below.refl _ _).alloc (by omega) _)⟩
      case measure => simp [intOf]; omega
    · obtain rfl : k = n := by omega
      have htk : Hid (g.1.take k = g.1) := hide (List.take_of_length_le (by have := hn'.out; omega))
      have hgo := goldS_le (es := g.1) (fun e he => (hokh.out.ent e he).2.2.2.2.1) k
      have hgs : goldS g.1 ≤ 20 := by
        have h1 := hokh.out.sum
        have h2 := (le_sum g.2.1 (fun x hx => (hokh.out.flo x hx).1)).1
        omega
      rw [htk.out] at hgo
      go_wp2
      generalize wr = v1 at *
      go_loopw [52, 4] (fun i s ws => ∃ j : Nat, j ≤ 16 ∧ i = .int .i64 (j : Int) ∧ s = .int .i64 (goldS (g.1.take k) + (g.2.1.take j).sum) ∧ Below v1.heap.size v1 ws) (fun i _ _ => 16 - (intOf i).toNat)
      case atStart => exact ⟨0, Nat.zero_le _, rfl, by simp, Below.refl _ _⟩
      case round =>
        obtain ⟨j, hj, rfl, rfl, hbs⟩ := hrel
        have hzs := hbs.size
        have hgs2 := hgr.below hbs (fun b hb => by have := hD b hb; omega)
        have hxs := hxr.below hbs hlxr
        clear xx0 xx1 xx2
        obtain ⟨xx0, xx1, xx2, -, -, -⟩ := hxs.cells
        have hlxs := hxs.lt
        have hsm := sumI_le (fun x hx => (hokh.out.flo x hx).1) j
        have hs20 := hokh.out.sum
        by_cases hlt2 : j < 16
        · have hjx : j < g.2.1.length := by have := hokh.out.n16; omega
          obtain ⟨bB, offB, rfl, hDb⟩ := hgs2.fl.addr hjx
          have a0 := hgs2.fl.i64 hjx
          have hbw := hD bB hDb
          have hbr' : bB < wr.heap.size := by omega
          have hfl := hokh.out.flo _ (List.getElem_mem hjx)
          unfold rng at hfl
          have hnext := hide (sum_take hjx)
          have i1 : inB g.2.1[j] 0 20 = true := by simp [inB]; omega
          have hall := hide hs20
          have hjb : (g.2.1.take j).sum ≤ 20 := by omega
          have hgb : 0 ≤ goldS (g.1.take k) ∧ goldS (g.1.take k) ≤ 20 := by rw [htk.out]; omega
          clear hgs2 hs20
          generalize (g.2.1.take j).sum = gj at *
          generalize goldS (g.1.take k) = gs at *
          have hgo' := hide hgo
          go_wp2_with (first
            | (go_at_call 54; refine (in_c _ _ _ _).mono ?_; rintro e _ ⟨rfl, rfl⟩; simp only [i1])
            | fail)
          go_roundw
          case rel => exact ⟨j + 1, by omega, by go_num, by rw [hnext.out]; congr 1; omega, hbs⟩
          case measure => simp [intOf]; omega
        · obtain rfl : j = 16 := by omega
          have hfull : Hid (goldS (g.1.take k) + (g.2.1.take 16).sum = 20) := hide (by rw [htk.out, List.take_of_length_le (by rw [hokh.out.n16]; omega)]; exact hs20)
          have h20 : (goldS (g.1.take k) + (g.2.1.take 16).sum == 20) = true := by rw [hfull.out]; rfl
          have hno : Hid (g.2.2.any (fun x => !inB x 0 30) = false) := hide (by
            rw [List.any_eq_false]
            intro x hx
            have h1 := hokh.out.las x hx
            unfold rng at h1
            simp [inB]
            omega)
          have hlaN := hide (hgs2.la.rdn encI_len hD)
          generalize goldS (g.1.take k) + (g.2.1.take 16).sum = tot at *
          have hDH := hide hgs2
          clear hgs2 hs20
          go_wp2_with fail
          refine (contains_badNum E 4 f 0 w.heap.size g.2.2 (fun x => !inB x 0 30) wr hlaN.out (by omega) (fun j hj W hB => badNum1_c _ W)).mono ?_
          rintro e w9 ⟨rfl, hb9⟩
          rw [hno.out]
          go_wp2
          go_ret
          exact ⟨rfl, hA0.trans ((hbr.mono hz1).trans ((hbs.mono (by omega)).trans (hb9.mono (by omega))))⟩
end Go.Proofs.YtajmfonepnkofaaDoor
