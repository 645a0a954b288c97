/-
  What 'IP' rests on, part 6 of 11 (texts of this seat put together: II IL HN HO).
  Conditions: none.
-/
import Derived.Test.YtajmfonepnkofaaDoorZ5
namespace Go.Proofs.YtajmfonepnkofaaDoor
open Go.RowKit Rg
set_option linter.unusedVariables false
set_option linter.unusedSimpArgs false

theorem Rd.set {w : World} {g P : Nat} (h : Rd w g P) {p : Addr} (hp : g < p.block) (v : Value) : Rd (w.setCell p v) g P := h.below ((Below.refl (g + 1) w).setCell hp v) (by omega)
theorem Only.setC {B : Nat} {k : Option Nat} {a w : World} (h : Only B k a w) {p : Addr} (hp : B ≤ p.block) (v : Value) : Only B k a (w.setCell p v) := h.trans (Only.of_below ((Below.refl B w).setCell hp v))
theorem Own.setO {α : Type} {enc : α → List Value} {sz lo : Nat} {e : TypeId} {w : World} {v : Value} {xs : List α} (h : Own enc sz e w lo v xs) {p : Addr} (hp : ∀ k, v.ownBlock = some k → k ≠ p.block) (u : Value) : Own enc sz e (w.setCell p u) lo v xs := h.keep fun k hk => Below.heap_setCell _ p _ k (hp k hk)
theorem Own.onl {α : Type} {enc : α → List Value} {sz lo : Nat} {e : TypeId} {w w' : World} {v : Value} {xs : List α} {g : Nat} (h : Own enc sz e w lo v xs) (ho : Only w.heap.size (some g) w w') (hg : g < lo) : Own enc sz e w' lo v xs := h.keep fun k hk => ho.block k (h.lt k hk).2 (fun e => by injection e with e; have := (h.lt k hk).1; omega)
theorem Box5.onl {w w' : World} {b g : Nat} {x0 x1 x2 x3 x4 : Int} (h : Box5 w b x0 x1 x2 x3 x4) (ho : Only w.heap.size (some g) w w') (hg : g < b) : Box5 w' b x0 x1 x2 x3 x4 := h.only ho (by intro e; injection e with e; omega)
theorem sl_arrQ {α : Type} {enc : α → List Value} {sz : Nat} (hl : ∀ x, (enc x).length = sz) (w : World) (arr : Array Value) (e : TypeId) (xs : List α) (h : arr.toList = xs.flatMap enc) : Sl enc sz (w.alloc (.cells arr e)) w.heap.size (w.heap.size + 1) (some ⟨w.heap.size, 0, none⟩) xs := sl_arr hl w arr e xs h
theorem okA_num {c n n' o x y : Int} (h : okA (c, n, o, x, y)) (h0 : 1 ≤ n') (h1 : n' ≤ 30) : okA (c, n', o, x, y) := by unfold okA rng at *; dsimp only at *; omega
theorem okA_join {c n o x y : Int} (h : okA (c, n, o, x, y)) : okA (c, 1, 1, 0, 0) := by unfold okA rng at *; dsimp only at *; omega
theorem set_rng {ns : List Int} {j : Nat} {v : Int} (h : ∀ x ∈ ns, 0 ≤ x ∧ x ≤ 30) (hv : 0 ≤ v ∧ v ≤ 30) : ∀ x ∈ ns.set j v, 0 ≤ x ∧ x ≤ 30 := fun x hx => by
  rcases set_mem hx with rfl | hx
  · exact hv
  · exact h x hx
set_option maxRecDepth 100000 in
set_option maxHeartbeats 4000000 in
theorem l20Reqs_c (g P most : Nat) (w : World) (hr : Rd w g P) (hP : P ≤ 50000) (hm : most ≤ 40) :
    Calls Tryd.prog 83 #[.pointer (some ⟨g, 0, none⟩), .int .i64 (most : Int)] w fun e w' => ∃ (A : Option Addr) (c : Nat) (rs : List ReqT), e = .returned (.slice A rs.length c) ∧ Own encReq 5 37 w' w.heap.size (.slice A rs.length c) rs ∧ (∀ r ∈ rs, okNA r) ∧ rs.length ≤ 40 ∧ Rd w' g (P + 2500) ∧ Only w.heap.size (some g) w w' := by
  have hg := hr.lt
  have hB0 : Below w.heap.size w ((w.alloc (.cells #[] 37)).alloc (.cells #[.int .i64 0, .int .i64 0, .int .i64 0] 3)) := ((Below.refl w.heap.size w).alloc (Nat.le_refl _) _).alloc (by simp) _
  have hw0 : Own encReq 5 37 ((w.alloc (.cells #[] 37)).alloc (.cells #[.int .i64 0, .int .i64 0, .int .i64 0] 3)) w.heap.size (.slice (some ⟨w.heap.size, 0, none⟩) 0 0) [] := (own_empty encReq 5 37 w).below ((Below.refl _ _).alloc (Nat.le_refl _) _) (Nat.le_refl _)
  have hn0 : Own encI 1 3 ((w.alloc (.cells #[] 37)).alloc (.cells #[.int .i64 0, .int .i64 0, .int .i64 0] 3)) (w.heap.size + 1) (.slice (some ⟨w.heap.size + 1, 0, none⟩) 3 3) [0, 0, 0] := by
    have hz : (w.alloc (.cells #[] 37)).heap.size = w.heap.size + 1 := by simp
    have h := Own.of_row (enc := encI) (sz := 1) (e := 3) (c := 3) (w := ((w.alloc (.cells #[] 37)).alloc (.cells #[.int .i64 0, .int .i64 0, .int .i64 0] 3))) (lo := w.heap.size + 1) (g := w.heap.size + 1) (cur := #[.int .i64 0, .int .i64 0, .int .i64 0]) (xs := [0, 0, 0]) (Nat.le_refl _) (by rw [← hz]; exact heap_alloc_new _ _) (by simp) (by simp [maxLen]) (by simp) rfl
    exact h
  have hr0 := hr.keep hB0
  have ho0 : Only w.heap.size (some g) w ((w.alloc (.cells #[] 37)).alloc (.cells #[.int .i64 0, .int .i64 0, .int .i64 0] 3)) := Only.of_below hB0
  have hz0 : w.heap.size + 2 ≤ ((w.alloc (.cells #[] 37)).alloc (.cells #[.int .i64 0, .int .i64 0, .int .i64 0] 3)).heap.size := by simp only [World.size_alloc]; omega
  have hw0h := hide hw0
  have hn0h := hide hn0
  clear hw0 hn0 hB0
  go_enter Tryd.func83, Tryd.ntmps83
  go_wp2_with fail
  generalize ((w.alloc (.cells #[] 37)).alloc (.cells #[.int .i64 0, .int .i64 0, .int .i64 0] 3)) = w0 at *
  refine (pick_c g P ((most : Int) + 1) w0 hr0 (by omega) (by omega)).mono ?_
  rintro e wa ⟨n0, rfl, hp0, hra, ha⟩
  have hn40 : n0 ≤ 40 := by have := hp0.1 (by omega); omega
  have hoa := ho0.trans (ha.mono ho0.size)
  have hwa := hide (hw0h.out.onl ha (by omega))
  have hna := hide (hn0h.out.onl ha (by omega))
  have hza := ha.size
  clear ha hp0 hw0h hn0h
  go_wp2
  go_loopw [7, 5] (fun i sv wr => ∃ (k : Nat) (rs : List ReqT) (A : Option Addr) (c : Nat) (ns : List Int), i = .int .i64 (k : Int) ∧ sv = .slice A rs.length c ∧ Own encReq 5 37 wr w.heap.size (.slice A rs.length c) rs ∧ Own encI 1 3 wr (w.heap.size + 1) (.slice (some ⟨w.heap.size + 1, 0, none⟩) 3 3) ns ∧ (ns.length = 3 ∧ ∀ x ∈ ns, 0 ≤ x ∧ x ≤ 30) ∧ (∀ r ∈ rs, okNA r) ∧ (∀ k, (Value.slice A rs.length c).ownBlock = some k → k ≠ w.heap.size + 1) ∧ rs.length + k ≤ 40 ∧ Rd wr g (P + 1 + 60 * rs.length) ∧ Only w.heap.size (some g) w wr) (fun i _ _ => (intOf i).toNat)
  case atStart => exact ⟨n0, [], some ⟨w.heap.size, 0, none⟩, 0, [0, 0, 0], rfl, rfl, hwa.out, hna.out, ⟨rfl, by intro x hx; simp at hx; omega⟩, by simp, (fun k hk => by simp [Value.ownBlock] at hk; omega), by simp; omega, hra.mono (by omega), hoa⟩
  case round =>
    obtain ⟨k, rs, A, c, ns, rfl, rfl, hw', hn', hns', hok', hdis', hlen, hrr, hor⟩ := hrel
    have hw1 := hide hw'
    have hn1 := hide hn'
    have hns := hide hns'
    have hok := hide hok'
    have hdis := hide hdis'
    have hltA : Hid (∀ b, (Value.slice A rs.length c).ownBlock = some b → b < wr.heap.size) := hide (fun b hb => (hw'.lt b hb).2)
    have hnlt := (hn'.lt (w.heap.size + 1) (by simp [Value.ownBlock])).2
    clear hw' hn' hns' hok' hdis'
    have hzr := hor.size
    by_cases hk0 : 0 < k
    · obtain ⟨q, hq⟩ : ∃ q, k = q + 1 := ⟨k - 1, by omega⟩
      subst hq
      have dk : decide ((0 : Int) < ((q + 1 : Nat) : Int)) = true := decide_eq_true (by omega)
      have dk2 : decide (0 < q + 1) = true := decide_eq_true (by omega)
      go_wp2_with fail
      refine (l20ReqS_c g _ wr hrr (by omega)).mono ?_
      rintro e v1 ⟨t, rfl, ⟨ht1, hta, ht3⟩, hr1, h1⟩
      obtain ⟨tc, tn, to, tx, ty⟩ := t
      have hc13 : 1 ≤ tc ∧ tc ≤ 3 := ⟨hta.1.1, ht3⟩
      obtain ⟨j, hj⟩ : ∃ j : Nat, tc = (j : Int) + 1 := ⟨(tc - 1).toNat, by omega⟩
      subst hj
      have hj3 : j < 3 := by omega
      have htah := hide hta
      have htn : 1 ≤ tn ∧ tn ≤ 30 := hta.2.1
      clear hta ht1 ht3 hc13
      have hz1 := h1.size
      have ho1 := hor.trans (h1.mono hzr)
      have hA2 := (Below.refl v1.heap.size v1).alloc (Nat.le_refl _) (.cells #[.int .i64 ((j : Int) + 1), .int .i64 tn, .int .i64 to, .int .i64 tx, .int .i64 ty] 37)
      have hr2 := hr1.keep hA2
      have ho2 := ho1.trans ((Only.of_below hA2).mono (by omega))
      have hw2 := (hw1.out.onl h1 (by omega)).below hA2 (Nat.le_refl _)
      have hn2 := (hn1.out.onl h1 (by omega)).below hA2 (Nat.le_refl _)
      have hb2 := Box5.made v1 ((j : Int) + 1) tn to tx ty 37
      have hz2 : v1.heap.size + 1 ≤ (v1.alloc (.cells #[.int .i64 ((j : Int) + 1), .int .i64 tn, .int .i64 to, .int .i64 tx, .int .i64 ty] 37)).heap.size := by simp only [World.size_alloc]; omega
      have hv1 := hide (And.intro hr1 (And.intro ho1 (And.intro (hw1.out.onl h1 (by omega)) (hn1.out.onl h1 (by omega)))))
      clear hA2 h1 hr1 ho1
      have hjl : j < ns.length := by rw [hns.out.1]; exact hj3
      have hnjr := hns.out.2 _ (List.getElem_mem hjl)
      have a1 := (hn2.slAt encI_len).2.2.i64 hjl
      simp only [Nat.zero_add] at a1
      have f1 := hn2.frozen j
      obtain ⟨nj, hnj⟩ : ∃ nj, ns[j] = nj := ⟨_, rfl⟩
      rw [hnj] at a1 hnjr
      have hnjh := hide hnj
      clear hnj
      obtain ⟨y0, y1, y2, y3, y4, yf0, yf1, yf2, yf3, yf4⟩ := id hb2
      have hw2h := hide hw2
      have hn2h := hide hn2
      clear hw2 hn2
      have hjq : (j : Int) + 1 - 1 = (j : Int) := by omega
      by_cases h30 : nj < 30
      · have d30 : decide (nj < 30) = true := decide_eq_true h30
        go_wp2_with fail
        generalize v1.alloc (.cells #[.int .i64 ((j : Int) + 1), .int .i64 tn, .int .i64 to, .int .i64 tx, .int .i64 ty] 37) = v2 at *
        refine (pick_c g _ 8 v2 hr2 (by omega) (by omega)).mono ?_
        rintro e v3 ⟨p8, rfl, -, hr3, h3⟩
        have hr3 := hr3.mono (P' := P + 1 + 60 * rs.length + 21) (by omega)
        have ho3 := ho2.trans (h3.mono ho2.size)
        have hw3 := hw2h.out.onl h3 (by omega)
        have hn3 := hn2h.out.onl h3 (by omega)
        have hb3 := hb2.onl h3 (by omega)
        have hz3 := h3.size
        clear a1 f1 y0 y1 y2 y3 y4 yf0 yf1 yf2 yf3 yf4
        have hjl : j < ns.length := by rw [hns.out.1]; exact hj3
        have a1 := (hn3.slAt encI_len).2.2.i64 hjl
        simp only [Nat.zero_add] at a1
        rw [hnjh.out] at a1
        have f1 := hn3.frozen j
        have hset := hide (hn3.put1 encI_len hjl (nj + 1) 0 (by omega) (.int .i64 (nj + 1)) rfl)
        obtain ⟨y0, y1, y2, y3, y4, yf0, yf1, yf2, yf3, yf4⟩ := id hb3
        by_cases h8 : 0 < p8
        · have d8 : decide ((0 : Int) < (p8 : Int)) = true := decide_eq_true (by omega)
          have d8' : decide (0 < p8) = true := decide_eq_true h8
          have dn : decide (0 < nj + 1) = true := decide_eq_true (by omega)
          have hset' : Own encI 1 3 (v3.setCell ⟨w.heap.size + 1, j, none⟩ (.int .i64 (nj + 1))) (w.heap.size + 1) (.slice (some ⟨w.heap.size + 1, 0, none⟩) 3 3) (ns.set j (nj + 1)) := by
            have h9 := hset.out
            rw [Nat.mul_one, Nat.add_zero] at h9
            exact h9
          have hnsr := hide (show (ns.set j (nj + 1)).length = 3 ∧ ∀ x ∈ ns.set j (nj + 1), 0 ≤ x ∧ x ≤ 30 from ⟨by rw [List.length_set]; exact hns.out.1, set_rng hns.out.2 (by omega)⟩)
          by_cases h1 : nj + 1 = 1
          · have de : (nj + 1 == 1) = true := by simp; omega
            have h1h := hide h1
            clear h1
            have hr5 : Rd (((((((v3.setCell ⟨w.heap.size + 1, j, none⟩ (.int .i64 (nj + 1))).setCell ⟨v1.heap.size, 1, none⟩ (.int .i64 (nj + 1))).setCell ⟨v1.heap.size, 0, none⟩ (.int .i64 ((j : Int) + 1))).setCell ⟨v1.heap.size, 1, none⟩ (.int .i64 (1))).setCell ⟨v1.heap.size, 2, none⟩ (.int .i64 (1))).setCell ⟨v1.heap.size, 3, none⟩ (.int .i64 (0))).setCell ⟨v1.heap.size, 4, none⟩ (.int .i64 (0))) g (P + 1 + 60 * rs.length + 21) := by (repeat (first | (with_reducible refine Rd.set ?_ (by dsimp only; omega) _) | (with_reducible exact hr3.mono (by omega))))
            have ho5 : Only w.heap.size (some g) w (((((((v3.setCell ⟨w.heap.size + 1, j, none⟩ (.int .i64 (nj + 1))).setCell ⟨v1.heap.size, 1, none⟩ (.int .i64 (nj + 1))).setCell ⟨v1.heap.size, 0, none⟩ (.int .i64 ((j : Int) + 1))).setCell ⟨v1.heap.size, 1, none⟩ (.int .i64 (1))).setCell ⟨v1.heap.size, 2, none⟩ (.int .i64 (1))).setCell ⟨v1.heap.size, 3, none⟩ (.int .i64 (0))).setCell ⟨v1.heap.size, 4, none⟩ (.int .i64 (0))) := by (repeat (first | (with_reducible refine Only.setC ?_ (by dsimp only; omega) _) | (with_reducible exact ho3)))
            have hw5 : Own encReq 5 37 (((((((v3.setCell ⟨w.heap.size + 1, j, none⟩ (.int .i64 (nj + 1))).setCell ⟨v1.heap.size, 1, none⟩ (.int .i64 (nj + 1))).setCell ⟨v1.heap.size, 0, none⟩ (.int .i64 ((j : Int) + 1))).setCell ⟨v1.heap.size, 1, none⟩ (.int .i64 (1))).setCell ⟨v1.heap.size, 2, none⟩ (.int .i64 (1))).setCell ⟨v1.heap.size, 3, none⟩ (.int .i64 (0))).setCell ⟨v1.heap.size, 4, none⟩ (.int .i64 (0))) w.heap.size (.slice A rs.length c) rs := by (repeat (first | (with_reducible refine Own.setO ?_ (fun k hk => by have h1 := hdis.out k hk; have h2 := hltA.out k hk; dsimp only; omega) _) | (with_reducible exact hw3)))
            have hn5 : Own encI 1 3 (((((((v3.setCell ⟨w.heap.size + 1, j, none⟩ (.int .i64 (nj + 1))).setCell ⟨v1.heap.size, 1, none⟩ (.int .i64 (nj + 1))).setCell ⟨v1.heap.size, 0, none⟩ (.int .i64 ((j : Int) + 1))).setCell ⟨v1.heap.size, 1, none⟩ (.int .i64 (1))).setCell ⟨v1.heap.size, 2, none⟩ (.int .i64 (1))).setCell ⟨v1.heap.size, 3, none⟩ (.int .i64 (0))).setCell ⟨v1.heap.size, 4, none⟩ (.int .i64 (0))) (w.heap.size + 1) (.slice (some ⟨w.heap.size + 1, 0, none⟩) 3 3) (ns.set j (nj + 1)) := ((((((hset').setO (fun k hk => by simp [Value.ownBlock] at hk; dsimp only; omega) _).setO (fun k hk => by simp [Value.ownBlock] at hk; dsimp only; omega) _).setO (fun k hk => by simp [Value.ownBlock] at hk; dsimp only; omega) _).setO (fun k hk => by simp [Value.ownBlock] at hk; dsimp only; omega) _).setO (fun k hk => by simp [Value.ownBlock] at hk; dsimp only; omega) _).setO (fun k hk => by simp [Value.ownBlock] at hk; dsimp only; omega) _
            have hb5 : Box5 (((((((v3.setCell ⟨w.heap.size + 1, j, none⟩ (.int .i64 (nj + 1))).setCell ⟨v1.heap.size, 1, none⟩ (.int .i64 (nj + 1))).setCell ⟨v1.heap.size, 0, none⟩ (.int .i64 ((j : Int) + 1))).setCell ⟨v1.heap.size, 1, none⟩ (.int .i64 (1))).setCell ⟨v1.heap.size, 2, none⟩ (.int .i64 (1))).setCell ⟨v1.heap.size, 3, none⟩ (.int .i64 (0))).setCell ⟨v1.heap.size, 4, none⟩ (.int .i64 (0))) v1.heap.size ((j : Int) + 1) (1) (1) (0) (0) := (((((((hb3.other (by omega)).set1 (v := nj + 1)).set0 (v := (j : Int) + 1)).set1 (v := 1)).set2 (v := 1)).set3 (v := 0)).set4 (v := 0))
            have hz5 : v3.heap.size ≤ (((((((v3.setCell ⟨w.heap.size + 1, j, none⟩ (.int .i64 (nj + 1))).setCell ⟨v1.heap.size, 1, none⟩ (.int .i64 (nj + 1))).setCell ⟨v1.heap.size, 0, none⟩ (.int .i64 ((j : Int) + 1))).setCell ⟨v1.heap.size, 1, none⟩ (.int .i64 (1))).setCell ⟨v1.heap.size, 2, none⟩ (.int .i64 (1))).setCell ⟨v1.heap.size, 3, none⟩ (.int .i64 (0))).setCell ⟨v1.heap.size, 4, none⟩ (.int .i64 (0))).heap.size := by simp
            have hn5h := hide hn5
            clear hn5
            go_wp2_with fail
            generalize (((((((v3.setCell ⟨w.heap.size + 1, j, none⟩ (.int .i64 (nj + 1))).setCell ⟨v1.heap.size, 1, none⟩ (.int .i64 (nj + 1))).setCell ⟨v1.heap.size, 0, none⟩ (.int .i64 ((j : Int) + 1))).setCell ⟨v1.heap.size, 1, none⟩ (.int .i64 (1))).setCell ⟨v1.heap.size, 2, none⟩ (.int .i64 (1))).setCell ⟨v1.heap.size, 3, none⟩ (.int .i64 (0))).setCell ⟨v1.heap.size, 4, none⟩ (.int .i64 (0))) = v5 at *
            refine (pick_c g _ 12 v5 hr5 (by omega) (by omega)).mono ?_
            rintro e v6 ⟨p12, rfl, -, hr6, h6⟩
            have hr6 := hr6.mono (P' := P + 1 + 60 * rs.length + 40) (by omega)
            have ho6 := ho5.trans (h6.mono ho5.size)
            have hw6 := hw5.onl h6 (by omega)
            have hn6 := hn5h.out.onl h6 (by omega)
            have hb6 := hb5.onl h6 (by omega)
            have hz6 := h6.size
            by_cases hp0 : (p12 : Int) = 0
            · have dz : ((p12 : Int) == 0) = true := by rw [hp0]; rfl
              clear hp0
              obtain ⟨y0, y1, y2, y3, y4, yf0, yf1, yf2, yf3, yf4⟩ := id hb6
              have hr7 : Rd (((((v6.setCell ⟨v1.heap.size, 0, none⟩ (.int .i64 (0))).setCell ⟨v1.heap.size, 1, none⟩ (.int .i64 (0))).setCell ⟨v1.heap.size, 2, none⟩ (.int .i64 (0))).setCell ⟨v1.heap.size, 3, none⟩ (.int .i64 (0))).setCell ⟨v1.heap.size, 4, none⟩ (.int .i64 (0))) g (P + 1 + 60 * rs.length + 40) := by (repeat (first | (with_reducible refine Rd.set ?_ (by dsimp only; omega) _) | (with_reducible exact hr6.mono (by omega))))
              have ho7 : Only w.heap.size (some g) w (((((v6.setCell ⟨v1.heap.size, 0, none⟩ (.int .i64 (0))).setCell ⟨v1.heap.size, 1, none⟩ (.int .i64 (0))).setCell ⟨v1.heap.size, 2, none⟩ (.int .i64 (0))).setCell ⟨v1.heap.size, 3, none⟩ (.int .i64 (0))).setCell ⟨v1.heap.size, 4, none⟩ (.int .i64 (0))) := by (repeat (first | (with_reducible refine Only.setC ?_ (by dsimp only; omega) _) | (with_reducible exact ho6)))
              have hw7 : Own encReq 5 37 (((((v6.setCell ⟨v1.heap.size, 0, none⟩ (.int .i64 (0))).setCell ⟨v1.heap.size, 1, none⟩ (.int .i64 (0))).setCell ⟨v1.heap.size, 2, none⟩ (.int .i64 (0))).setCell ⟨v1.heap.size, 3, none⟩ (.int .i64 (0))).setCell ⟨v1.heap.size, 4, none⟩ (.int .i64 (0))) w.heap.size (.slice A rs.length c) rs := by (repeat (first | (with_reducible refine Own.setO ?_ (fun k hk => by have h1 := hdis.out k hk; have h2 := hltA.out k hk; dsimp only; omega) _) | (with_reducible exact hw6)))
              have hn7 : Own encI 1 3 (((((v6.setCell ⟨v1.heap.size, 0, none⟩ (.int .i64 (0))).setCell ⟨v1.heap.size, 1, none⟩ (.int .i64 (0))).setCell ⟨v1.heap.size, 2, none⟩ (.int .i64 (0))).setCell ⟨v1.heap.size, 3, none⟩ (.int .i64 (0))).setCell ⟨v1.heap.size, 4, none⟩ (.int .i64 (0))) (w.heap.size + 1) (.slice (some ⟨w.heap.size + 1, 0, none⟩) 3 3) (ns.set j (nj + 1)) := (((((hn6).setO (fun k hk => by simp [Value.ownBlock] at hk; dsimp only; omega) _).setO (fun k hk => by simp [Value.ownBlock] at hk; dsimp only; omega) _).setO (fun k hk => by simp [Value.ownBlock] at hk; dsimp only; omega) _).setO (fun k hk => by simp [Value.ownBlock] at hk; dsimp only; omega) _).setO (fun k hk => by simp [Value.ownBlock] at hk; dsimp only; omega) _
              have hz7 : (((((v6.setCell ⟨v1.heap.size, 0, none⟩ (.int .i64 (0))).setCell ⟨v1.heap.size, 1, none⟩ (.int .i64 (0))).setCell ⟨v1.heap.size, 2, none⟩ (.int .i64 (0))).setCell ⟨v1.heap.size, 3, none⟩ (.int .i64 (0))).setCell ⟨v1.heap.size, 4, none⟩ (.int .i64 (0))).heap.size = v6.heap.size := by simp
              have hz7h := hide hz7
              have hsl := sl_arrQ encReq_len (((((v6.setCell ⟨v1.heap.size, 0, none⟩ (.int .i64 (0))).setCell ⟨v1.heap.size, 1, none⟩ (.int .i64 (0))).setCell ⟨v1.heap.size, 2, none⟩ (.int .i64 (0))).setCell ⟨v1.heap.size, 3, none⟩ (.int .i64 (0))).setCell ⟨v1.heap.size, 4, none⟩ (.int .i64 (0))) #[.int .i64 (0), .int .i64 (0), .int .i64 (0), .int .i64 (0), .int .i64 (0)] 37 [(0, 0, 0, 0, 0)] rfl
              have hz67 : v6.heap.size + 1 = ((((((v6.setCell ⟨v1.heap.size, 0, none⟩ (.int .i64 (0))).setCell ⟨v1.heap.size, 1, none⟩ (.int .i64 (0))).setCell ⟨v1.heap.size, 2, none⟩ (.int .i64 (0))).setCell ⟨v1.heap.size, 3, none⟩ (.int .i64 (0))).setCell ⟨v1.heap.size, 4, none⟩ (.int .i64 (0))).alloc (.cells #[.int .i64 (0), .int .i64 (0), .int .i64 (0), .int .i64 (0), .int .i64 (0)] 37)).heap.size := by simp only [World.size_alloc] <;> omega
              have hA7 := (Below.refl (((((v6.setCell ⟨v1.heap.size, 0, none⟩ (.int .i64 (0))).setCell ⟨v1.heap.size, 1, none⟩ (.int .i64 (0))).setCell ⟨v1.heap.size, 2, none⟩ (.int .i64 (0))).setCell ⟨v1.heap.size, 3, none⟩ (.int .i64 (0))).setCell ⟨v1.heap.size, 4, none⟩ (.int .i64 (0))).heap.size (((((v6.setCell ⟨v1.heap.size, 0, none⟩ (.int .i64 (0))).setCell ⟨v1.heap.size, 1, none⟩ (.int .i64 (0))).setCell ⟨v1.heap.size, 2, none⟩ (.int .i64 (0))).setCell ⟨v1.heap.size, 3, none⟩ (.int .i64 (0))).setCell ⟨v1.heap.size, 4, none⟩ (.int .i64 (0)))).alloc (Nat.le_refl _) (.cells #[.int .i64 (0), .int .i64 (0), .int .i64 (0), .int .i64 (0), .int .i64 (0)] 37)
              have hr8 := hr7.below hA7 (by have := hr6.lt; omega)
              have ho8 := ho7.trans ((Only.of_below hA7).mono (by omega))
              have hw8 := hw7.below hA7 (Nat.le_refl _)
              have hn8 := hn7.below hA7 (Nat.le_refl _)
              rw [hz7] at hsl
              have hslh := hide hsl
              have hz67h := hide hz67
              clear hsl hz67 hz7 hA7 hr7 ho7 hw7 hn7
              have hw8h := hide hw8
              have hn8h := hide hn8
              clear hw8 hn8
              go_wp2_with (first
                | (at_builtin; refine wpList_appG encReq_len (by omega) encReq_one rfl _ _ 118 rfl 37 _ 40 Tryd.underlying118 infoReq rfl w.heap.size _ rs rfl hw8h.out _ _ _ [(0, 0, 0, 0, 0)] _ _ rfl rfl hslh.out ?h2 ?h3 ?_)
                | fail)
              case h2 => simp [maxLen]; omega
              case h3 => have := hz67h.out; omega
              intro vv v9 hw9 hg9 hb9 hlie
              obtain ⟨A9, c9, rfl, _, _, _⟩ := hw9.form
              have hz6 := hz67h.out
              have ho9 : Only w.heap.size (some g) w v9 := ho8.trans (Only.of_below hb9)
              have hr9 : Rd v9 g (P + 1 + 60 * rs.length + 40) := hr8.below hb9 (by omega)
              have hn9 : Own encI 1 3 v9 (w.heap.size + 1) (.slice (some ⟨w.heap.size + 1, 0, none⟩) 3 3) (ns.set j (nj + 1)) := hn8h.out.keep (fun k hk => hg9.block k (by simp [Value.ownBlock] at hk; omega) (fun e => by simp [Value.ownBlock] at hk; exact hdis.out k e.symm (by omega)))
              go_wp2
              go_roundw
              case rel => exact ⟨q, rs ++ [(0, 0, 0, 0, 0)], A9, c9, (ns.set j (nj + 1)), by first | rfl | go_num, rfl, hw9, hn9, hnsr.out, (fun r hr => by rcases List.mem_append.1 hr with h | h; exact hok.out r h; rw [List.mem_singleton.1 h]; exact .inl rfl), (fun k hk => by rcases hlie with e | e; exact hdis.out k (e ▸ hk); have := e.symm.trans hk; injection this with this; omega), by simp; omega, (by refine hr9.mono ?_; simp; omega), ho9⟩
              case measure => simp [intOf] <;> omega
            · have dz : ((p12 : Int) == 0) = false := by simp; omega
              obtain ⟨y0, y1, y2, y3, y4, yf0, yf1, yf2, yf3, yf4⟩ := id hb6
              have hr7 : Rd v6 g (P + 1 + 60 * rs.length + 40) := by (repeat (first | (with_reducible refine Rd.set ?_ (by dsimp only; omega) _) | (with_reducible exact hr6.mono (by omega))))
              have ho7 : Only w.heap.size (some g) w v6 := by (repeat (first | (with_reducible refine Only.setC ?_ (by dsimp only; omega) _) | (with_reducible exact ho6)))
              have hw7 : Own encReq 5 37 v6 w.heap.size (.slice A rs.length c) rs := by (repeat (first | (with_reducible refine Own.setO ?_ (fun k hk => by have h1 := hdis.out k hk; have h2 := hltA.out k hk; dsimp only; omega) _) | (with_reducible exact hw6)))
              have hn7 : Own encI 1 3 v6 (w.heap.size + 1) (.slice (some ⟨w.heap.size + 1, 0, none⟩) 3 3) (ns.set j (nj + 1)) := hn6
              have hz7 : v6.heap.size = v6.heap.size := by rfl
              have hz7h := hide hz7
              have hsl := sl_arrQ encReq_len v6 #[.int .i64 ((j : Int) + 1), .int .i64 (1), .int .i64 (1), .int .i64 (0), .int .i64 (0)] 37 [((j : Int) + 1, 1, 1, 0, 0)] rfl
              have hz67 : v6.heap.size + 1 = (v6.alloc (.cells #[.int .i64 ((j : Int) + 1), .int .i64 (1), .int .i64 (1), .int .i64 (0), .int .i64 (0)] 37)).heap.size := by simp only [World.size_alloc] <;> omega
              have hA7 := (Below.refl v6.heap.size v6).alloc (Nat.le_refl _) (.cells #[.int .i64 ((j : Int) + 1), .int .i64 (1), .int .i64 (1), .int .i64 (0), .int .i64 (0)] 37)
              have hr8 := hr7.below hA7 (by have := hr6.lt; omega)
              have ho8 := ho7.trans ((Only.of_below hA7).mono (by omega))
              have hw8 := hw7.below hA7 (Nat.le_refl _)
              have hn8 := hn7.below hA7 (Nat.le_refl _)
              rw [hz7] at hsl
              have hslh := hide hsl
              have hz67h := hide hz67
              clear hsl hz67 hz7 hA7 hr7 ho7 hw7 hn7
              have hw8h := hide hw8
              have hn8h := hide hn8
              clear hw8 hn8
              go_wp2_with (first
                | (at_builtin; refine wpList_appG encReq_len (by omega) encReq_one rfl _ _ 118 rfl 37 _ 40 Tryd.underlying118 infoReq rfl w.heap.size _ rs rfl hw8h.out _ _ _ [((j : Int) + 1, 1, 1, 0, 0)] _ _ rfl rfl hslh.out ?h2 ?h3 ?_)
                | fail)
              case h2 => simp [maxLen]; omega
              case h3 => have := hz67h.out; omega
              intro vv v9 hw9 hg9 hb9 hlie
              obtain ⟨A9, c9, rfl, _, _, _⟩ := hw9.form
              have hz6 := hz67h.out
              have ho9 : Only w.heap.size (some g) w v9 := ho8.trans (Only.of_below hb9)
              have hr9 : Rd v9 g (P + 1 + 60 * rs.length + 40) := hr8.below hb9 (by omega)
              have hn9 : Own encI 1 3 v9 (w.heap.size + 1) (.slice (some ⟨w.heap.size + 1, 0, none⟩) 3 3) (ns.set j (nj + 1)) := hn8h.out.keep (fun k hk => hg9.block k (by simp [Value.ownBlock] at hk; omega) (fun e => by simp [Value.ownBlock] at hk; exact hdis.out k e.symm (by omega)))
              go_wp2
              go_roundw
              case rel => exact ⟨q, rs ++ [((j : Int) + 1, 1, 1, 0, 0)], A9, c9, (ns.set j (nj + 1)), by first | rfl | go_num, rfl, hw9, hn9, hnsr.out, (fun r hr => by rcases List.mem_append.1 hr with h | h; exact hok.out r h; rw [List.mem_singleton.1 h]; exact .inr (okA_join htah.out)), (fun k hk => by rcases hlie with e | e; exact hdis.out k (e ▸ hk); have := e.symm.trans hk; injection this with this; omega), by simp; omega, (by refine hr9.mono ?_; simp; omega), ho9⟩
              case measure => simp [intOf] <;> omega
          · skip
            have de : (nj + 1 == 1) = false := by simp; omega
            have hr5 : Rd ((v3.setCell ⟨w.heap.size + 1, j, none⟩ (.int .i64 (nj + 1))).setCell ⟨v1.heap.size, 1, none⟩ (.int .i64 (nj + 1))) g (P + 1 + 60 * rs.length + 21) := by (repeat (first | (with_reducible refine Rd.set ?_ (by dsimp only; omega) _) | (with_reducible exact hr3.mono (by omega))))
            have ho5 : Only w.heap.size (some g) w ((v3.setCell ⟨w.heap.size + 1, j, none⟩ (.int .i64 (nj + 1))).setCell ⟨v1.heap.size, 1, none⟩ (.int .i64 (nj + 1))) := by (repeat (first | (with_reducible refine Only.setC ?_ (by dsimp only; omega) _) | (with_reducible exact ho3)))
            have hw5 : Own encReq 5 37 ((v3.setCell ⟨w.heap.size + 1, j, none⟩ (.int .i64 (nj + 1))).setCell ⟨v1.heap.size, 1, none⟩ (.int .i64 (nj + 1))) w.heap.size (.slice A rs.length c) rs := by (repeat (first | (with_reducible refine Own.setO ?_ (fun k hk => by have h1 := hdis.out k hk; have h2 := hltA.out k hk; dsimp only; omega) _) | (with_reducible exact hw3)))
            have hn5 : Own encI 1 3 ((v3.setCell ⟨w.heap.size + 1, j, none⟩ (.int .i64 (nj + 1))).setCell ⟨v1.heap.size, 1, none⟩ (.int .i64 (nj + 1))) (w.heap.size + 1) (.slice (some ⟨w.heap.size + 1, 0, none⟩) 3 3) (ns.set j (nj + 1)) := (hset').setO (fun k hk => by simp [Value.ownBlock] at hk; dsimp only; omega) _
            have hb5 : Box5 ((v3.setCell ⟨w.heap.size + 1, j, none⟩ (.int .i64 (nj + 1))).setCell ⟨v1.heap.size, 1, none⟩ (.int .i64 (nj + 1))) v1.heap.size ((j : Int) + 1) (nj + 1) (to) (tx) (ty) := ((hb3.other (by omega)).set1 (v := nj + 1))
            have hz5 : v3.heap.size ≤ ((v3.setCell ⟨w.heap.size + 1, j, none⟩ (.int .i64 (nj + 1))).setCell ⟨v1.heap.size, 1, none⟩ (.int .i64 (nj + 1))).heap.size := by simp
            have hn5h := hide hn5
            clear hn5
            go_wp2_with fail
            generalize ((v3.setCell ⟨w.heap.size + 1, j, none⟩ (.int .i64 (nj + 1))).setCell ⟨v1.heap.size, 1, none⟩ (.int .i64 (nj + 1))) = v5 at *
            refine (pick_c g _ 12 v5 hr5 (by omega) (by omega)).mono ?_
            rintro e v6 ⟨p12, rfl, -, hr6, h6⟩
            have hr6 := hr6.mono (P' := P + 1 + 60 * rs.length + 40) (by omega)
            have ho6 := ho5.trans (h6.mono ho5.size)
            have hw6 := hw5.onl h6 (by omega)
            have hn6 := hn5h.out.onl h6 (by omega)
            have hb6 := hb5.onl h6 (by omega)
            have hz6 := h6.size
            by_cases hp0 : (p12 : Int) = 0
            · have dz : ((p12 : Int) == 0) = true := by rw [hp0]; rfl
              clear hp0
              obtain ⟨y0, y1, y2, y3, y4, yf0, yf1, yf2, yf3, yf4⟩ := id hb6
              have hr7 : Rd (((((v6.setCell ⟨v1.heap.size, 0, none⟩ (.int .i64 (0))).setCell ⟨v1.heap.size, 1, none⟩ (.int .i64 (0))).setCell ⟨v1.heap.size, 2, none⟩ (.int .i64 (0))).setCell ⟨v1.heap.size, 3, none⟩ (.int .i64 (0))).setCell ⟨v1.heap.size, 4, none⟩ (.int .i64 (0))) g (P + 1 + 60 * rs.length + 40) := by (repeat (first | (with_reducible refine Rd.set ?_ (by dsimp only; omega) _) | (with_reducible exact hr6.mono (by omega))))
              have ho7 : Only w.heap.size (some g) w (((((v6.setCell ⟨v1.heap.size, 0, none⟩ (.int .i64 (0))).setCell ⟨v1.heap.size, 1, none⟩ (.int .i64 (0))).setCell ⟨v1.heap.size, 2, none⟩ (.int .i64 (0))).setCell ⟨v1.heap.size, 3, none⟩ (.int .i64 (0))).setCell ⟨v1.heap.size, 4, none⟩ (.int .i64 (0))) := by (repeat (first | (with_reducible refine Only.setC ?_ (by dsimp only; omega) _) | (with_reducible exact ho6)))
              have hw7 : Own encReq 5 37 (((((v6.setCell ⟨v1.heap.size, 0, none⟩ (.int .i64 (0))).setCell ⟨v1.heap.size, 1, none⟩ (.int .i64 (0))).setCell ⟨v1.heap.size, 2, none⟩ (.int .i64 (0))).setCell ⟨v1.heap.size, 3, none⟩ (.int .i64 (0))).setCell ⟨v1.heap.size, 4, none⟩ (.int .i64 (0))) w.heap.size (.slice A rs.length c) rs := by (repeat (first | (with_reducible refine Own.setO ?_ (fun k hk => by have h1 := hdis.out k hk; have h2 := hltA.out k hk; dsimp only; omega) _) | (with_reducible exact hw6)))
              have hn7 : Own encI 1 3 (((((v6.setCell ⟨v1.heap.size, 0, none⟩ (.int .i64 (0))).setCell ⟨v1.heap.size, 1, none⟩ (.int .i64 (0))).setCell ⟨v1.heap.size, 2, none⟩ (.int .i64 (0))).setCell ⟨v1.heap.size, 3, none⟩ (.int .i64 (0))).setCell ⟨v1.heap.size, 4, none⟩ (.int .i64 (0))) (w.heap.size + 1) (.slice (some ⟨w.heap.size + 1, 0, none⟩) 3 3) (ns.set j (nj + 1)) := (((((hn6).setO (fun k hk => by simp [Value.ownBlock] at hk; dsimp only; omega) _).setO (fun k hk => by simp [Value.ownBlock] at hk; dsimp only; omega) _).setO (fun k hk => by simp [Value.ownBlock] at hk; dsimp only; omega) _).setO (fun k hk => by simp [Value.ownBlock] at hk; dsimp only; omega) _).setO (fun k hk => by simp [Value.ownBlock] at hk; dsimp only; omega) _
              have hz7 : (((((v6.setCell ⟨v1.heap.size, 0, none⟩ (.int .i64 (0))).setCell ⟨v1.heap.size, 1, none⟩ (.int .i64 (0))).setCell ⟨v1.heap.size, 2, none⟩ (.int .i64 (0))).setCell ⟨v1.heap.size, 3, none⟩ (.int .i64 (0))).setCell ⟨v1.heap.size, 4, none⟩ (.int .i64 (0))).heap.size = v6.heap.size := by simp
              have hz7h := hide hz7
              have hsl := sl_arrQ encReq_len (((((v6.setCell ⟨v1.heap.size, 0, none⟩ (.int .i64 (0))).setCell ⟨v1.heap.size, 1, none⟩ (.int .i64 (0))).setCell ⟨v1.heap.size, 2, none⟩ (.int .i64 (0))).setCell ⟨v1.heap.size, 3, none⟩ (.int .i64 (0))).setCell ⟨v1.heap.size, 4, none⟩ (.int .i64 (0))) #[.int .i64 (0), .int .i64 (0), .int .i64 (0), .int .i64 (0), .int .i64 (0)] 37 [(0, 0, 0, 0, 0)] rfl
              have hz67 : v6.heap.size + 1 = ((((((v6.setCell ⟨v1.heap.size, 0, none⟩ (.int .i64 (0))).setCell ⟨v1.heap.size, 1, none⟩ (.int .i64 (0))).setCell ⟨v1.heap.size, 2, none⟩ (.int .i64 (0))).setCell ⟨v1.heap.size, 3, none⟩ (.int .i64 (0))).setCell ⟨v1.heap.size, 4, none⟩ (.int .i64 (0))).alloc (.cells #[.int .i64 (0), .int .i64 (0), .int .i64 (0), .int .i64 (0), .int .i64 (0)] 37)).heap.size := by simp only [World.size_alloc] <;> omega
              have hA7 := (Below.refl (((((v6.setCell ⟨v1.heap.size, 0, none⟩ (.int .i64 (0))).setCell ⟨v1.heap.size, 1, none⟩ (.int .i64 (0))).setCell ⟨v1.heap.size, 2, none⟩ (.int .i64 (0))).setCell ⟨v1.heap.size, 3, none⟩ (.int .i64 (0))).setCell ⟨v1.heap.size, 4, none⟩ (.int .i64 (0))).heap.size (((((v6.setCell ⟨v1.heap.size, 0, none⟩ (.int .i64 (0))).setCell ⟨v1.heap.size, 1, none⟩ (.int .i64 (0))).setCell ⟨v1.heap.size, 2, none⟩ (.int .i64 (0))).setCell ⟨v1.heap.size, 3, none⟩ (.int .i64 (0))).setCell ⟨v1.heap.size, 4, none⟩ (.int .i64 (0)))).alloc (Nat.le_refl _) (.cells #[.int .i64 (0), .int .i64 (0), .int .i64 (0), .int .i64 (0), .int .i64 (0)] 37)
              have hr8 := hr7.below hA7 (by have := hr6.lt; omega)
              have ho8 := ho7.trans ((Only.of_below hA7).mono (by omega))
              have hw8 := hw7.below hA7 (Nat.le_refl _)
              have hn8 := hn7.below hA7 (Nat.le_refl _)
              rw [hz7] at hsl
              have hslh := hide hsl
              have hz67h := hide hz67
              clear hsl hz67 hz7 hA7 hr7 ho7 hw7 hn7
              have hw8h := hide hw8
              have hn8h := hide hn8
              clear hw8 hn8
              go_wp2_with (first
                | (at_builtin; refine wpList_appG encReq_len (by omega) encReq_one rfl _ _ 118 rfl 37 _ 40 Tryd.underlying118 infoReq rfl w.heap.size _ rs rfl hw8h.out _ _ _ [(0, 0, 0, 0, 0)] _ _ rfl rfl hslh.out ?h2 ?h3 ?_)
                | fail)
              case h2 => simp [maxLen]; omega
              case h3 => have := hz67h.out; omega
              intro vv v9 hw9 hg9 hb9 hlie
              obtain ⟨A9, c9, rfl, _, _, _⟩ := hw9.form
              have hz6 := hz67h.out
              have ho9 : Only w.heap.size (some g) w v9 := ho8.trans (Only.of_below hb9)
              have hr9 : Rd v9 g (P + 1 + 60 * rs.length + 40) := hr8.below hb9 (by omega)
              have hn9 : Own encI 1 3 v9 (w.heap.size + 1) (.slice (some ⟨w.heap.size + 1, 0, none⟩) 3 3) (ns.set j (nj + 1)) := hn8h.out.keep (fun k hk => hg9.block k (by simp [Value.ownBlock] at hk; omega) (fun e => by simp [Value.ownBlock] at hk; exact hdis.out k e.symm (by omega)))
              go_wp2
              go_roundw
              case rel => exact ⟨q, rs ++ [(0, 0, 0, 0, 0)], A9, c9, (ns.set j (nj + 1)), by first | rfl | go_num, rfl, hw9, hn9, hnsr.out, (fun r hr => by rcases List.mem_append.1 hr with h | h; exact hok.out r h; rw [List.mem_singleton.1 h]; exact .inl rfl), (fun k hk => by rcases hlie with e | e; exact hdis.out k (e ▸ hk); have := e.symm.trans hk; injection this with this; omega), by simp; omega, (by refine hr9.mono ?_; simp; omega), ho9⟩
              case measure => simp [intOf] <;> omega
            · have dz : ((p12 : Int) == 0) = false := by simp; omega
              obtain ⟨y0, y1, y2, y3, y4, yf0, yf1, yf2, yf3, yf4⟩ := id hb6
              have hr7 : Rd v6 g (P + 1 + 60 * rs.length + 40) := by (repeat (first | (with_reducible refine Rd.set ?_ (by dsimp only; omega) _) | (with_reducible exact hr6.mono (by omega))))
              have ho7 : Only w.heap.size (some g) w v6 := by (repeat (first | (with_reducible refine Only.setC ?_ (by dsimp only; omega) _) | (with_reducible exact ho6)))
              have hw7 : Own encReq 5 37 v6 w.heap.size (.slice A rs.length c) rs := by (repeat (first | (with_reducible refine Own.setO ?_ (fun k hk => by have h1 := hdis.out k hk; have h2 := hltA.out k hk; dsimp only; omega) _) | (with_reducible exact hw6)))
              have hn7 : Own encI 1 3 v6 (w.heap.size + 1) (.slice (some ⟨w.heap.size + 1, 0, none⟩) 3 3) (ns.set j (nj + 1)) := hn6
              have hz7 : v6.heap.size = v6.heap.size := by rfl
              have hz7h := hide hz7
              have hsl := sl_arrQ encReq_len v6 #[.int .i64 ((j : Int) + 1), .int .i64 (nj + 1), .int .i64 (to), .int .i64 (tx), .int .i64 (ty)] 37 [((j : Int) + 1, nj + 1, to, tx, ty)] rfl
              have hz67 : v6.heap.size + 1 = (v6.alloc (.cells #[.int .i64 ((j : Int) + 1), .int .i64 (nj + 1), .int .i64 (to), .int .i64 (tx), .int .i64 (ty)] 37)).heap.size := by simp only [World.size_alloc] <;> omega
              have hA7 := (Below.refl v6.heap.size v6).alloc (Nat.le_refl _) (.cells #[.int .i64 ((j : Int) + 1), .int .i64 (nj + 1), .int .i64 (to), .int .i64 (tx), .int .i64 (ty)] 37)
              have hr8 := hr7.below hA7 (by have := hr6.lt; omega)
              have ho8 := ho7.trans ((Only.of_below hA7).mono (by omega))
              have hw8 := hw7.below hA7 (Nat.le_refl _)
              have hn8 := hn7.below hA7 (Nat.le_refl _)
              rw [hz7] at hsl
              have hslh := hide hsl
              have hz67h := hide hz67
              clear hsl hz67 hz7 hA7 hr7 ho7 hw7 hn7
              have hw8h := hide hw8
              have hn8h := hide hn8
              clear hw8 hn8
              go_wp2_with (first
                | (at_builtin; refine wpList_appG encReq_len (by omega) encReq_one rfl _ _ 118 rfl 37 _ 40 Tryd.underlying118 infoReq rfl w.heap.size _ rs rfl hw8h.out _ _ _ [((j : Int) + 1, nj + 1, to, tx, ty)] _ _ rfl rfl hslh.out ?h2 ?h3 ?_)
                | fail)
              case h2 => simp [maxLen]; omega
              case h3 => have := hz67h.out; omega
              intro vv v9 hw9 hg9 hb9 hlie
              obtain ⟨A9, c9, rfl, _, _, _⟩ := hw9.form
              have hz6 := hz67h.out
              have ho9 : Only w.heap.size (some g) w v9 := ho8.trans (Only.of_below hb9)
              have hr9 : Rd v9 g (P + 1 + 60 * rs.length + 40) := hr8.below hb9 (by omega)
              have hn9 : Own encI 1 3 v9 (w.heap.size + 1) (.slice (some ⟨w.heap.size + 1, 0, none⟩) 3 3) (ns.set j (nj + 1)) := hn8h.out.keep (fun k hk => hg9.block k (by simp [Value.ownBlock] at hk; omega) (fun e => by simp [Value.ownBlock] at hk; exact hdis.out k e.symm (by omega)))
              go_wp2
              go_roundw
              case rel => exact ⟨q, rs ++ [((j : Int) + 1, nj + 1, to, tx, ty)], A9, c9, (ns.set j (nj + 1)), by first | rfl | go_num, rfl, hw9, hn9, hnsr.out, (fun r hr => by rcases List.mem_append.1 hr with h | h; exact hok.out r h; rw [List.mem_singleton.1 h]; exact .inr (okA_num htah.out (by omega) (by omega))), (fun k hk => by rcases hlie with e | e; exact hdis.out k (e ▸ hk); have := e.symm.trans hk; injection this with this; omega), by simp; omega, (by refine hr9.mono ?_; simp; omega), ho9⟩
              case measure => simp [intOf] <;> omega
        · have d8 : decide ((0 : Int) < (p8 : Int)) = false := decide_eq_false (by omega)
          have d8' : decide (0 < p8) = false := decide_eq_false h8
          by_cases hpos : 0 < nj
          · have dn : decide (0 < nj) = true := decide_eq_true hpos
            by_cases h1 : nj = 1
            · have de : (nj == 1) = true := by simp; omega
              have h1h := hide h1
              clear h1
              have hr5 : Rd ((((((v3.setCell ⟨v1.heap.size, 1, none⟩ (.int .i64 (nj))).setCell ⟨v1.heap.size, 0, none⟩ (.int .i64 ((j : Int) + 1))).setCell ⟨v1.heap.size, 1, none⟩ (.int .i64 (1))).setCell ⟨v1.heap.size, 2, none⟩ (.int .i64 (1))).setCell ⟨v1.heap.size, 3, none⟩ (.int .i64 (0))).setCell ⟨v1.heap.size, 4, none⟩ (.int .i64 (0))) g (P + 1 + 60 * rs.length + 21) := by (repeat (first | (with_reducible refine Rd.set ?_ (by dsimp only; omega) _) | (with_reducible exact hr3.mono (by omega))))
              have ho5 : Only w.heap.size (some g) w ((((((v3.setCell ⟨v1.heap.size, 1, none⟩ (.int .i64 (nj))).setCell ⟨v1.heap.size, 0, none⟩ (.int .i64 ((j : Int) + 1))).setCell ⟨v1.heap.size, 1, none⟩ (.int .i64 (1))).setCell ⟨v1.heap.size, 2, none⟩ (.int .i64 (1))).setCell ⟨v1.heap.size, 3, none⟩ (.int .i64 (0))).setCell ⟨v1.heap.size, 4, none⟩ (.int .i64 (0))) := by (repeat (first | (with_reducible refine Only.setC ?_ (by dsimp only; omega) _) | (with_reducible exact ho3)))
              have hw5 : Own encReq 5 37 ((((((v3.setCell ⟨v1.heap.size, 1, none⟩ (.int .i64 (nj))).setCell ⟨v1.heap.size, 0, none⟩ (.int .i64 ((j : Int) + 1))).setCell ⟨v1.heap.size, 1, none⟩ (.int .i64 (1))).setCell ⟨v1.heap.size, 2, none⟩ (.int .i64 (1))).setCell ⟨v1.heap.size, 3, none⟩ (.int .i64 (0))).setCell ⟨v1.heap.size, 4, none⟩ (.int .i64 (0))) w.heap.size (.slice A rs.length c) rs := by (repeat (first | (with_reducible refine Own.setO ?_ (fun k hk => by have h1 := hdis.out k hk; have h2 := hltA.out k hk; dsimp only; omega) _) | (with_reducible exact hw3)))
              have hn5 : Own encI 1 3 ((((((v3.setCell ⟨v1.heap.size, 1, none⟩ (.int .i64 (nj))).setCell ⟨v1.heap.size, 0, none⟩ (.int .i64 ((j : Int) + 1))).setCell ⟨v1.heap.size, 1, none⟩ (.int .i64 (1))).setCell ⟨v1.heap.size, 2, none⟩ (.int .i64 (1))).setCell ⟨v1.heap.size, 3, none⟩ (.int .i64 (0))).setCell ⟨v1.heap.size, 4, none⟩ (.int .i64 (0))) (w.heap.size + 1) (.slice (some ⟨w.heap.size + 1, 0, none⟩) 3 3) (ns) := ((((((hn3).setO (fun k hk => by simp [Value.ownBlock] at hk; dsimp only; omega) _).setO (fun k hk => by simp [Value.ownBlock] at hk; dsimp only; omega) _).setO (fun k hk => by simp [Value.ownBlock] at hk; dsimp only; omega) _).setO (fun k hk => by simp [Value.ownBlock] at hk; dsimp only; omega) _).setO (fun k hk => by simp [Value.ownBlock] at hk; dsimp only; omega) _).setO (fun k hk => by simp [Value.ownBlock] at hk; dsimp only; omega) _
              have hb5 : Box5 ((((((v3.setCell ⟨v1.heap.size, 1, none⟩ (.int .i64 (nj))).setCell ⟨v1.heap.size, 0, none⟩ (.int .i64 ((j : Int) + 1))).setCell ⟨v1.heap.size, 1, none⟩ (.int .i64 (1))).setCell ⟨v1.heap.size, 2, none⟩ (.int .i64 (1))).setCell ⟨v1.heap.size, 3, none⟩ (.int .i64 (0))).setCell ⟨v1.heap.size, 4, none⟩ (.int .i64 (0))) v1.heap.size ((j : Int) + 1) (1) (1) (0) (0) := ((((((hb3.set1 (v := nj)).set0 (v := (j : Int) + 1)).set1 (v := 1)).set2 (v := 1)).set3 (v := 0)).set4 (v := 0))
              have hz5 : v3.heap.size ≤ ((((((v3.setCell ⟨v1.heap.size, 1, none⟩ (.int .i64 (nj))).setCell ⟨v1.heap.size, 0, none⟩ (.int .i64 ((j : Int) + 1))).setCell ⟨v1.heap.size, 1, none⟩ (.int .i64 (1))).setCell ⟨v1.heap.size, 2, none⟩ (.int .i64 (1))).setCell ⟨v1.heap.size, 3, none⟩ (.int .i64 (0))).setCell ⟨v1.heap.size, 4, none⟩ (.int .i64 (0))).heap.size := by simp
              have hn5h := hide hn5
              clear hn5
              go_wp2_with fail
              generalize ((((((v3.setCell ⟨v1.heap.size, 1, none⟩ (.int .i64 (nj))).setCell ⟨v1.heap.size, 0, none⟩ (.int .i64 ((j : Int) + 1))).setCell ⟨v1.heap.size, 1, none⟩ (.int .i64 (1))).setCell ⟨v1.heap.size, 2, none⟩ (.int .i64 (1))).setCell ⟨v1.heap.size, 3, none⟩ (.int .i64 (0))).setCell ⟨v1.heap.size, 4, none⟩ (.int .i64 (0))) = v5 at *
              refine (pick_c g _ 12 v5 hr5 (by omega) (by omega)).mono ?_
              rintro e v6 ⟨p12, rfl, -, hr6, h6⟩
              have hr6 := hr6.mono (P' := P + 1 + 60 * rs.length + 40) (by omega)
              have ho6 := ho5.trans (h6.mono ho5.size)
              have hw6 := hw5.onl h6 (by omega)
              have hn6 := hn5h.out.onl h6 (by omega)
              have hb6 := hb5.onl h6 (by omega)
              have hz6 := h6.size
              by_cases hp0 : (p12 : Int) = 0
              · have dz : ((p12 : Int) == 0) = true := by rw [hp0]; rfl
                clear hp0
                obtain ⟨y0, y1, y2, y3, y4, yf0, yf1, yf2, yf3, yf4⟩ := id hb6
                have hr7 : Rd (((((v6.setCell ⟨v1.heap.size, 0, none⟩ (.int .i64 (0))).setCell ⟨v1.heap.size, 1, none⟩ (.int .i64 (0))).setCell ⟨v1.heap.size, 2, none⟩ (.int .i64 (0))).setCell ⟨v1.heap.size, 3, none⟩ (.int .i64 (0))).setCell ⟨v1.heap.size, 4, none⟩ (.int .i64 (0))) g (P + 1 + 60 * rs.length + 40) := by (repeat (first | (with_reducible refine Rd.set ?_ (by dsimp only; omega) _) | (with_reducible exact hr6.mono (by omega))))
                have ho7 : Only w.heap.size (some g) w (((((v6.setCell ⟨v1.heap.size, 0, none⟩ (.int .i64 (0))).setCell ⟨v1.heap.size, 1, none⟩ (.int .i64 (0))).setCell ⟨v1.heap.size, 2, none⟩ (.int .i64 (0))).setCell ⟨v1.heap.size, 3, none⟩ (.int .i64 (0))).setCell ⟨v1.heap.size, 4, none⟩ (.int .i64 (0))) := by (repeat (first | (with_reducible refine Only.setC ?_ (by dsimp only; omega) _) | (with_reducible exact ho6)))
                have hw7 : Own encReq 5 37 (((((v6.setCell ⟨v1.heap.size, 0, none⟩ (.int .i64 (0))).setCell ⟨v1.heap.size, 1, none⟩ (.int .i64 (0))).setCell ⟨v1.heap.size, 2, none⟩ (.int .i64 (0))).setCell ⟨v1.heap.size, 3, none⟩ (.int .i64 (0))).setCell ⟨v1.heap.size, 4, none⟩ (.int .i64 (0))) w.heap.size (.slice A rs.length c) rs := by (repeat (first | (with_reducible refine Own.setO ?_ (fun k hk => by have h1 := hdis.out k hk; have h2 := hltA.out k hk; dsimp only; omega) _) | (with_reducible exact hw6)))
                have hn7 : Own encI 1 3 (((((v6.setCell ⟨v1.heap.size, 0, none⟩ (.int .i64 (0))).setCell ⟨v1.heap.size, 1, none⟩ (.int .i64 (0))).setCell ⟨v1.heap.size, 2, none⟩ (.int .i64 (0))).setCell ⟨v1.heap.size, 3, none⟩ (.int .i64 (0))).setCell ⟨v1.heap.size, 4, none⟩ (.int .i64 (0))) (w.heap.size + 1) (.slice (some ⟨w.heap.size + 1, 0, none⟩) 3 3) (ns) := (((((hn6).setO (fun k hk => by simp [Value.ownBlock] at hk; dsimp only; omega) _).setO (fun k hk => by simp [Value.ownBlock] at hk; dsimp only; omega) _).setO (fun k hk => by simp [Value.ownBlock] at hk; dsimp only; omega) _).setO (fun k hk => by simp [Value.ownBlock] at hk; dsimp only; omega) _).setO (fun k hk => by simp [Value.ownBlock] at hk; dsimp only; omega) _
                have hz7 : (((((v6.setCell ⟨v1.heap.size, 0, none⟩ (.int .i64 (0))).setCell ⟨v1.heap.size, 1, none⟩ (.int .i64 (0))).setCell ⟨v1.heap.size, 2, none⟩ (.int .i64 (0))).setCell ⟨v1.heap.size, 3, none⟩ (.int .i64 (0))).setCell ⟨v1.heap.size, 4, none⟩ (.int .i64 (0))).heap.size = v6.heap.size := by simp
                have hz7h := hide hz7
                have hsl := sl_arrQ encReq_len (((((v6.setCell ⟨v1.heap.size, 0, none⟩ (.int .i64 (0))).setCell ⟨v1.heap.size, 1, none⟩ (.int .i64 (0))).setCell ⟨v1.heap.size, 2, none⟩ (.int .i64 (0))).setCell ⟨v1.heap.size, 3, none⟩ (.int .i64 (0))).setCell ⟨v1.heap.size, 4, none⟩ (.int .i64 (0))) #[.int .i64 (0), .int .i64 (0), .int .i64 (0), .int .i64 (0), .int .i64 (0)] 37 [(0, 0, 0, 0, 0)] rfl
                have hz67 : v6.heap.size + 1 = ((((((v6.setCell ⟨v1.heap.size, 0, none⟩ (.int .i64 (0))).setCell ⟨v1.heap.size, 1, none⟩ (.int .i64 (0))).setCell ⟨v1.heap.size, 2, none⟩ (.int .i64 (0))).setCell ⟨v1.heap.size, 3, none⟩ (.int .i64 (0))).setCell ⟨v1.heap.size, 4, none⟩ (.int .i64 (0))).alloc (.cells #[.int .i64 (0), .int .i64 (0), .int .i64 (0), .int .i64 (0), .int .i64 (0)] 37)).heap.size := by simp only [World.size_alloc] <;> omega
                have hA7 := (Below.refl (((((v6.setCell ⟨v1.heap.size, 0, none⟩ (.int .i64 (0))).setCell ⟨v1.heap.size, 1, none⟩ (.int .i64 (0))).setCell ⟨v1.heap.size, 2, none⟩ (.int .i64 (0))).setCell ⟨v1.heap.size, 3, none⟩ (.int .i64 (0))).setCell ⟨v1.heap.size, 4, none⟩ (.int .i64 (0))).heap.size (((((v6.setCell ⟨v1.heap.size, 0, none⟩ (.int .i64 (0))).setCell ⟨v1.heap.size, 1, none⟩ (.int .i64 (0))).setCell ⟨v1.heap.size, 2, none⟩ (.int .i64 (0))).setCell ⟨v1.heap.size, 3, none⟩ (.int .i64 (0))).setCell ⟨v1.heap.size, 4, none⟩ (.int .i64 (0)))).alloc (Nat.le_refl _) (.cells #[.int .i64 (0), .int .i64 (0), .int .i64 (0), .int .i64 (0), .int .i64 (0)] 37)
                have hr8 := hr7.below hA7 (by have := hr6.lt; omega)
                have ho8 := ho7.trans ((Only.of_below hA7).mono (by omega))
                have hw8 := hw7.below hA7 (Nat.le_refl _)
                have hn8 := hn7.below hA7 (Nat.le_refl _)
                rw [hz7] at hsl
                have hslh := hide hsl
                have hz67h := hide hz67
                clear hsl hz67 hz7 hA7 hr7 ho7 hw7 hn7
                have hw8h := hide hw8
                have hn8h := hide hn8
                clear hw8 hn8
                go_wp2_with (first
                  | (at_builtin; refine wpList_appG encReq_len (by omega) encReq_one rfl _ _ 118 rfl 37 _ 40 Tryd.underlying118 infoReq rfl w.heap.size _ rs rfl hw8h.out _ _ _ [(0, 0, 0, 0, 0)] _ _ rfl rfl hslh.out ?h2 ?h3 ?_)
                  | fail)
                case h2 => simp [maxLen]; omega
                case h3 => have := hz67h.out; omega
                intro vv v9 hw9 hg9 hb9 hlie
                obtain ⟨A9, c9, rfl, _, _, _⟩ := hw9.form
                have hz6 := hz67h.out
                have ho9 : Only w.heap.size (some g) w v9 := ho8.trans (Only.of_below hb9)
                have hr9 : Rd v9 g (P + 1 + 60 * rs.length + 40) := hr8.below hb9 (by omega)
                have hn9 : Own encI 1 3 v9 (w.heap.size + 1) (.slice (some ⟨w.heap.size + 1, 0, none⟩) 3 3) (ns) := hn8h.out.keep (fun k hk => hg9.block k (by simp [Value.ownBlock] at hk; omega) (fun e => by simp [Value.ownBlock] at hk; exact hdis.out k e.symm (by omega)))
                go_wp2
                go_roundw
                case rel => exact ⟨q, rs ++ [(0, 0, 0, 0, 0)], A9, c9, (ns), by first | rfl | go_num, rfl, hw9, hn9, hns.out, (fun r hr => by rcases List.mem_append.1 hr with h | h; exact hok.out r h; rw [List.mem_singleton.1 h]; exact .inl rfl), (fun k hk => by rcases hlie with e | e; exact hdis.out k (e ▸ hk); have := e.symm.trans hk; injection this with this; omega), by simp; omega, (by refine hr9.mono ?_; simp; omega), ho9⟩
                case measure => simp [intOf] <;> omega
              · have dz : ((p12 : Int) == 0) = false := by simp; omega
                obtain ⟨y0, y1, y2, y3, y4, yf0, yf1, yf2, yf3, yf4⟩ := id hb6
                have hr7 : Rd v6 g (P + 1 + 60 * rs.length + 40) := by (repeat (first | (with_reducible refine Rd.set ?_ (by dsimp only; omega) _) | (with_reducible exact hr6.mono (by omega))))
                have ho7 : Only w.heap.size (some g) w v6 := by (repeat (first | (with_reducible refine Only.setC ?_ (by dsimp only; omega) _) | (with_reducible exact ho6)))
                have hw7 : Own encReq 5 37 v6 w.heap.size (.slice A rs.length c) rs := by (repeat (first | (with_reducible refine Own.setO ?_ (fun k hk => by have h1 := hdis.out k hk; have h2 := hltA.out k hk; dsimp only; omega) _) | (with_reducible exact hw6)))
                have hn7 : Own encI 1 3 v6 (w.heap.size + 1) (.slice (some ⟨w.heap.size + 1, 0, none⟩) 3 3) (ns) := hn6
                have hz7 : v6.heap.size = v6.heap.size := by rfl
                have hz7h := hide hz7
                have hsl := sl_arrQ encReq_len v6 #[.int .i64 ((j : Int) + 1), .int .i64 (1), .int .i64 (1), .int .i64 (0), .int .i64 (0)] 37 [((j : Int) + 1, 1, 1, 0, 0)] rfl
                have hz67 : v6.heap.size + 1 = (v6.alloc (.cells #[.int .i64 ((j : Int) + 1), .int .i64 (1), .int .i64 (1), .int .i64 (0), .int .i64 (0)] 37)).heap.size := by simp only [World.size_alloc] <;> omega
                have hA7 := (Below.refl v6.heap.size v6).alloc (Nat.le_refl _) (.cells #[.int .i64 ((j : Int) + 1), .int .i64 (1), .int .i64 (1), .int .i64 (0), .int .i64 (0)] 37)
                have hr8 := hr7.below hA7 (by have := hr6.lt; omega)
                have ho8 := ho7.trans ((Only.of_below hA7).mono (by omega))
                have hw8 := hw7.below hA7 (Nat.le_refl _)
                have hn8 := hn7.below hA7 (Nat.le_refl _)
                rw [hz7] at hsl
                have hslh := hide hsl
                have hz67h := hide hz67
                clear hsl hz67 hz7 hA7 hr7 ho7 hw7 hn7
                have hw8h := hide hw8
                have hn8h := hide hn8
                clear hw8 hn8
                go_wp2_with (first
                  | (at_builtin; refine wpList_appG encReq_len (by omega) encReq_one rfl _ _ 118 rfl 37 _ 40 Tryd.underlying118 infoReq rfl w.heap.size _ rs rfl hw8h.out _ _ _ [((j : Int) + 1, 1, 1, 0, 0)] _ _ rfl rfl hslh.out ?h2 ?h3 ?_)
                  | fail)
                case h2 => simp [maxLen]; omega
                case h3 => have := hz67h.out; omega
                intro vv v9 hw9 hg9 hb9 hlie
                obtain ⟨A9, c9, rfl, _, _, _⟩ := hw9.form
                have hz6 := hz67h.out
                have ho9 : Only w.heap.size (some g) w v9 := ho8.trans (Only.of_below hb9)
                have hr9 : Rd v9 g (P + 1 + 60 * rs.length + 40) := hr8.below hb9 (by omega)
                have hn9 : Own encI 1 3 v9 (w.heap.size + 1) (.slice (some ⟨w.heap.size + 1, 0, none⟩) 3 3) (ns) := hn8h.out.keep (fun k hk => hg9.block k (by simp [Value.ownBlock] at hk; omega) (fun e => by simp [Value.ownBlock] at hk; exact hdis.out k e.symm (by omega)))
                go_wp2
                go_roundw
                case rel => exact ⟨q, rs ++ [((j : Int) + 1, 1, 1, 0, 0)], A9, c9, (ns), by first | rfl | go_num, rfl, hw9, hn9, hns.out, (fun r hr => by rcases List.mem_append.1 hr with h | h; exact hok.out r h; rw [List.mem_singleton.1 h]; exact .inr (okA_join htah.out)), (fun k hk => by rcases hlie with e | e; exact hdis.out k (e ▸ hk); have := e.symm.trans hk; injection this with this; omega), by simp; omega, (by refine hr9.mono ?_; simp; omega), ho9⟩
                case measure => simp [intOf] <;> omega
            · skip
              have de : (nj == 1) = false := by simp; omega
              have hr5 : Rd (v3.setCell ⟨v1.heap.size, 1, none⟩ (.int .i64 (nj))) g (P + 1 + 60 * rs.length + 21) := by (repeat (first | (with_reducible refine Rd.set ?_ (by dsimp only; omega) _) | (with_reducible exact hr3.mono (by omega))))
              have ho5 : Only w.heap.size (some g) w (v3.setCell ⟨v1.heap.size, 1, none⟩ (.int .i64 (nj))) := by (repeat (first | (with_reducible refine Only.setC ?_ (by dsimp only; omega) _) | (with_reducible exact ho3)))
              have hw5 : Own encReq 5 37 (v3.setCell ⟨v1.heap.size, 1, none⟩ (.int .i64 (nj))) w.heap.size (.slice A rs.length c) rs := by (repeat (first | (with_reducible refine Own.setO ?_ (fun k hk => by have h1 := hdis.out k hk; have h2 := hltA.out k hk; dsimp only; omega) _) | (with_reducible exact hw3)))
              have hn5 : Own encI 1 3 (v3.setCell ⟨v1.heap.size, 1, none⟩ (.int .i64 (nj))) (w.heap.size + 1) (.slice (some ⟨w.heap.size + 1, 0, none⟩) 3 3) (ns) := (hn3).setO (fun k hk => by simp [Value.ownBlock] at hk; dsimp only; omega) _
              have hb5 : Box5 (v3.setCell ⟨v1.heap.size, 1, none⟩ (.int .i64 (nj))) v1.heap.size ((j : Int) + 1) (nj) (to) (tx) (ty) := (hb3.set1 (v := nj))
              have hz5 : v3.heap.size ≤ (v3.setCell ⟨v1.heap.size, 1, none⟩ (.int .i64 (nj))).heap.size := by simp
              have hn5h := hide hn5
              clear hn5
              go_wp2_with fail
              generalize (v3.setCell ⟨v1.heap.size, 1, none⟩ (.int .i64 (nj))) = v5 at *
              refine (pick_c g _ 12 v5 hr5 (by omega) (by omega)).mono ?_
              rintro e v6 ⟨p12, rfl, -, hr6, h6⟩
              have hr6 := hr6.mono (P' := P + 1 + 60 * rs.length + 40) (by omega)
              have ho6 := ho5.trans (h6.mono ho5.size)
              have hw6 := hw5.onl h6 (by omega)
              have hn6 := hn5h.out.onl h6 (by omega)
              have hb6 := hb5.onl h6 (by omega)
              have hz6 := h6.size
              by_cases hp0 : (p12 : Int) = 0
              · have dz : ((p12 : Int) == 0) = true := by rw [hp0]; rfl
                clear hp0
                obtain ⟨y0, y1, y2, y3, y4, yf0, yf1, yf2, yf3, yf4⟩ := id hb6
                have hr7 : Rd (((((v6.setCell ⟨v1.heap.size, 0, none⟩ (.int .i64 (0))).setCell ⟨v1.heap.size, 1, none⟩ (.int .i64 (0))).setCell ⟨v1.heap.size, 2, none⟩ (.int .i64 (0))).setCell ⟨v1.heap.size, 3, none⟩ (.int .i64 (0))).setCell ⟨v1.heap.size, 4, none⟩ (.int .i64 (0))) g (P + 1 + 60 * rs.length + 40) := by (repeat (first | (with_reducible refine Rd.set ?_ (by dsimp only; omega) _) | (with_reducible exact hr6.mono (by omega))))
                have ho7 : Only w.heap.size (some g) w (((((v6.setCell ⟨v1.heap.size, 0, none⟩ (.int .i64 (0))).setCell ⟨v1.heap.size, 1, none⟩ (.int .i64 (0))).setCell ⟨v1.heap.size, 2, none⟩ (.int .i64 (0))).setCell ⟨v1.heap.size, 3, none⟩ (.int .i64 (0))).setCell ⟨v1.heap.size, 4, none⟩ (.int .i64 (0))) := by (repeat (first | (with_reducible refine Only.setC ?_ (by dsimp only; omega) _) | (with_reducible exact ho6)))
                have hw7 : Own encReq 5 37 (((((v6.setCell ⟨v1.heap.size, 0, none⟩ (.int .i64 (0))).setCell ⟨v1.heap.size, 1, none⟩ (.int .i64 (0))).setCell ⟨v1.heap.size, 2, none⟩ (.int .i64 (0))).setCell ⟨v1.heap.size, 3, none⟩ (.int .i64 (0))).setCell ⟨v1.heap.size, 4, none⟩ (.int .i64 (0))) w.heap.size (.slice A rs.length c) rs := by (repeat (first | (with_reducible refine Own.setO ?_ (fun k hk => by have h1 := hdis.out k hk; have h2 := hltA.out k hk; dsimp only; omega) _) | (with_reducible exact hw6)))
                have hn7 : Own encI 1 3 (((((v6.setCell ⟨v1.heap.size, 0, none⟩ (.int .i64 (0))).setCell ⟨v1.heap.size, 1, none⟩ (.int .i64 (0))).setCell ⟨v1.heap.size, 2, none⟩ (.int .i64 (0))).setCell ⟨v1.heap.size, 3, none⟩ (.int .i64 (0))).setCell ⟨v1.heap.size, 4, none⟩ (.int .i64 (0))) (w.heap.size + 1) (.slice (some ⟨w.heap.size + 1, 0, none⟩) 3 3) (ns) := (((((hn6).setO (fun k hk => by simp [Value.ownBlock] at hk; dsimp only; omega) _).setO (fun k hk => by simp [Value.ownBlock] at hk; dsimp only; omega) _).setO (fun k hk => by simp [Value.ownBlock] at hk; dsimp only; omega) _).setO (fun k hk => by simp [Value.ownBlock] at hk; dsimp only; omega) _).setO (fun k hk => by simp [Value.ownBlock] at hk; dsimp only; omega) _
                have hz7 : (((((v6.setCell ⟨v1.heap.size, 0, none⟩ (.int .i64 (0))).setCell ⟨v1.heap.size, 1, none⟩ (.int .i64 (0))).setCell ⟨v1.heap.size, 2, none⟩ (.int .i64 (0))).setCell ⟨v1.heap.size, 3, none⟩ (.int .i64 (0))).setCell ⟨v1.heap.size, 4, none⟩ (.int .i64 (0))).heap.size = v6.heap.size := by simp
                have hz7h := hide hz7
                have hsl := sl_arrQ encReq_len (((((v6.setCell ⟨v1.heap.size, 0, none⟩ (.int .i64 (0))).setCell ⟨v1.heap.size, 1, none⟩ (.int .i64 (0))).setCell ⟨v1.heap.size, 2, none⟩ (.int .i64 (0))).setCell ⟨v1.heap.size, 3, none⟩ (.int .i64 (0))).setCell ⟨v1.heap.size, 4, none⟩ (.int .i64 (0))) #[.int .i64 (0), .int .i64 (0), .int .i64 (0), .int .i64 (0), .int .i64 (0)] 37 [(0, 0, 0, 0, 0)] rfl
                have hz67 : v6.heap.size + 1 = ((((((v6.setCell ⟨v1.heap.size, 0, none⟩ (.int .i64 (0))).setCell ⟨v1.heap.size, 1, none⟩ (.int .i64 (0))).setCell ⟨v1.heap.size, 2, none⟩ (.int .i64 (0))).setCell ⟨v1.heap.size, 3, none⟩ (.int .i64 (0))).setCell ⟨v1.heap.size, 4, none⟩ (.int .i64 (0))).alloc (.cells #[.int .i64 (0), .int .i64 (0), .int .i64 (0), .int .i64 (0), .int .i64 (0)] 37)).heap.size := by simp only [World.size_alloc] <;> omega
                have hA7 := (Below.refl (((((v6.setCell ⟨v1.heap.size, 0, none⟩ (.int .i64 (0))).setCell ⟨v1.heap.size, 1, none⟩ (.int .i64 (0))).setCell ⟨v1.heap.size, 2, none⟩ (.int .i64 (0))).setCell ⟨v1.heap.size, 3, none⟩ (.int .i64 (0))).setCell ⟨v1.heap.size, 4, none⟩ (.int .i64 (0))).heap.size (((((v6.setCell ⟨v1.heap.size, 0, none⟩ (.int .i64 (0))).setCell ⟨v1.heap.size, 1, none⟩ (.int .i64 (0))).setCell ⟨v1.heap.size, 2, none⟩ (.int .i64 (0))).setCell ⟨v1.heap.size, 3, none⟩ (.int .i64 (0))).setCell ⟨v1.heap.size, 4, none⟩ (.int .i64 (0)))).alloc (Nat.le_refl _) (.cells #[.int .i64 (0), .int .i64 (0), .int .i64 (0), .int .i64 (0), .int .i64 (0)] 37)
                have hr8 := hr7.below hA7 (by have := hr6.lt; omega)
                have ho8 := ho7.trans ((Only.of_below hA7).mono (by omega))
                have hw8 := hw7.below hA7 (Nat.le_refl _)
                have hn8 := hn7.below hA7 (Nat.le_refl _)
                rw [hz7] at hsl
                have hslh := hide hsl
                have hz67h := hide hz67
                clear hsl hz67 hz7 hA7 hr7 ho7 hw7 hn7
                have hw8h := hide hw8
                have hn8h := hide hn8
                clear hw8 hn8
                go_wp2_with (first
                  | (at_builtin; refine wpList_appG encReq_len (by omega) encReq_one rfl _ _ 118 rfl 37 _ 40 Tryd.underlying118 infoReq rfl w.heap.size _ rs rfl hw8h.out _ _ _ [(0, 0, 0, 0, 0)] _ _ rfl rfl hslh.out ?h2 ?h3 ?_)
                  | fail)
                case h2 => simp [maxLen]; omega
                case h3 => have := hz67h.out; omega
                intro vv v9 hw9 hg9 hb9 hlie
                obtain ⟨A9, c9, rfl, _, _, _⟩ := hw9.form
                have hz6 := hz67h.out
                have ho9 : Only w.heap.size (some g) w v9 := ho8.trans (Only.of_below hb9)
                have hr9 : Rd v9 g (P + 1 + 60 * rs.length + 40) := hr8.below hb9 (by omega)
                have hn9 : Own encI 1 3 v9 (w.heap.size + 1) (.slice (some ⟨w.heap.size + 1, 0, none⟩) 3 3) (ns) := hn8h.out.keep (fun k hk => hg9.block k (by simp [Value.ownBlock] at hk; omega) (fun e => by simp [Value.ownBlock] at hk; exact hdis.out k e.symm (by omega)))
                go_wp2
                go_roundw
                case rel => exact ⟨q, rs ++ [(0, 0, 0, 0, 0)], A9, c9, (ns), by first | rfl | go_num, rfl, hw9, hn9, hns.out, (fun r hr => by rcases List.mem_append.1 hr with h | h; exact hok.out r h; rw [List.mem_singleton.1 h]; exact .inl rfl), (fun k hk => by rcases hlie with e | e; exact hdis.out k (e ▸ hk); have := e.symm.trans hk; injection this with this; omega), by simp; omega, (by refine hr9.mono ?_; simp; omega), ho9⟩
                case measure => simp [intOf] <;> omega
              · have dz : ((p12 : Int) == 0) = false := by simp; omega
                obtain ⟨y0, y1, y2, y3, y4, yf0, yf1, yf2, yf3, yf4⟩ := id hb6
                have hr7 : Rd v6 g (P + 1 + 60 * rs.length + 40) := by (repeat (first | (with_reducible refine Rd.set ?_ (by dsimp only; omega) _) | (with_reducible exact hr6.mono (by omega))))
                have ho7 : Only w.heap.size (some g) w v6 := by (repeat (first | (with_reducible refine Only.setC ?_ (by dsimp only; omega) _) | (with_reducible exact ho6)))
                have hw7 : Own encReq 5 37 v6 w.heap.size (.slice A rs.length c) rs := by (repeat (first | (with_reducible refine Own.setO ?_ (fun k hk => by have h1 := hdis.out k hk; have h2 := hltA.out k hk; dsimp only; omega) _) | (with_reducible exact hw6)))
                have hn7 : Own encI 1 3 v6 (w.heap.size + 1) (.slice (some ⟨w.heap.size + 1, 0, none⟩) 3 3) (ns) := hn6
                have hz7 : v6.heap.size = v6.heap.size := by rfl
                have hz7h := hide hz7
                have hsl := sl_arrQ encReq_len v6 #[.int .i64 ((j : Int) + 1), .int .i64 (nj), .int .i64 (to), .int .i64 (tx), .int .i64 (ty)] 37 [((j : Int) + 1, nj, to, tx, ty)] rfl
                have hz67 : v6.heap.size + 1 = (v6.alloc (.cells #[.int .i64 ((j : Int) + 1), .int .i64 (nj), .int .i64 (to), .int .i64 (tx), .int .i64 (ty)] 37)).heap.size := by simp only [World.size_alloc] <;> omega
                have hA7 := (Below.refl v6.heap.size v6).alloc (Nat.le_refl _) (.cells #[.int .i64 ((j : Int) + 1), .int .i64 (nj), .int .i64 (to), .int .i64 (tx), .int .i64 (ty)] 37)
                have hr8 := hr7.below hA7 (by have := hr6.lt; omega)
                have ho8 := ho7.trans ((Only.of_below hA7).mono (by omega))
                have hw8 := hw7.below hA7 (Nat.le_refl _)
                have hn8 := hn7.below hA7 (Nat.le_refl _)
                rw [hz7] at hsl
                have hslh := hide hsl
                have hz67h := hide hz67
                clear hsl hz67 hz7 hA7 hr7 ho7 hw7 hn7
                have hw8h := hide hw8
                have hn8h := hide hn8
                clear hw8 hn8
                go_wp2_with (first
                  | (at_builtin; refine wpList_appG encReq_len (by omega) encReq_one rfl _ _ 118 rfl 37 _ 40 Tryd.underlying118 infoReq rfl w.heap.size _ rs rfl hw8h.out _ _ _ [((j : Int) + 1, nj, to, tx, ty)] _ _ rfl rfl hslh.out ?h2 ?h3 ?_)
                  | fail)
                case h2 => simp [maxLen]; omega
                case h3 => have := hz67h.out; omega
                intro vv v9 hw9 hg9 hb9 hlie
                obtain ⟨A9, c9, rfl, _, _, _⟩ := hw9.form
                have hz6 := hz67h.out
                have ho9 : Only w.heap.size (some g) w v9 := ho8.trans (Only.of_below hb9)
                have hr9 : Rd v9 g (P + 1 + 60 * rs.length + 40) := hr8.below hb9 (by omega)
                have hn9 : Own encI 1 3 v9 (w.heap.size + 1) (.slice (some ⟨w.heap.size + 1, 0, none⟩) 3 3) (ns) := hn8h.out.keep (fun k hk => hg9.block k (by simp [Value.ownBlock] at hk; omega) (fun e => by simp [Value.ownBlock] at hk; exact hdis.out k e.symm (by omega)))
                go_wp2
                go_roundw
                case rel => exact ⟨q, rs ++ [((j : Int) + 1, nj, to, tx, ty)], A9, c9, (ns), by first | rfl | go_num, rfl, hw9, hn9, hns.out, (fun r hr => by rcases List.mem_append.1 hr with h | h; exact hok.out r h; rw [List.mem_singleton.1 h]; exact .inr (okA_num htah.out (by omega) (by omega))), (fun k hk => by rcases hlie with e | e; exact hdis.out k (e ▸ hk); have := e.symm.trans hk; injection this with this; omega), by simp; omega, (by refine hr9.mono ?_; simp; omega), ho9⟩
                case measure => simp [intOf] <;> omega
          · have dn : decide (0 < nj) = false := decide_eq_false hpos
            by_cases h1 : tn = 1
            · have de : (tn == 1) = true := by simp; omega
              have h1h := hide h1
              clear h1
              have hr5 : Rd (((((v3.setCell ⟨v1.heap.size, 0, none⟩ (.int .i64 ((j : Int) + 1))).setCell ⟨v1.heap.size, 1, none⟩ (.int .i64 (1))).setCell ⟨v1.heap.size, 2, none⟩ (.int .i64 (1))).setCell ⟨v1.heap.size, 3, none⟩ (.int .i64 (0))).setCell ⟨v1.heap.size, 4, none⟩ (.int .i64 (0))) g (P + 1 + 60 * rs.length + 21) := by (repeat (first | (with_reducible refine Rd.set ?_ (by dsimp only; omega) _) | (with_reducible exact hr3.mono (by omega))))
              have ho5 : Only w.heap.size (some g) w (((((v3.setCell ⟨v1.heap.size, 0, none⟩ (.int .i64 ((j : Int) + 1))).setCell ⟨v1.heap.size, 1, none⟩ (.int .i64 (1))).setCell ⟨v1.heap.size, 2, none⟩ (.int .i64 (1))).setCell ⟨v1.heap.size, 3, none⟩ (.int .i64 (0))).setCell ⟨v1.heap.size, 4, none⟩ (.int .i64 (0))) := by (repeat (first | (with_reducible refine Only.setC ?_ (by dsimp only; omega) _) | (with_reducible exact ho3)))
              have hw5 : Own encReq 5 37 (((((v3.setCell ⟨v1.heap.size, 0, none⟩ (.int .i64 ((j : Int) + 1))).setCell ⟨v1.heap.size, 1, none⟩ (.int .i64 (1))).setCell ⟨v1.heap.size, 2, none⟩ (.int .i64 (1))).setCell ⟨v1.heap.size, 3, none⟩ (.int .i64 (0))).setCell ⟨v1.heap.size, 4, none⟩ (.int .i64 (0))) w.heap.size (.slice A rs.length c) rs := by (repeat (first | (with_reducible refine Own.setO ?_ (fun k hk => by have h1 := hdis.out k hk; have h2 := hltA.out k hk; dsimp only; omega) _) | (with_reducible exact hw3)))
              have hn5 : Own encI 1 3 (((((v3.setCell ⟨v1.heap.size, 0, none⟩ (.int .i64 ((j : Int) + 1))).setCell ⟨v1.heap.size, 1, none⟩ (.int .i64 (1))).setCell ⟨v1.heap.size, 2, none⟩ (.int .i64 (1))).setCell ⟨v1.heap.size, 3, none⟩ (.int .i64 (0))).setCell ⟨v1.heap.size, 4, none⟩ (.int .i64 (0))) (w.heap.size + 1) (.slice (some ⟨w.heap.size + 1, 0, none⟩) 3 3) (ns) := (((((hn3).setO (fun k hk => by simp [Value.ownBlock] at hk; dsimp only; omega) _).setO (fun k hk => by simp [Value.ownBlock] at hk; dsimp only; omega) _).setO (fun k hk => by simp [Value.ownBlock] at hk; dsimp only; omega) _).setO (fun k hk => by simp [Value.ownBlock] at hk; dsimp only; omega) _).setO (fun k hk => by simp [Value.ownBlock] at hk; dsimp only; omega) _
              have hb5 : Box5 (((((v3.setCell ⟨v1.heap.size, 0, none⟩ (.int .i64 ((j : Int) + 1))).setCell ⟨v1.heap.size, 1, none⟩ (.int .i64 (1))).setCell ⟨v1.heap.size, 2, none⟩ (.int .i64 (1))).setCell ⟨v1.heap.size, 3, none⟩ (.int .i64 (0))).setCell ⟨v1.heap.size, 4, none⟩ (.int .i64 (0))) v1.heap.size ((j : Int) + 1) (1) (1) (0) (0) := (((((hb3.set0 (v := (j : Int) + 1)).set1 (v := 1)).set2 (v := 1)).set3 (v := 0)).set4 (v := 0))
              have hz5 : v3.heap.size ≤ (((((v3.setCell ⟨v1.heap.size, 0, none⟩ (.int .i64 ((j : Int) + 1))).setCell ⟨v1.heap.size, 1, none⟩ (.int .i64 (1))).setCell ⟨v1.heap.size, 2, none⟩ (.int .i64 (1))).setCell ⟨v1.heap.size, 3, none⟩ (.int .i64 (0))).setCell ⟨v1.heap.size, 4, none⟩ (.int .i64 (0))).heap.size := by simp
              have hn5h := hide hn5
              clear hn5
              go_wp2_with fail
              generalize (((((v3.setCell ⟨v1.heap.size, 0, none⟩ (.int .i64 ((j : Int) + 1))).setCell ⟨v1.heap.size, 1, none⟩ (.int .i64 (1))).setCell ⟨v1.heap.size, 2, none⟩ (.int .i64 (1))).setCell ⟨v1.heap.size, 3, none⟩ (.int .i64 (0))).setCell ⟨v1.heap.size, 4, none⟩ (.int .i64 (0))) = v5 at *
              refine (pick_c g _ 12 v5 hr5 (by omega) (by omega)).mono ?_
              rintro e v6 ⟨p12, rfl, -, hr6, h6⟩
              have hr6 := hr6.mono (P' := P + 1 + 60 * rs.length + 40) (by omega)
              have ho6 := ho5.trans (h6.mono ho5.size)
              have hw6 := hw5.onl h6 (by omega)
              have hn6 := hn5h.out.onl h6 (by omega)
              have hb6 := hb5.onl h6 (by omega)
              have hz6 := h6.size
              by_cases hp0 : (p12 : Int) = 0
              · have dz : ((p12 : Int) == 0) = true := by rw [hp0]; rfl
                clear hp0
                obtain ⟨y0, y1, y2, y3, y4, yf0, yf1, yf2, yf3, yf4⟩ := id hb6
                have hr7 : Rd (((((v6.setCell ⟨v1.heap.size, 0, none⟩ (.int .i64 (0))).setCell ⟨v1.heap.size, 1, none⟩ (.int .i64 (0))).setCell ⟨v1.heap.size, 2, none⟩ (.int .i64 (0))).setCell ⟨v1.heap.size, 3, none⟩ (.int .i64 (0))).setCell ⟨v1.heap.size, 4, none⟩ (.int .i64 (0))) g (P + 1 + 60 * rs.length + 40) := by (repeat (first | (with_reducible refine Rd.set ?_ (by dsimp only; omega) _) | (with_reducible exact hr6.mono (by omega))))
                have ho7 : Only w.heap.size (some g) w (((((v6.setCell ⟨v1.heap.size, 0, none⟩ (.int .i64 (0))).setCell ⟨v1.heap.size, 1, none⟩ (.int .i64 (0))).setCell ⟨v1.heap.size, 2, none⟩ (.int .i64 (0))).setCell ⟨v1.heap.size, 3, none⟩ (.int .i64 (0))).setCell ⟨v1.heap.size, 4, none⟩ (.int .i64 (0))) := by (repeat (first | (with_reducible refine Only.setC ?_ (by dsimp only; omega) _) | (with_reducible exact ho6)))
                have hw7 : Own encReq 5 37 (((((v6.setCell ⟨v1.heap.size, 0, none⟩ (.int .i64 (0))).setCell ⟨v1.heap.size, 1, none⟩ (.int .i64 (0))).setCell ⟨v1.heap.size, 2, none⟩ (.int .i64 (0))).setCell ⟨v1.heap.size, 3, none⟩ (.int .i64 (0))).setCell ⟨v1.heap.size, 4, none⟩ (.int .i64 (0))) w.heap.size (.slice A rs.length c) rs := by (repeat (first | (with_reducible refine Own.setO ?_ (fun k hk => by have h1 := hdis.out k hk; have h2 := hltA.out k hk; dsimp only; omega) _) | (with_reducible exact hw6)))
                have hn7 : Own encI 1 3 (((((v6.setCell ⟨v1.heap.size, 0, none⟩ (.int .i64 (0))).setCell ⟨v1.heap.size, 1, none⟩ (.int .i64 (0))).setCell ⟨v1.heap.size, 2, none⟩ (.int .i64 (0))).setCell ⟨v1.heap.size, 3, none⟩ (.int .i64 (0))).setCell ⟨v1.heap.size, 4, none⟩ (.int .i64 (0))) (w.heap.size + 1) (.slice (some ⟨w.heap.size + 1, 0, none⟩) 3 3) (ns) := (((((hn6).setO (fun k hk => by simp [Value.ownBlock] at hk; dsimp only; omega) _).setO (fun k hk => by simp [Value.ownBlock] at hk; dsimp only; omega) _).setO (fun k hk => by simp [Value.ownBlock] at hk; dsimp only; omega) _).setO (fun k hk => by simp [Value.ownBlock] at hk; dsimp only; omega) _).setO (fun k hk => by simp [Value.ownBlock] at hk; dsimp only; omega) _
                have hz7 : (((((v6.setCell ⟨v1.heap.size, 0, none⟩ (.int .i64 (0))).setCell ⟨v1.heap.size, 1, none⟩ (.int .i64 (0))).setCell ⟨v1.heap.size, 2, none⟩ (.int .i64 (0))).setCell ⟨v1.heap.size, 3, none⟩ (.int .i64 (0))).setCell ⟨v1.heap.size, 4, none⟩ (.int .i64 (0))).heap.size = v6.heap.size := by simp
                have hz7h := hide hz7
                have hsl := sl_arrQ encReq_len (((((v6.setCell ⟨v1.heap.size, 0, none⟩ (.int .i64 (0))).setCell ⟨v1.heap.size, 1, none⟩ (.int .i64 (0))).setCell ⟨v1.heap.size, 2, none⟩ (.int .i64 (0))).setCell ⟨v1.heap.size, 3, none⟩ (.int .i64 (0))).setCell ⟨v1.heap.size, 4, none⟩ (.int .i64 (0))) #[.int .i64 (0), .int .i64 (0), .int .i64 (0), .int .i64 (0), .int .i64 (0)] 37 [(0, 0, 0, 0, 0)] rfl
                have hz67 : v6.heap.size + 1 = ((((((v6.setCell ⟨v1.heap.size, 0, none⟩ (.int .i64 (0))).setCell ⟨v1.heap.size, 1, none⟩ (.int .i64 (0))).setCell ⟨v1.heap.size, 2, none⟩ (.int .i64 (0))).setCell ⟨v1.heap.size, 3, none⟩ (.int .i64 (0))).setCell ⟨v1.heap.size, 4, none⟩ (.int .i64 (0))).alloc (.cells #[.int .i64 (0), .int .i64 (0), .int .i64 (0), .int .i64 (0), .int .i64 (0)] 37)).heap.size := by simp only [World.size_alloc] <;> omega
                have hA7 := (Below.refl (((((v6.setCell ⟨v1.heap.size, 0, none⟩ (.int .i64 (0))).setCell ⟨v1.heap.size, 1, none⟩ (.int .i64 (0))).setCell ⟨v1.heap.size, 2, none⟩ (.int .i64 (0))).setCell ⟨v1.heap.size, 3, none⟩ (.int .i64 (0))).setCell ⟨v1.heap.size, 4, none⟩ (.int .i64 (0))).heap.size (((((v6.setCell ⟨v1.heap.size, 0, none⟩ (.int .i64 (0))).setCell ⟨v1.heap.size, 1, none⟩ (.int .i64 (0))).setCell ⟨v1.heap.size, 2, none⟩ (.int .i64 (0))).setCell ⟨v1.heap.size, 3, none⟩ (.int .i64 (0))).setCell ⟨v1.heap.size, 4, none⟩ (.int .i64 (0)))).alloc (Nat.le_refl _) (.cells #[.int .i64 (0), .int .i64 (0), .int .i64 (0), .int .i64 (0), .int .i64 (0)] 37)
                have hr8 := hr7.below hA7 (by have := hr6.lt; omega)
                have ho8 := ho7.trans ((Only.of_below hA7).mono (by omega))
                have hw8 := hw7.below hA7 (Nat.le_refl _)
                have hn8 := hn7.below hA7 (Nat.le_refl _)
                rw [hz7] at hsl
                have hslh := hide hsl
                have hz67h := hide hz67
                clear hsl hz67 hz7 hA7 hr7 ho7 hw7 hn7
                have hw8h := hide hw8
                have hn8h := hide hn8
                clear hw8 hn8
                go_wp2_with (first
                  | (at_builtin; refine wpList_appG encReq_len (by omega) encReq_one rfl _ _ 118 rfl 37 _ 40 Tryd.underlying118 infoReq rfl w.heap.size _ rs rfl hw8h.out _ _ _ [(0, 0, 0, 0, 0)] _ _ rfl rfl hslh.out ?h2 ?h3 ?_)
                  | fail)
                case h2 => simp [maxLen]; omega
                case h3 => have := hz67h.out; omega
                intro vv v9 hw9 hg9 hb9 hlie
                obtain ⟨A9, c9, rfl, _, _, _⟩ := hw9.form
                have hz6 := hz67h.out
                have ho9 : Only w.heap.size (some g) w v9 := ho8.trans (Only.of_below hb9)
                have hr9 : Rd v9 g (P + 1 + 60 * rs.length + 40) := hr8.below hb9 (by omega)
                have hn9 : Own encI 1 3 v9 (w.heap.size + 1) (.slice (some ⟨w.heap.size + 1, 0, none⟩) 3 3) (ns) := hn8h.out.keep (fun k hk => hg9.block k (by simp [Value.ownBlock] at hk; omega) (fun e => by simp [Value.ownBlock] at hk; exact hdis.out k e.symm (by omega)))
                go_wp2
                go_roundw
                case rel => exact ⟨q, rs ++ [(0, 0, 0, 0, 0)], A9, c9, (ns), by first | rfl | go_num, rfl, hw9, hn9, hns.out, (fun r hr => by rcases List.mem_append.1 hr with h | h; exact hok.out r h; rw [List.mem_singleton.1 h]; exact .inl rfl), (fun k hk => by rcases hlie with e | e; exact hdis.out k (e ▸ hk); have := e.symm.trans hk; injection this with this; omega), by simp; omega, (by refine hr9.mono ?_; simp; omega), ho9⟩
                case measure => simp [intOf] <;> omega
              · have dz : ((p12 : Int) == 0) = false := by simp; omega
                obtain ⟨y0, y1, y2, y3, y4, yf0, yf1, yf2, yf3, yf4⟩ := id hb6
                have hr7 : Rd v6 g (P + 1 + 60 * rs.length + 40) := by (repeat (first | (with_reducible refine Rd.set ?_ (by dsimp only; omega) _) | (with_reducible exact hr6.mono (by omega))))
                have ho7 : Only w.heap.size (some g) w v6 := by (repeat (first | (with_reducible refine Only.setC ?_ (by dsimp only; omega) _) | (with_reducible exact ho6)))
                have hw7 : Own encReq 5 37 v6 w.heap.size (.slice A rs.length c) rs := by (repeat (first | (with_reducible refine Own.setO ?_ (fun k hk => by have h1 := hdis.out k hk; have h2 := hltA.out k hk; dsimp only; omega) _) | (with_reducible exact hw6)))
                have hn7 : Own encI 1 3 v6 (w.heap.size + 1) (.slice (some ⟨w.heap.size + 1, 0, none⟩) 3 3) (ns) := hn6
                have hz7 : v6.heap.size = v6.heap.size := by rfl
                have hz7h := hide hz7
                have hsl := sl_arrQ encReq_len v6 #[.int .i64 ((j : Int) + 1), .int .i64 (1), .int .i64 (1), .int .i64 (0), .int .i64 (0)] 37 [((j : Int) + 1, 1, 1, 0, 0)] rfl
                have hz67 : v6.heap.size + 1 = (v6.alloc (.cells #[.int .i64 ((j : Int) + 1), .int .i64 (1), .int .i64 (1), .int .i64 (0), .int .i64 (0)] 37)).heap.size := by simp only [World.size_alloc] <;> omega
                have hA7 := (Below.refl v6.heap.size v6).alloc (Nat.le_refl _) (.cells #[.int .i64 ((j : Int) + 1), .int .i64 (1), .int .i64 (1), .int .i64 (0), .int .i64 (0)] 37)
                have hr8 := hr7.below hA7 (by have := hr6.lt; omega)
                have ho8 := ho7.trans ((Only.of_below hA7).mono (by omega))
                have hw8 := hw7.below hA7 (Nat.le_refl _)
                have hn8 := hn7.below hA7 (Nat.le_refl _)
                rw [hz7] at hsl
                have hslh := hide hsl
                have hz67h := hide hz67
                clear hsl hz67 hz7 hA7 hr7 ho7 hw7 hn7
                have hw8h := hide hw8
                have hn8h := hide hn8
                clear hw8 hn8
                go_wp2_with (first
                  | (at_builtin; refine wpList_appG encReq_len (by omega) encReq_one rfl _ _ 118 rfl 37 _ 40 Tryd.underlying118 infoReq rfl w.heap.size _ rs rfl hw8h.out _ _ _ [((j : Int) + 1, 1, 1, 0, 0)] _ _ rfl rfl hslh.out ?h2 ?h3 ?_)
                  | fail)
                case h2 => simp [maxLen]; omega
                case h3 => have := hz67h.out; omega
                intro vv v9 hw9 hg9 hb9 hlie
                obtain ⟨A9, c9, rfl, _, _, _⟩ := hw9.form
                have hz6 := hz67h.out
                have ho9 : Only w.heap.size (some g) w v9 := ho8.trans (Only.of_below hb9)
                have hr9 : Rd v9 g (P + 1 + 60 * rs.length + 40) := hr8.below hb9 (by omega)
                have hn9 : Own encI 1 3 v9 (w.heap.size + 1) (.slice (some ⟨w.heap.size + 1, 0, none⟩) 3 3) (ns) := hn8h.out.keep (fun k hk => hg9.block k (by simp [Value.ownBlock] at hk; omega) (fun e => by simp [Value.ownBlock] at hk; exact hdis.out k e.symm (by omega)))
                go_wp2
                go_roundw
                case rel => exact ⟨q, rs ++ [((j : Int) + 1, 1, 1, 0, 0)], A9, c9, (ns), by first | rfl | go_num, rfl, hw9, hn9, hns.out, (fun r hr => by rcases List.mem_append.1 hr with h | h; exact hok.out r h; rw [List.mem_singleton.1 h]; exact .inr (okA_join htah.out)), (fun k hk => by rcases hlie with e | e; exact hdis.out k (e ▸ hk); have := e.symm.trans hk; injection this with this; omega), by simp; omega, (by refine hr9.mono ?_; simp; omega), ho9⟩
                case measure => simp [intOf] <;> omega
            · skip
              have de : (tn == 1) = false := by simp; omega
              have hr5 : Rd v3 g (P + 1 + 60 * rs.length + 21) := by (repeat (first | (with_reducible refine Rd.set ?_ (by dsimp only; omega) _) | (with_reducible exact hr3.mono (by omega))))
              have ho5 : Only w.heap.size (some g) w v3 := by (repeat (first | (with_reducible refine Only.setC ?_ (by dsimp only; omega) _) | (with_reducible exact ho3)))
              have hw5 : Own encReq 5 37 v3 w.heap.size (.slice A rs.length c) rs := by (repeat (first | (with_reducible refine Own.setO ?_ (fun k hk => by have h1 := hdis.out k hk; have h2 := hltA.out k hk; dsimp only; omega) _) | (with_reducible exact hw3)))
              have hn5 : Own encI 1 3 v3 (w.heap.size + 1) (.slice (some ⟨w.heap.size + 1, 0, none⟩) 3 3) (ns) := hn3
              have hb5 : Box5 v3 v1.heap.size ((j : Int) + 1) (tn) (to) (tx) (ty) := hb3
              have hz5 : v3.heap.size ≤ v3.heap.size := by simp
              have hn5h := hide hn5
              clear hn5
              go_wp2_with fail
              refine (pick_c g _ 12 v3 hr5 (by omega) (by omega)).mono ?_
              rintro e v6 ⟨p12, rfl, -, hr6, h6⟩
              have hr6 := hr6.mono (P' := P + 1 + 60 * rs.length + 40) (by omega)
              have ho6 := ho5.trans (h6.mono ho5.size)
              have hw6 := hw5.onl h6 (by omega)
              have hn6 := hn5h.out.onl h6 (by omega)
              have hb6 := hb5.onl h6 (by omega)
              have hz6 := h6.size
              by_cases hp0 : (p12 : Int) = 0
              · have dz : ((p12 : Int) == 0) = true := by rw [hp0]; rfl
                clear hp0
                obtain ⟨y0, y1, y2, y3, y4, yf0, yf1, yf2, yf3, yf4⟩ := id hb6
                have hr7 : Rd (((((v6.setCell ⟨v1.heap.size, 0, none⟩ (.int .i64 (0))).setCell ⟨v1.heap.size, 1, none⟩ (.int .i64 (0))).setCell ⟨v1.heap.size, 2, none⟩ (.int .i64 (0))).setCell ⟨v1.heap.size, 3, none⟩ (.int .i64 (0))).setCell ⟨v1.heap.size, 4, none⟩ (.int .i64 (0))) g (P + 1 + 60 * rs.length + 40) := by (repeat (first | (with_reducible refine Rd.set ?_ (by dsimp only; omega) _) | (with_reducible exact hr6.mono (by omega))))
                have ho7 : Only w.heap.size (some g) w (((((v6.setCell ⟨v1.heap.size, 0, none⟩ (.int .i64 (0))).setCell ⟨v1.heap.size, 1, none⟩ (.int .i64 (0))).setCell ⟨v1.heap.size, 2, none⟩ (.int .i64 (0))).setCell ⟨v1.heap.size, 3, none⟩ (.int .i64 (0))).setCell ⟨v1.heap.size, 4, none⟩ (.int .i64 (0))) := by (repeat (first | (with_reducible refine Only.setC ?_ (by dsimp only; omega) _) | (with_reducible exact ho6)))
                have hw7 : Own encReq 5 37 (((((v6.setCell ⟨v1.heap.size, 0, none⟩ (.int .i64 (0))).setCell ⟨v1.heap.size, 1, none⟩ (.int .i64 (0))).setCell ⟨v1.heap.size, 2, none⟩ (.int .i64 (0))).setCell ⟨v1.heap.size, 3, none⟩ (.int .i64 (0))).setCell ⟨v1.heap.size, 4, none⟩ (.int .i64 (0))) w.heap.size (.slice A rs.length c) rs := by (repeat (first | (with_reducible refine Own.setO ?_ (fun k hk => by have h1 := hdis.out k hk; have h2 := hltA.out k hk; dsimp only; omega) _) | (with_reducible exact hw6)))
                have hn7 : Own encI 1 3 (((((v6.setCell ⟨v1.heap.size, 0, none⟩ (.int .i64 (0))).setCell ⟨v1.heap.size, 1, none⟩ (.int .i64 (0))).setCell ⟨v1.heap.size, 2, none⟩ (.int .i64 (0))).setCell ⟨v1.heap.size, 3, none⟩ (.int .i64 (0))).setCell ⟨v1.heap.size, 4, none⟩ (.int .i64 (0))) (w.heap.size + 1) (.slice (some ⟨w.heap.size + 1, 0, none⟩) 3 3) (ns) := (((((hn6).setO (fun k hk => by simp [Value.ownBlock] at hk; dsimp only; omega) _).setO (fun k hk => by simp [Value.ownBlock] at hk; dsimp only; omega) _).setO (fun k hk => by simp [Value.ownBlock] at hk; dsimp only; omega) _).setO (fun k hk => by simp [Value.ownBlock] at hk; dsimp only; omega) _).setO (fun k hk => by simp [Value.ownBlock] at hk; dsimp only; omega) _
                have hz7 : (((((v6.setCell ⟨v1.heap.size, 0, none⟩ (.int .i64 (0))).setCell ⟨v1.heap.size, 1, none⟩ (.int .i64 (0))).setCell ⟨v1.heap.size, 2, none⟩ (.int .i64 (0))).setCell ⟨v1.heap.size, 3, none⟩ (.int .i64 (0))).setCell ⟨v1.heap.size, 4, none⟩ (.int .i64 (0))).heap.size = v6.heap.size := by simp
                have hz7h := hide hz7
                have hsl := sl_arrQ encReq_len (((((v6.setCell ⟨v1.heap.size, 0, none⟩ (.int .i64 (0))).setCell ⟨v1.heap.size, 1, none⟩ (.int .i64 (0))).setCell ⟨v1.heap.size, 2, none⟩ (.int .i64 (0))).setCell ⟨v1.heap.size, 3, none⟩ (.int .i64 (0))).setCell ⟨v1.heap.size, 4, none⟩ (.int .i64 (0))) #[.int .i64 (0), .int .i64 (0), .int .i64 (0), .int .i64 (0), .int .i64 (0)] 37 [(0, 0, 0, 0, 0)] rfl
                have hz67 : v6.heap.size + 1 = ((((((v6.setCell ⟨v1.heap.size, 0, none⟩ (.int .i64 (0))).setCell ⟨v1.heap.size, 1, none⟩ (.int .i64 (0))).setCell ⟨v1.heap.size, 2, none⟩ (.int .i64 (0))).setCell ⟨v1.heap.size, 3, none⟩ (.int .i64 (0))).setCell ⟨v1.heap.size, 4, none⟩ (.int .i64 (0))).alloc (.cells #[.int .i64 (0), .int .i64 (0), .int .i64 (0), .int .i64 (0), .int .i64 (0)] 37)).heap.size := by simp only [World.size_alloc] <;> omega
                have hA7 := (Below.refl (((((v6.setCell ⟨v1.heap.size, 0, none⟩ (.int .i64 (0))).setCell ⟨v1.heap.size, 1, none⟩ (.int .i64 (0))).setCell ⟨v1.heap.size, 2, none⟩ (.int .i64 (0))).setCell ⟨v1.heap.size, 3, none⟩ (.int .i64 (0))).setCell ⟨v1.heap.size, 4, none⟩ (.int .i64 (0))).heap.size (((((v6.setCell ⟨v1.heap.size, 0, none⟩ (.int .i64 (0))).setCell ⟨v1.heap.size, 1, none⟩ (.int .i64 (0))).setCell ⟨v1.heap.size, 2, none⟩ (.int .i64 (0))).setCell ⟨v1.heap.size, 3, none⟩ (.int .i64 (0))).setCell ⟨v1.heap.size, 4, none⟩ (.int .i64 (0)))).alloc (Nat.le_refl _) (.cells #[.int .i64 (0), .int .i64 (0), .int .i64 (0), .int .i64 (0), .int .i64 (0)] 37)
                have hr8 := hr7.below hA7 (by have := hr6.lt; omega)
                have ho8 := ho7.trans ((Only.of_below hA7).mono (by omega))
                have hw8 := hw7.below hA7 (Nat.le_refl _)
                have hn8 := hn7.below hA7 (Nat.le_refl _)
                rw [hz7] at hsl
                have hslh := hide hsl
                have hz67h := hide hz67
                clear hsl hz67 hz7 hA7 hr7 ho7 hw7 hn7
                have hw8h := hide hw8
                have hn8h := hide hn8
                clear hw8 hn8
                go_wp2_with (first
                  | (at_builtin; refine wpList_appG encReq_len (by omega) encReq_one rfl _ _ 118 rfl 37 _ 40 Tryd.underlying118 infoReq rfl w.heap.size _ rs rfl hw8h.out _ _ _ [(0, 0, 0, 0, 0)] _ _ rfl rfl hslh.out ?h2 ?h3 ?_)
                  | fail)
                case h2 => simp [maxLen]; omega
                case h3 => have := hz67h.out; omega
                intro vv v9 hw9 hg9 hb9 hlie
                obtain ⟨A9, c9, rfl, _, _, _⟩ := hw9.form
                have hz6 := hz67h.out
                have ho9 : Only w.heap.size (some g) w v9 := ho8.trans (Only.of_below hb9)
                have hr9 : Rd v9 g (P + 1 + 60 * rs.length + 40) := hr8.below hb9 (by omega)
                have hn9 : Own encI 1 3 v9 (w.heap.size + 1) (.slice (some ⟨w.heap.size + 1, 0, none⟩) 3 3) (ns) := hn8h.out.keep (fun k hk => hg9.block k (by simp [Value.ownBlock] at hk; omega) (fun e => by simp [Value.ownBlock] at hk; exact hdis.out k e.symm (by omega)))
                go_wp2
                go_roundw
                case rel => exact ⟨q, rs ++ [(0, 0, 0, 0, 0)], A9, c9, (ns), by first | rfl | go_num, rfl, hw9, hn9, hns.out, (fun r hr => by rcases List.mem_append.1 hr with h | h; exact hok.out r h; rw [List.mem_singleton.1 h]; exact .inl rfl), (fun k hk => by rcases hlie with e | e; exact hdis.out k (e ▸ hk); have := e.symm.trans hk; injection this with this; omega), by simp; omega, (by refine hr9.mono ?_; simp; omega), ho9⟩
                case measure => simp [intOf] <;> omega
              · have dz : ((p12 : Int) == 0) = false := by simp; omega
                obtain ⟨y0, y1, y2, y3, y4, yf0, yf1, yf2, yf3, yf4⟩ := id hb6
                have hr7 : Rd v6 g (P + 1 + 60 * rs.length + 40) := by (repeat (first | (with_reducible refine Rd.set ?_ (by dsimp only; omega) _) | (with_reducible exact hr6.mono (by omega))))
                have ho7 : Only w.heap.size (some g) w v6 := by (repeat (first | (with_reducible refine Only.setC ?_ (by dsimp only; omega) _) | (with_reducible exact ho6)))
                have hw7 : Own encReq 5 37 v6 w.heap.size (.slice A rs.length c) rs := by (repeat (first | (with_reducible refine Own.setO ?_ (fun k hk => by have h1 := hdis.out k hk; have h2 := hltA.out k hk; dsimp only; omega) _) | (with_reducible exact hw6)))
                have hn7 : Own encI 1 3 v6 (w.heap.size + 1) (.slice (some ⟨w.heap.size + 1, 0, none⟩) 3 3) (ns) := hn6
                have hz7 : v6.heap.size = v6.heap.size := by rfl
                have hz7h := hide hz7
                have hsl := sl_arrQ encReq_len v6 #[.int .i64 ((j : Int) + 1), .int .i64 (tn), .int .i64 (to), .int .i64 (tx), .int .i64 (ty)] 37 [((j : Int) + 1, tn, to, tx, ty)] rfl
                have hz67 : v6.heap.size + 1 = (v6.alloc (.cells #[.int .i64 ((j : Int) + 1), .int .i64 (tn), .int .i64 (to), .int .i64 (tx), .int .i64 (ty)] 37)).heap.size := by simp only [World.size_alloc] <;> omega
                have hA7 := (Below.refl v6.heap.size v6).alloc (Nat.le_refl _) (.cells #[.int .i64 ((j : Int) + 1), .int .i64 (tn), .int .i64 (to), .int .i64 (tx), .int .i64 (ty)] 37)
                have hr8 := hr7.below hA7 (by have := hr6.lt; omega)
                have ho8 := ho7.trans ((Only.of_below hA7).mono (by omega))
                have hw8 := hw7.below hA7 (Nat.le_refl _)
                have hn8 := hn7.below hA7 (Nat.le_refl _)
                rw [hz7] at hsl
                have hslh := hide hsl
                have hz67h := hide hz67
                clear hsl hz67 hz7 hA7 hr7 ho7 hw7 hn7
                have hw8h := hide hw8
                have hn8h := hide hn8
                clear hw8 hn8
                go_wp2_with (first
                  | (at_builtin; refine wpList_appG encReq_len (by omega) encReq_one rfl _ _ 118 rfl 37 _ 40 Tryd.underlying118 infoReq rfl w.heap.size _ rs rfl hw8h.out _ _ _ [((j : Int) + 1, tn, to, tx, ty)] _ _ rfl rfl hslh.out ?h2 ?h3 ?_)
                  | fail)
                case h2 => simp [maxLen]; omega
                case h3 => have := hz67h.out; omega
                intro vv v9 hw9 hg9 hb9 hlie
                obtain ⟨A9, c9, rfl, _, _, _⟩ := hw9.form
                have hz6 := hz67h.out
                have ho9 : Only w.heap.size (some g) w v9 := ho8.trans (Only.of_below hb9)
                have hr9 : Rd v9 g (P + 1 + 60 * rs.length + 40) := hr8.below hb9 (by omega)
                have hn9 : Own encI 1 3 v9 (w.heap.size + 1) (.slice (some ⟨w.heap.size + 1, 0, none⟩) 3 3) (ns) := hn8h.out.keep (fun k hk => hg9.block k (by simp [Value.ownBlock] at hk; omega) (fun e => by simp [Value.ownBlock] at hk; exact hdis.out k e.symm (by omega)))
                go_wp2
                go_roundw
                case rel => exact ⟨q, rs ++ [((j : Int) + 1, tn, to, tx, ty)], A9, c9, (ns), by first | rfl | go_num, rfl, hw9, hn9, hns.out, (fun r hr => by rcases List.mem_append.1 hr with h | h; exact hok.out r h; rw [List.mem_singleton.1 h]; exact .inr (htah.out)), (fun k hk => by rcases hlie with e | e; exact hdis.out k (e ▸ hk); have := e.symm.trans hk; injection this with this; omega), by simp; omega, (by refine hr9.mono ?_; simp; omega), ho9⟩
                case measure => simp [intOf] <;> omega
      · have d30 : decide (nj < 30) = false := decide_eq_false h30
        have dn : decide (0 < nj) = true := decide_eq_true (by omega)
        clear hr2 ho2 hb2 hz2 y0 y1 y2 y3 y4 yf0 yf1 yf2 yf3 yf4
        have hAn := (Below.refl v1.heap.size v1).alloc (Nat.le_refl _) (.cells #[.int .i64 ((j : Int) + 1), .int .i64 nj, .int .i64 to, .int .i64 tx, .int .i64 ty] 37)
        have hrn := hv1.out.1.keep hAn
        have hon := hv1.out.2.1.trans ((Only.of_below hAn).mono (by omega))
        have hwn := hv1.out.2.2.1.below hAn (Nat.le_refl _)
        have hnn := hv1.out.2.2.2.below hAn (Nat.le_refl _)
        have hbn := Box5.made v1 ((j : Int) + 1) nj to tx ty 37
        have hzn : v1.heap.size + 1 ≤ (v1.alloc (.cells #[.int .i64 ((j : Int) + 1), .int .i64 nj, .int .i64 to, .int .i64 tx, .int .i64 ty] 37)).heap.size := by simp only [World.size_alloc]; omega
        obtain ⟨y0, y1, y2, y3, y4, yf0, yf1, yf2, yf3, yf4⟩ : (v1.alloc (.cells #[.int .i64 ((j : Int) + 1), .int .i64 tn, .int .i64 to, .int .i64 tx, .int .i64 ty] 37)).cell? ⟨v1.heap.size, 0, none⟩ = some (.int .i64 ((j : Int) + 1)) ∧ (v1.alloc (.cells #[.int .i64 ((j : Int) + 1), .int .i64 tn, .int .i64 to, .int .i64 tx, .int .i64 ty] 37)).cell? ⟨v1.heap.size, 1, none⟩ = some (.int .i64 tn) ∧ (v1.alloc (.cells #[.int .i64 ((j : Int) + 1), .int .i64 tn, .int .i64 to, .int .i64 tx, .int .i64 ty] 37)).cell? ⟨v1.heap.size, 2, none⟩ = some (.int .i64 to) ∧ (v1.alloc (.cells #[.int .i64 ((j : Int) + 1), .int .i64 tn, .int .i64 to, .int .i64 tx, .int .i64 ty] 37)).cell? ⟨v1.heap.size, 3, none⟩ = some (.int .i64 tx) ∧ (v1.alloc (.cells #[.int .i64 ((j : Int) + 1), .int .i64 tn, .int .i64 to, .int .i64 tx, .int .i64 ty] 37)).cell? ⟨v1.heap.size, 4, none⟩ = some (.int .i64 ty) ∧ True ∧ True ∧ True ∧ True ∧ True := by simp
        have de : (nj == 1) = false := by simp; omega
        have hr5 : Rd (v1.alloc (.cells #[.int .i64 ((j : Int) + 1), .int .i64 nj, .int .i64 to, .int .i64 tx, .int .i64 ty] 37)) g (P + 1 + 60 * rs.length + 21) := by (repeat (first | (with_reducible refine Rd.set ?_ (by dsimp only; omega) _) | (with_reducible exact hrn.mono (by omega))))
        have ho5 : Only w.heap.size (some g) w (v1.alloc (.cells #[.int .i64 ((j : Int) + 1), .int .i64 nj, .int .i64 to, .int .i64 tx, .int .i64 ty] 37)) := by (repeat (first | (with_reducible refine Only.setC ?_ (by dsimp only; omega) _) | (with_reducible exact hon)))
        have hw5 : Own encReq 5 37 (v1.alloc (.cells #[.int .i64 ((j : Int) + 1), .int .i64 nj, .int .i64 to, .int .i64 tx, .int .i64 ty] 37)) w.heap.size (.slice A rs.length c) rs := by (repeat (first | (with_reducible refine Own.setO ?_ (fun k hk => by have h1 := hdis.out k hk; have h2 := hltA.out k hk; dsimp only; omega) _) | (with_reducible exact hwn)))
        have hn5 : Own encI 1 3 (v1.alloc (.cells #[.int .i64 ((j : Int) + 1), .int .i64 nj, .int .i64 to, .int .i64 tx, .int .i64 ty] 37)) (w.heap.size + 1) (.slice (some ⟨w.heap.size + 1, 0, none⟩) 3 3) (ns) := hnn
        have hb5 : Box5 (v1.alloc (.cells #[.int .i64 ((j : Int) + 1), .int .i64 nj, .int .i64 to, .int .i64 tx, .int .i64 ty] 37)) v1.heap.size ((j : Int) + 1) (nj) (to) (tx) (ty) := hbn
        have hz5 : (v1.alloc (.cells #[.int .i64 ((j : Int) + 1), .int .i64 nj, .int .i64 to, .int .i64 tx, .int .i64 ty] 37)).heap.size ≤ (v1.alloc (.cells #[.int .i64 ((j : Int) + 1), .int .i64 nj, .int .i64 to, .int .i64 tx, .int .i64 ty] 37)).heap.size := by simp
        have hn5h := hide hn5
        clear hn5
        go_wp2_with fail
        refine (pick_c g _ 12 (v1.alloc (.cells #[.int .i64 ((j : Int) + 1), .int .i64 nj, .int .i64 to, .int .i64 tx, .int .i64 ty] 37)) hr5 (by omega) (by omega)).mono ?_
        rintro e v6 ⟨p12, rfl, -, hr6, h6⟩
        have hr6 := hr6.mono (P' := P + 1 + 60 * rs.length + 40) (by omega)
        have ho6 := ho5.trans (h6.mono ho5.size)
        have hw6 := hw5.onl h6 (by omega)
        have hn6 := hn5h.out.onl h6 (by omega)
        have hb6 := hb5.onl h6 (by omega)
        have hz6 := h6.size
        by_cases hp0 : (p12 : Int) = 0
        · have dz : ((p12 : Int) == 0) = true := by rw [hp0]; rfl
          clear hp0
          obtain ⟨y0, y1, y2, y3, y4, yf0, yf1, yf2, yf3, yf4⟩ := id hb6
          have hr7 : Rd (((((v6.setCell ⟨v1.heap.size, 0, none⟩ (.int .i64 (0))).setCell ⟨v1.heap.size, 1, none⟩ (.int .i64 (0))).setCell ⟨v1.heap.size, 2, none⟩ (.int .i64 (0))).setCell ⟨v1.heap.size, 3, none⟩ (.int .i64 (0))).setCell ⟨v1.heap.size, 4, none⟩ (.int .i64 (0))) g (P + 1 + 60 * rs.length + 40) := by (repeat (first | (with_reducible refine Rd.set ?_ (by dsimp only; omega) _) | (with_reducible exact hr6.mono (by omega))))
          have ho7 : Only w.heap.size (some g) w (((((v6.setCell ⟨v1.heap.size, 0, none⟩ (.int .i64 (0))).setCell ⟨v1.heap.size, 1, none⟩ (.int .i64 (0))).setCell ⟨v1.heap.size, 2, none⟩ (.int .i64 (0))).setCell ⟨v1.heap.size, 3, none⟩ (.int .i64 (0))).setCell ⟨v1.heap.size, 4, none⟩ (.int .i64 (0))) := by (repeat (first | (with_reducible refine Only.setC ?_ (by dsimp only; omega) _) | (with_reducible exact ho6)))
          have hw7 : Own encReq 5 37 (((((v6.setCell ⟨v1.heap.size, 0, none⟩ (.int .i64 (0))).setCell ⟨v1.heap.size, 1, none⟩ (.int .i64 (0))).setCell ⟨v1.heap.size, 2, none⟩ (.int .i64 (0))).setCell ⟨v1.heap.size, 3, none⟩ (.int .i64 (0))).setCell ⟨v1.heap.size, 4, none⟩ (.int .i64 (0))) w.heap.size (.slice A rs.length c) rs := by (repeat (first | (with_reducible refine Own.setO ?_ (fun k hk => by have h1 := hdis.out k hk; have h2 := hltA.out k hk; dsimp only; omega) _) | (with_reducible exact hw6)))
          have hn7 : Own encI 1 3 (((((v6.setCell ⟨v1.heap.size, 0, none⟩ (.int .i64 (0))).setCell ⟨v1.heap.size, 1, none⟩ (.int .i64 (0))).setCell ⟨v1.heap.size, 2, none⟩ (.int .i64 (0))).setCell ⟨v1.heap.size, 3, none⟩ (.int .i64 (0))).setCell ⟨v1.heap.size, 4, none⟩ (.int .i64 (0))) (w.heap.size + 1) (.slice (some ⟨w.heap.size + 1, 0, none⟩) 3 3) (ns) := (((((hn6).setO (fun k hk => by simp [Value.ownBlock] at hk; dsimp only; omega) _).setO (fun k hk => by simp [Value.ownBlock] at hk; dsimp only; omega) _).setO (fun k hk => by simp [Value.ownBlock] at hk; dsimp only; omega) _).setO (fun k hk => by simp [Value.ownBlock] at hk; dsimp only; omega) _).setO (fun k hk => by simp [Value.ownBlock] at hk; dsimp only; omega) _
          have hz7 : (((((v6.setCell ⟨v1.heap.size, 0, none⟩ (.int .i64 (0))).setCell ⟨v1.heap.size, 1, none⟩ (.int .i64 (0))).setCell ⟨v1.heap.size, 2, none⟩ (.int .i64 (0))).setCell ⟨v1.heap.size, 3, none⟩ (.int .i64 (0))).setCell ⟨v1.heap.size, 4, none⟩ (.int .i64 (0))).heap.size = v6.heap.size := by simp
          have hz7h := hide hz7
          have hsl := sl_arrQ encReq_len (((((v6.setCell ⟨v1.heap.size, 0, none⟩ (.int .i64 (0))).setCell ⟨v1.heap.size, 1, none⟩ (.int .i64 (0))).setCell ⟨v1.heap.size, 2, none⟩ (.int .i64 (0))).setCell ⟨v1.heap.size, 3, none⟩ (.int .i64 (0))).setCell ⟨v1.heap.size, 4, none⟩ (.int .i64 (0))) #[.int .i64 (0), .int .i64 (0), .int .i64 (0), .int .i64 (0), .int .i64 (0)] 37 [(0, 0, 0, 0, 0)] rfl
          have hz67 : v6.heap.size + 1 = ((((((v6.setCell ⟨v1.heap.size, 0, none⟩ (.int .i64 (0))).setCell ⟨v1.heap.size, 1, none⟩ (.int .i64 (0))).setCell ⟨v1.heap.size, 2, none⟩ (.int .i64 (0))).setCell ⟨v1.heap.size, 3, none⟩ (.int .i64 (0))).setCell ⟨v1.heap.size, 4, none⟩ (.int .i64 (0))).alloc (.cells #[.int .i64 (0), .int .i64 (0), .int .i64 (0), .int .i64 (0), .int .i64 (0)] 37)).heap.size := by simp only [World.size_alloc] <;> omega
          have hA7 := (Below.refl (((((v6.setCell ⟨v1.heap.size, 0, none⟩ (.int .i64 (0))).setCell ⟨v1.heap.size, 1, none⟩ (.int .i64 (0))).setCell ⟨v1.heap.size, 2, none⟩ (.int .i64 (0))).setCell ⟨v1.heap.size, 3, none⟩ (.int .i64 (0))).setCell ⟨v1.heap.size, 4, none⟩ (.int .i64 (0))).heap.size (((((v6.setCell ⟨v1.heap.size, 0, none⟩ (.int .i64 (0))).setCell ⟨v1.heap.size, 1, none⟩ (.int .i64 (0))).setCell ⟨v1.heap.size, 2, none⟩ (.int .i64 (0))).setCell ⟨v1.heap.size, 3, none⟩ (.int .i64 (0))).setCell ⟨v1.heap.size, 4, none⟩ (.int .i64 (0)))).alloc (Nat.le_refl _) (.cells #[.int .i64 (0), .int .i64 (0), .int .i64 (0), .int .i64 (0), .int .i64 (0)] 37)
          have hr8 := hr7.below hA7 (by have := hr6.lt; omega)
          have ho8 := ho7.trans ((Only.of_below hA7).mono (by omega))
          have hw8 := hw7.below hA7 (Nat.le_refl _)
          have hn8 := hn7.below hA7 (Nat.le_refl _)
          rw [hz7] at hsl
          have hslh := hide hsl
          have hz67h := hide hz67
          clear hsl hz67 hz7 hA7 hr7 ho7 hw7 hn7
          have hw8h := hide hw8
          have hn8h := hide hn8
          clear hw8 hn8
          go_wp2_with (first
            | (at_builtin; refine wpList_appG encReq_len (by omega) encReq_one rfl _ _ 118 rfl 37 _ 40 Tryd.underlying118 infoReq rfl w.heap.size _ rs rfl hw8h.out _ _ _ [(0, 0, 0, 0, 0)] _ _ rfl rfl hslh.out ?h2 ?h3 ?_)
            | fail)
          case h2 => simp [maxLen]; omega
          case h3 => have := hz67h.out; omega
          intro vv v9 hw9 hg9 hb9 hlie
          obtain ⟨A9, c9, rfl, _, _, _⟩ := hw9.form
          have hz6 := hz67h.out
          have ho9 : Only w.heap.size (some g) w v9 := ho8.trans (Only.of_below hb9)
          have hr9 : Rd v9 g (P + 1 + 60 * rs.length + 40) := hr8.below hb9 (by omega)
          have hn9 : Own encI 1 3 v9 (w.heap.size + 1) (.slice (some ⟨w.heap.size + 1, 0, none⟩) 3 3) (ns) := hn8h.out.keep (fun k hk => hg9.block k (by simp [Value.ownBlock] at hk; omega) (fun e => by simp [Value.ownBlock] at hk; exact hdis.out k e.symm (by omega)))
          go_wp2
          go_roundw
          case rel => exact ⟨q, rs ++ [(0, 0, 0, 0, 0)], A9, c9, (ns), by first | rfl | go_num, rfl, hw9, hn9, hns.out, (fun r hr => by rcases List.mem_append.1 hr with h | h; exact hok.out r h; rw [List.mem_singleton.1 h]; exact .inl rfl), (fun k hk => by rcases hlie with e | e; exact hdis.out k (e ▸ hk); have := e.symm.trans hk; injection this with this; omega), by simp; omega, (by refine hr9.mono ?_; simp; omega), ho9⟩
          case measure => simp [intOf] <;> omega
        · have dz : ((p12 : Int) == 0) = false := by simp; omega
          obtain ⟨y0, y1, y2, y3, y4, yf0, yf1, yf2, yf3, yf4⟩ := id hb6
          have hr7 : Rd v6 g (P + 1 + 60 * rs.length + 40) := by (repeat (first | (with_reducible refine Rd.set ?_ (by dsimp only; omega) _) | (with_reducible exact hr6.mono (by omega))))
          have ho7 : Only w.heap.size (some g) w v6 := by (repeat (first | (with_reducible refine Only.setC ?_ (by dsimp only; omega) _) | (with_reducible exact ho6)))
          have hw7 : Own encReq 5 37 v6 w.heap.size (.slice A rs.length c) rs := by (repeat (first | (with_reducible refine Own.setO ?_ (fun k hk => by have h1 := hdis.out k hk; have h2 := hltA.out k hk; dsimp only; omega) _) | (with_reducible exact hw6)))
          have hn7 : Own encI 1 3 v6 (w.heap.size + 1) (.slice (some ⟨w.heap.size + 1, 0, none⟩) 3 3) (ns) := hn6
          have hz7 : v6.heap.size = v6.heap.size := by rfl
          have hz7h := hide hz7
          have hsl := sl_arrQ encReq_len v6 #[.int .i64 ((j : Int) + 1), .int .i64 (nj), .int .i64 (to), .int .i64 (tx), .int .i64 (ty)] 37 [((j : Int) + 1, nj, to, tx, ty)] rfl
          have hz67 : v6.heap.size + 1 = (v6.alloc (.cells #[.int .i64 ((j : Int) + 1), .int .i64 (nj), .int .i64 (to), .int .i64 (tx), .int .i64 (ty)] 37)).heap.size := by simp only [World.size_alloc] <;> omega
          have hA7 := (Below.refl v6.heap.size v6).alloc (Nat.le_refl _) (.cells #[.int .i64 ((j : Int) + 1), .int .i64 (nj), .int .i64 (to), .int .i64 (tx), .int .i64 (ty)] 37)
          have hr8 := hr7.below hA7 (by have := hr6.lt; omega)
          have ho8 := ho7.trans ((Only.of_below hA7).mono (by omega))
          have hw8 := hw7.below hA7 (Nat.le_refl _)
          have hn8 := hn7.below hA7 (Nat.le_refl _)
          rw [hz7] at hsl
          have hslh := hide hsl
          have hz67h := hide hz67
          clear hsl hz67 hz7 hA7 hr7 ho7 hw7 hn7
          have hw8h := hide hw8
          have hn8h := hide hn8
          clear hw8 hn8
          go_wp2_with (first
            | (at_builtin; refine wpList_appG encReq_len (by omega) encReq_one rfl _ _ 118 rfl 37 _ 40 Tryd.underlying118 infoReq rfl w.heap.size _ rs rfl hw8h.out _ _ _ [((j : Int) + 1, nj, to, tx, ty)] _ _ rfl rfl hslh.out ?h2 ?h3 ?_)
            | fail)
          case h2 => simp [maxLen]; omega
          case h3 => have := hz67h.out; omega
          intro vv v9 hw9 hg9 hb9 hlie
          obtain ⟨A9, c9, rfl, _, _, _⟩ := hw9.form
          have hz6 := hz67h.out
          have ho9 : Only w.heap.size (some g) w v9 := ho8.trans (Only.of_below hb9)
          have hr9 : Rd v9 g (P + 1 + 60 * rs.length + 40) := hr8.below hb9 (by omega)
          have hn9 : Own encI 1 3 v9 (w.heap.size + 1) (.slice (some ⟨w.heap.size + 1, 0, none⟩) 3 3) (ns) := hn8h.out.keep (fun k hk => hg9.block k (by simp [Value.ownBlock] at hk; omega) (fun e => by simp [Value.ownBlock] at hk; exact hdis.out k e.symm (by omega)))
          go_wp2
          go_roundw
          case rel => exact ⟨q, rs ++ [((j : Int) + 1, nj, to, tx, ty)], A9, c9, (ns), by first | rfl | go_num, rfl, hw9, hn9, hns.out, (fun r hr => by rcases List.mem_append.1 hr with h | h; exact hok.out r h; rw [List.mem_singleton.1 h]; exact .inr (okA_num htah.out (by omega) (by omega))), (fun k hk => by rcases hlie with e | e; exact hdis.out k (e ▸ hk); have := e.symm.trans hk; injection this with this; omega), by simp; omega, (by refine hr9.mono ?_; simp; omega), ho9⟩
          case measure => simp [intOf] <;> omega
    · have dk : decide ((0 : Int) < (k : Int)) = false := decide_eq_false (by omega)
      have dk2 : decide (0 < k) = false := decide_eq_false hk0
      go_wp2
      go_ret
      exact ⟨A, c, rs, rfl, hw1.out, hok.out, by omega, hrr.mono (by omega), hor⟩
end Go.Proofs.YtajmfonepnkofaaDoor
namespace Go.Proofs.YtajmfonepnkofaaDoor
open Go.RowKit Rg
set_option linter.unusedVariables false
set_option linter.unusedSimpArgs false

/-- What 'l2Copy' leaves: three rows of the call's own. -/
def CopF (w : World) (g : GameT) (e : Ending) (w' : World) : Prop := ∃ g0 n c0 g1 p c1 g2 q c2 : Nat, e = .returned (.agg #[.slice (some ⟨g0, 0, none⟩) n c0, .slice (some ⟨g1, 0, none⟩) p c1, .slice (some ⟨g2, 0, none⟩) q c2]) ∧ Own encEnt 5 82 w' w.heap.size (.slice (some ⟨g0, 0, none⟩) n c0) g.1 ∧ Own encI 1 3 w' w.heap.size (.slice (some ⟨g1, 0, none⟩) p c1) g.2.1 ∧ Own encI 1 3 w' w.heap.size (.slice (some ⟨g2, 0, none⟩) q c2) g.2.2 ∧ Below w.heap.size w w'
section
variable {w W : World} {g : GameT} {g0 n c0 g1 p c1 g2 q c2 : Nat}
theorem copy_finF {y : Nat} (hy : y = w.heap.size + 1) {u0 u1 u2 V0 V1 V2 : Value} (hs : Gs w W V0 V1 V2) (h0 : Own encEnt 5 82 W (w.heap.size + 1 + 1) (.slice (some ⟨g0, 0, none⟩) n c0) g.1) (h1 : Own encI 1 3 W (w.heap.size + 1 + 1) (.slice (some ⟨g1, 0, none⟩) p c1) g.2.1) (h2 : Own encI 1 3 W (w.heap.size + 1 + 1) (.slice (some ⟨g2, 0, none⟩) q c2) g.2.2) : CopF w g (.returned (.agg #[.slice (some ⟨g0, 0, none⟩) n c0, .slice (some ⟨g1, 0, none⟩) p c1, .slice (some ⟨g2, 0, none⟩) q c2])) (((W.setCell ⟨y, 0, none⟩ u0).setCell ⟨y, 1, none⟩ u1).setCell ⟨y, 2, none⟩ u2) := by
  have hO : Onl y y W (((W.setCell ⟨y, 0, none⟩ u0).setCell ⟨y, 1, none⟩ u1).setCell ⟨y, 2, none⟩ u2) := (((Onl.refl y y W).set (p := ⟨y, 0, none⟩) (.inl rfl) u0).set (p := ⟨y, 1, none⟩) (.inl rfl) u1).set (p := ⟨y, 2, none⟩) (.inl rfl) u2
  exact ⟨g0, n, c0, g1, p, c1, g2, q, c2, rfl, (h0.keep (fun b hb => hO.blk b (by have := (h0.lt b hb).1; omega) (by have := (h0.lt b hb).1; omega))).mono (by omega), (h1.keep (fun b hb => hO.blk b (by have := (h1.lt b hb).1; omega) (by have := (h1.lt b hb).1; omega))).mono (by omega), (h2.keep (fun b hb => hO.blk b (by have := (h2.lt b hb).1; omega) (by have := (h2.lt b hb).1; omega))).mono (by omega), hO.bel _ _ (by omega) (by omega) hs.bel⟩
theorem copy_finFD {y : Nat} (hy : y = w.heap.size + 1) {u0 u1 u2 V0 V1 V2 : Value} (hs : Gs w W V0 V1 V2) (h0 : Own encEnt 5 82 W (w.heap.size + 1 + 1) (.slice (some ⟨g0, 0, none⟩) n c0) g.1) (h1 : Own encI 1 3 W (w.heap.size + 1 + 1) (.slice (some ⟨g1, 0, none⟩) p c1) g.2.1) (h2 : Own encI 1 3 W (w.heap.size + 1 + 1) (.slice (some ⟨g2, 0, none⟩) q c2) g.2.2) : CopF w g (.returned (.agg #[.slice (some ⟨g0, 0, none⟩) n c0, .slice (some ⟨g1, 0, none⟩) p c1, .slice (some ⟨g2, 0, none⟩) q c2])) ((((W.setCell ⟨y, 0, none⟩ u0).setCell ⟨y, 1, none⟩ u1).setCell ⟨y, 2, none⟩ u2)).drew := by
  obtain ⟨_, _, _, _, _, _, _, _, _, h, k0, k1, k2, hb⟩ := copy_finF hy (u0 := u0) (u1 := u1) (u2 := u2) hs h0 h1 h2
  exact ⟨_, _, _, _, _, _, _, _, _, h, k0, k1, k2, hb.drew⟩
end
set_option maxRecDepth 100000 in
set_option maxHeartbeats 8000000 in
theorem l2CopyF_c (A : Option Addr) (n c : Nat) (B : Option Addr) (p d : Nat) (E : Option Addr) (q f : Nat) (D : Nat → Prop) (g : GameT) (w : World) (hg : GmD w D A n c B p d E q f g) (hD : ∀ b, D b → b < w.heap.size) (hl : g.1.length ≤ 1000 ∧ g.2.1.length ≤ 1000 ∧ g.2.2.length ≤ 1000) :
    Calls Tryd.prog 24 #[.agg #[.slice A n c, .slice B p d, .slice E q f]] w fun e w' => CopF w g e w' := by
  have hs2 := Gs.made w (.slice A n c) (.slice B p d) (.slice E q f)
  have hg2 := hide (hg.below hs2.bel hD)
  obtain ⟨xx0, xx1, xx2, xf0, xf1, xf2⟩ := hs2.bx.cells
  obtain ⟨yy0, yy1, yy2, yg0, yg1, yg2⟩ := hs2.ry.cells
  have hz2 := hs2.sz
  have hn0 := hide hg.en.len
  have hn1 := hide hg.fl.len
  have hn2 := hide hg.la.len
  have hn0B := hide hl.1
  have hn1B := hide hl.2.1
  have hn2B := hide hl.2.2
  clear hl hg
  go_enter Tryd.func24, Tryd.ntmps24
  go_wp2
  generalize ((w.alloc (.cells #[.slice A n c, .slice B p d, .slice E q f] 35)).alloc (.cells #[.slice none 0 0, .slice none 0 0, .slice none 0 0] 35)) = w2 at *
  have hK2 : w.heap.size + 1 ≤ w2.heap.size := by omega
  have hlx2 := hs2.bx.lt
  have hly2 := hs2.ry.lt
  refine wp_region_O (SinceB (w.heap.size + 1) _) [35] [] [5, 9, 13] (Ord.seg [1, 2, 5, 6, 9, 10] (Ord.three 0 4 8 (Ord.seg [] (Ord.three 3 4 8 (Ord.seg [] (Ord.both 4 8 (Ord.seg [] (Ord.both 7 8 (Ord.seg [8, 11, 12, 13] Ord.done) (Ord.seg [7, 11, 12, 13] Ord.done))) (Ord.seg [4, 7, 11, 12, 13] Ord.done))) (Ord.seg [] (Ord.both 3 8 (Ord.seg [] (Ord.both 7 8 (Ord.seg [8, 11, 12, 13] Ord.done) (Ord.seg [7, 11, 12, 13] Ord.done))) (Ord.seg [3, 7, 11, 12, 13] Ord.done))) (Ord.seg [] (Ord.both 3 4 (Ord.seg [4, 7, 11, 12, 13] Ord.done) (Ord.seg [3, 7, 11, 12, 13] Ord.done))))) (Ord.seg [] (Ord.both 0 8 (Ord.seg [] (Ord.both 3 8 (Ord.seg [] (Ord.both 7 8 (Ord.seg [8, 11, 12, 13] Ord.done) (Ord.seg [7, 11, 12, 13] Ord.done))) (Ord.seg [3, 7, 11, 12, 13] Ord.done))) (Ord.seg [0, 3, 7, 11, 12, 13] Ord.done))) (Ord.seg [] (Ord.both 0 4 (Ord.seg [] (Ord.both 3 4 (Ord.seg [4, 7, 11, 12, 13] Ord.done) (Ord.seg [3, 7, 11, 12, 13] Ord.done))) (Ord.seg [0, 3, 7, 11, 12, 13] Ord.done))))) (by kernel_rfl) (by kernel_rfl) (by kernel_rfl) (SinceB.drew _ _) ?_
  go_wp2_with (first
    | ((with_reducible refine wpT_xs0 ?_ ?_ ?_); (focus rfl); (focus rfl); intro K hK; refine wp_app0 encEnt_len (by omega) encEnt_one _ _ 33 rfl 82 _ 40 Tryd.underlying33 infoEnt rfl (w.heap.size + 1 + 1) _ rfl ?_ ?_ 0 w.heap.size A g.1 n c rfl hn0.out ?_ ?_ ?_; (focus (focus (repeat (first | ((with_reducible refine Emp.newE ?_ _); (focus (first | rfl | (simp; done) | (simp; omega) | omega))) | (with_reducible refine Emp.drew ?_) | (with_reducible refine Emp.alloc ?_ _) | (with_reducible refine Emp.app ?_ hbC) | (with_reducible refine Emp.app ?_ hbB) | (with_reducible refine Emp.app ?_ hbA))))); (focus omega); (focus (refine (hg2.out.en.sl hD).below (B := w2.heap.size) ?_ (by omega); (focus (repeat (first | (with_reducible exact Below.refl _ _) | (with_reducible refine Below.drew ?_) | (with_reducible refine Below.allocR ?_ _) | (with_reducible refine Below.appR ?_ hbC) | (with_reducible refine Below.appR ?_ hbB) | (with_reducible refine Below.appR ?_ hbA)))))); (focus (have h1 := hn0.out; have h2 := hn0B.out; simp only [maxLen]; omega)); intro g0 c0 wA hoA hbA; have hSBwA : SinceB (w.heap.size + 1) w2 wA := (by (focus (repeat (first | (with_reducible exact SinceB.refl _ _) | (with_reducible refine SinceB.drewR ?_) | (with_reducible refine SinceB.allocK ?_ hK2 _) | (with_reducible refine SinceB.app ?_ hbC hK2) | (with_reducible refine SinceB.app ?_ hbB hK2) | (with_reducible refine SinceB.app ?_ hbA hK2))))); have hzwA : w2.heap.size ≤ wA.heap.size := hSBwA.size; have hK := hK)
    | ((with_reducible refine wpT_xs0 ?_ ?_ ?_); (focus rfl); (focus rfl); intro K hK; refine wp_app0 encI_len (by omega) encI_one _ _ 23 rfl 3 _ 8 Tryd.underlying23 infoI rfl (w.heap.size + 1 + 1) _ rfl ?_ ?_ 0 w.heap.size B g.2.1 p d rfl hn1.out ?_ ?_ ?_; (focus (focus (repeat (first | ((with_reducible refine Emp.newE ?_ _); (focus (first | rfl | (simp; done) | (simp; omega) | omega))) | (with_reducible refine Emp.drew ?_) | (with_reducible refine Emp.alloc ?_ _) | (with_reducible refine Emp.app ?_ hbC) | (with_reducible refine Emp.app ?_ hbB) | (with_reducible refine Emp.app ?_ hbA))))); (focus omega); (focus (refine (hg2.out.fl.sl hD).below (B := w2.heap.size) ?_ (by omega); (focus (repeat (first | (with_reducible exact Below.refl _ _) | (with_reducible refine Below.drew ?_) | (with_reducible refine Below.allocR ?_ _) | (with_reducible refine Below.appR ?_ hbC) | (with_reducible refine Below.appR ?_ hbB) | (with_reducible refine Below.appR ?_ hbA)))))); (focus (have h1 := hn1.out; have h2 := hn1B.out; simp only [maxLen]; omega)); intro g1 c1 wB hoB hbB; have hSBwB : SinceB (w.heap.size + 1) w2 wB := (by (focus (repeat (first | (with_reducible exact SinceB.refl _ _) | (with_reducible refine SinceB.drewR ?_) | (with_reducible refine SinceB.allocK ?_ hK2 _) | (with_reducible refine SinceB.app ?_ hbC hK2) | (with_reducible refine SinceB.app ?_ hbB hK2) | (with_reducible refine SinceB.app ?_ hbA hK2))))); have hzwB : w2.heap.size ≤ wB.heap.size := hSBwB.size; have hK := hK)
    | ((with_reducible refine wpT_xs0 ?_ ?_ ?_); (focus rfl); (focus rfl); intro K hK; refine wp_app0 encI_len (by omega) encI_one _ _ 23 rfl 3 _ 8 Tryd.underlying23 infoI rfl (w.heap.size + 1 + 1) _ rfl ?_ ?_ 0 w.heap.size E g.2.2 q f rfl hn2.out ?_ ?_ ?_; (focus (focus (repeat (first | ((with_reducible refine Emp.newE ?_ _); (focus (first | rfl | (simp; done) | (simp; omega) | omega))) | (with_reducible refine Emp.drew ?_) | (with_reducible refine Emp.alloc ?_ _) | (with_reducible refine Emp.app ?_ hbC) | (with_reducible refine Emp.app ?_ hbB) | (with_reducible refine Emp.app ?_ hbA))))); (focus omega); (focus (refine (hg2.out.la.sl hD).below (B := w2.heap.size) ?_ (by omega); (focus (repeat (first | (with_reducible exact Below.refl _ _) | (with_reducible refine Below.drew ?_) | (with_reducible refine Below.allocR ?_ _) | (with_reducible refine Below.appR ?_ hbC) | (with_reducible refine Below.appR ?_ hbB) | (with_reducible refine Below.appR ?_ hbA)))))); (focus (have h1 := hn2.out; have h2 := hn2B.out; simp only [maxLen]; omega)); intro g2 c2 wC hoC hbC; have hSBwC : SinceB (w.heap.size + 1) w2 wC := (by (focus (repeat (first | (with_reducible exact SinceB.refl _ _) | (with_reducible refine SinceB.drewR ?_) | (with_reducible refine SinceB.allocK ?_ hK2 _) | (with_reducible refine SinceB.app ?_ hbC hK2) | (with_reducible refine SinceB.app ?_ hbB hK2) | (with_reducible refine SinceB.app ?_ hbA hK2))))); have hzwC : w2.heap.size ≤ wC.heap.size := hSBwC.size; have hsC : Gs w wC (.slice A n c) (.slice B p d) (.slice E q f) := (by (focus (repeat (first | (with_reducible exact hs2) | (with_reducible refine Gs.drew ?_) | (with_reducible refine Gs.alloc ?_ _) | (with_reducible refine Gs.app ?_ hbC) | (with_reducible refine Gs.app ?_ hbB) | (with_reducible refine Gs.app ?_ hbA))))); clear yy0 yy1 yy2 yg0 yg1 yg2; obtain ⟨yy0, yy1, yy2, yg0, yg1, yg2⟩ := hsC.ry.cells; have hlyC := hsC.ry.lt; have hK := hK)
    | ((with_reducible refine wpO_seg ?_); simp only [pickL, List.toList_toArray, List.getElem?_cons_succ, List.getElem?_cons_zero]) | ((with_reducible refine wpO_both ?_ ?_) <;> simp only [pickL, List.toList_toArray, List.getElem?_cons_succ, List.getElem?_cons_zero]) | ((with_reducible refine wpO_three ?_ ?_ ?_) <;> simp only [pickL, List.toList_toArray, List.getElem?_cons_succ, List.getElem?_cons_zero]) | ((with_reducible refine wpO_done ?_); try dsimp only) | (with_reducible refine SinceB.and_ ?_ ?_; (focus (repeat (first | (with_reducible exact SinceB.refl _ _) | (with_reducible assumption) | (with_reducible refine SinceB.drewR ?_) | ((with_reducible refine SinceB.alloc ?_ ?_ _); rotate_left; (focus (first | (with_reducible assumption) | (simp; done) | (simp; omega) | omega))) | ((with_reducible refine SinceB.set ?_ ?_ _); rotate_left; (focus (first | omega | (simp; done) | (simp; omega))))))); intro hS) | ((with_reducible refine wpT_noL ?_ ?_); (focus (first | exact wanted_no _ _ _ rfl rfl rfl | exact wanted_un _ _ _ rfl rfl rfl)); simp only [setO, List.set_cons_succ, List.set_cons_zero]) | ((with_reducible refine wpT_q0 ?_ ?_ ?_ ?_); (focus rfl); (focus rfl); (focus rfl); intro K hK) | ((with_reducible refine wpT_i ?_ ?_); (focus (refine ⟨_, _, _, _, _, _, _, _, rfl, rfl, rfl, rfl, rfl, ?_⟩; omega)); intro K hK) | ((with_reducible refine wpT_ncw ?_ ?_ ?_); (focus (first | exact .inl rfl | exact .inr (wanted_yes _ _ _ rfl rfl rfl))); (focus exact ⟨_, _, rfl, rfl, rfl⟩); intro K hK) | ((with_reducible apply wpT_lB); (focus rfl); (focus rfl); (focus rfl); (focus rfl); (focus (first | exact SinceB.drew _ _ | (with_reducible assumption))); (focus (simp <;> omega)); (focus go_simp); intro K hK) | ((with_reducible apply wpT_lwB); (focus exact wanted_yes _ _ _ rfl rfl rfl); (focus rfl); (focus rfl); (focus rfl); (focus (first | exact SinceB.drew _ _ | (with_reducible assumption))); (focus (simp <;> omega)); (focus go_simp); intro K hK) | ((with_reducible refine wpT_xs0 ?_ ?_ ?_); (focus rfl); (focus rfl); intro K hK) | ((with_reducible refine wpT_q1 ?_ ?_ ?_ ?_); (focus exact wanted_yes _ _ _ rfl rfl rfl); (focus rfl); (focus rfl); intro K hK) | ((with_reducible refine wpT_xs1 ?_ ?_ ?_); (focus exact wanted_yes _ _ _ rfl rfl rfl); (focus rfl); intro K hK) | ((with_reducible refine wpT_nil ?_); try dsimp only)
    | fail)
  all_goals refine bodyPost_ret (v := .agg #[.slice (some ⟨g0, 0, none⟩) n c0, .slice (some ⟨g1, 0, none⟩) p c1, .slice (some ⟨g2, 0, none⟩) q c2]) (by simp [results, Tryd.results24, go_sem, yy0, yy1, yy2, yg0, yg1, yg2]) rfl ?_
  all_goals first
    | exact copy_finF rfl hsC (by (focus (repeat (first | (with_reducible exact hoA) | (with_reducible refine Own.drew ?_) | (with_reducible refine Own.alloc ?_ _) | (with_reducible refine Own.app ?_ hbC) | (with_reducible refine Own.app ?_ hbB) | (with_reducible refine Own.app ?_ hbA))))) (by (focus (repeat (first | (with_reducible exact hoB) | (with_reducible refine Own.drew ?_) | (with_reducible refine Own.alloc ?_ _) | (with_reducible refine Own.app ?_ hbC) | (with_reducible refine Own.app ?_ hbB) | (with_reducible refine Own.app ?_ hbA))))) hoC
    | exact copy_finFD rfl hsC (by (focus (repeat (first | (with_reducible exact hoA) | (with_reducible refine Own.drew ?_) | (with_reducible refine Own.alloc ?_ _) | (with_reducible refine Own.app ?_ hbC) | (with_reducible refine Own.app ?_ hbB) | (with_reducible refine Own.app ?_ hbA))))) (by (focus (repeat (first | (with_reducible exact hoB) | (with_reducible refine Own.drew ?_) | (with_reducible refine Own.alloc ?_ _) | (with_reducible refine Own.app ?_ hbC) | (with_reducible refine Own.app ?_ hbB) | (with_reducible refine Own.app ?_ hbA))))) hoC
end Go.Proofs.YtajmfonepnkofaaDoor
namespace Go.Proofs.YtajmfonepnkofaaDoor
open Go.RowKit Rg
set_option linter.unusedVariables false
set_option linter.unusedSimpArgs false

theorem RdN.req {w : World} {lo hi b off n c k : Nat} {ts : List ReqT} (h : RdN 5 (flatR encReq) w lo hi (some ⟨b, off, none⟩) n c ts) (hk : k < ts.length) :
    w.cell? ⟨b, off + k * 5, none⟩ = some (.int .i64 ts[k].1) ∧ w.cell? ⟨b, off + k * 5 + 1, none⟩ = some (.int .i64 ts[k].2.1) ∧ w.cell? ⟨b, off + k * 5 + 2, none⟩ = some (.int .i64 ts[k].2.2.1) ∧ w.cell? ⟨b, off + k * 5 + 3, none⟩ = some (.int .i64 ts[k].2.2.2.1) ∧ w.cell? ⟨b, off + k * 5 + 4, none⟩ = some (.int .i64 ts[k].2.2.2.2) := h.sl.getReq hk
theorem okN_iff (t : ReqV) : okN t = true ↔ okNA t := by
  unfold okN okNA
  rw [Bool.or_eq_true, noneR_iff, okR_iff]
def emptyG : GameT := ([], [], [])
/-- What a fold returns. -/
def foldRes (rs : List ReqT) : GameT := if rs.all okN = true ∧ rs.length ≤ 60 then foldG newG rs else emptyG
theorem okGD_len {g : GameT} (h : okG g) : g.1.length ≤ 1000 ∧ g.2.1.length ≤ 1000 ∧ g.2.2.length ≤ 1000 := by
  have h1 := inc_len h.inc (fun e he => (h.ent e he).1)
  have h2 := h.n16
  have h3 := h.n4
  exact ⟨by omega, by omega, by omega⟩
/-- The empty game in new memory. -/
theorem emptyG_D (w : World) (D : Nat → Prop) : GmD w D none 0 0 none 0 0 none 0 0 emptyG :=
  ⟨⟨rfl, Nat.le_refl _, by simp [maxLen], fun h => absurd rfl h⟩, ⟨rfl, Nat.le_refl _, by simp [maxLen], fun h => absurd rfl h⟩, ⟨rfl, Nat.le_refl _, by simp [maxLen], fun h => absurd rfl h⟩, .inl ⟨rfl, rfl, rfl⟩⟩
theorem GmPost.empty {w w' : World} {D : Nat → Prop} (hB : Below w.heap.size w w') : GmPost w D emptyG (.returned (.agg #[.slice none 0 0, .slice none 0 0, .slice none 0 0])) w' := ⟨none, 0, 0, none, 0, 0, none, 0, 0, rfl, emptyG_D _ _, hB⟩
theorem GmPost2.empty {w w' : World} {D : Nat → Prop} (code : Int) (hB : Below w.heap.size w w') : GmPost2 w D (emptyG, code) (.returned (.tuple #[.agg #[.slice none 0 0, .slice none 0 0, .slice none 0 0], .int .i64 code])) w' := ⟨none, 0, 0, none, 0, 0, none, 0, 0, rfl, emptyG_D _ _, hB⟩

end Go.Proofs.YtajmfonepnkofaaDoor
namespace Go.Proofs.YtajmfonepnkofaaDoor
open Go.RowKit Rg
set_option linter.unusedVariables false
set_option linter.unusedSimpArgs false

theorem RdN.intD {w : World} {lo hi b off n c k : Nat} {ts : List Int} (h : RdN 1 (flatR encI) w lo hi (some ⟨b, off, none⟩) n c ts) (hk : k < ts.length) : ∃ v : Value, v = .int .i64 ts[k] ∧ w.cell? ⟨b, off + k, none⟩ = some (.int .i64 ts[k]) := ⟨_, rfl, h.int_ hk⟩

theorem index_badNum (A : Option Addr) (n c lo hi : Nat) (ts : List Int) (p : Int → Bool) (w : World) (hs : RdN 1 (flatR encI) w lo hi A n c ts) (hhi : hi ≤ w.heap.size) (hp : ∀ (k : Nat) (hk : k < ts.length) (W : World), Below w.heap.size w W → Calls Tryd.prog 57 #[.int .i64 ts[k]] W fun e W' => e = .returned (.bool (p ts[k])) ∧ Below W.heap.size W W') :
    Calls Tryd.prog 81 #[.slice A n c, .func (.func 57) #[] #[]] w fun e w' => ∃ i : Int, e = .returned (.int .i64 i) ∧ (i = -1 ∧ ts.any p = false ∨ 0 ≤ i ∧ ts.any p = true) ∧ Below w.heap.size w w' := by
  have hn' := hide hs.len
  have hc1 := hs.cap
  have hc2 := hs.max
  unfold maxLen at hc2
  have hp' := hide hp
  clear hp
  go_enter Tryd.func81, Tryd.ntmps81
  go_wp2
  go_loopw [8, 5] (fun i _ wr => ∃ k : Nat, k ≤ n ∧ i = .int .i64 k ∧ Hid (∀ j (h : j < ts.length), j < k → ¬ p ts[j] = true) ∧ Below w.heap.size w wr) (fun i _ _ => n - (intOf i).toNat)
  case atStart => exact ⟨0, Nat.zero_le _, rfl, fun j h h' => absurd h' (by omega), Below.refl _ _⟩
  case round =>
    obtain ⟨k, hk, rfl, hno, hbr⟩ := hrel
    by_cases hlt : k < n
    · have hlx : k < ts.length := by have := hn'.out; omega
      obtain ⟨b', off, rfl, hlo, hbh⟩ := hs.addr hlx
      obtain ⟨-, -, a0⟩ := (hs.below (flat_kept _) hbr hhi).intD hlx
      go_wp2_with fail
      refine (hp'.out k hlx wr hbr).mono ?_
      rintro e w1 ⟨rfl, hb1⟩
      cases he : p ts[k]
      · have he' := hide he
        go_wp2
        go_roundw
        case rel => exact ⟨k + 1, by omega, by go_num, fun j hj hjk h => by
          by_cases h2 : j < k
          · exact hno.out j hj h2 h
          · obtain rfl : j = k := by omega
            have := he'.out
            simp [h] at this, hbr.trans (hb1.mono hbr.size)⟩
        case measure => simp [intOf]; omega
      · have he' : Hid (ts.any p = true) := hide (List.any_eq_true.2 ⟨ts[k], List.getElem_mem hlx, he⟩)
        go_wp2
        go_ret
        exact ⟨k, rfl, .inr ⟨by omega, he'.out⟩, hbr.trans (hb1.mono hbr.size)⟩
    · obtain rfl : k = n := by omega
      go_wp2
      go_ret
      refine ⟨-1, rfl, .inl ⟨rfl, ?_⟩, hbr⟩
      simp only [List.any_eq_false]
      intro x hx
      obtain ⟨j, hj, rfl⟩ := List.mem_iff_getElem.1 hx
      exact hno.out j hj (by have := hn'.out; omega)
theorem contains_badNum (A : Option Addr) (n c lo hi : Nat) (ts : List Int) (p : Int → Bool) (w : World) (hs : RdN 1 (flatR encI) w lo hi A n c ts) (hhi : hi ≤ w.heap.size) (hp : ∀ (k : Nat) (hk : k < ts.length) (W : World), Below w.heap.size w W → Calls Tryd.prog 57 #[.int .i64 ts[k]] W fun e W' => e = .returned (.bool (p ts[k])) ∧ Below W.heap.size W W') :
    Calls Tryd.prog 56 #[.slice A n c, .func (.func 57) #[] #[]] w fun e w' => e = .returned (.bool (ts.any p)) ∧ Below w.heap.size w w' := by
  have hp' := hide hp
  clear hp
  go_enter Tryd.func56, Tryd.ntmps56
  go_wp2_with fail
  refine (index_badNum A n c lo hi ts p w hs hhi hp'.out).mono ?_
  rintro e w1 ⟨i, rfl, hi, hb1⟩
  rcases hi with ⟨rfl, h⟩ | ⟨h1, h⟩
  · have h' := hide h
    go_wp2
    go_ret
    exact ⟨by rw [h'.out]; rfl, hb1⟩
  · have h' := hide h
    have d1 : decide (0 ≤ i) = true := by simpa using h1
    go_wp2
    go_ret
    exact ⟨by rw [h'.out]; simp [h1], hb1⟩

theorem figure1_c (t : EntT) (bc : Nat) (cl : Int) (w : World) (hb : w.cell? ⟨bc, 0, none⟩ = some (.int .i64 cl)) (hlt : bc < w.heap.size) :
    Calls Tryd.prog 90 #[.agg #[.int .i64 t.1, .int .i64 t.2.1, .int .i64 t.2.2.1, .int .i64 t.2.2.2.1, .int .i64 t.2.2.2.2], .pointer (some ⟨bc, 0, none⟩)] w fun e w' => e = .returned (.bool (decide (t.1 = cl))) ∧ Below w.heap.size w w' := by
  go_enter Tryd.func90, Tryd.ntmps90
  go_wp2
  go_ret
  exact ⟨by rfl, (Below.refl _ _).alloc (Nat.le_refl _) _⟩
theorem figIx_c (A : Option Addr) (n c lo hi : Nat) (ts : List EntT) (bc : Nat) (cl : Int) (w : World) (hs : RdN 5 (flatR encEnt) w lo hi A n c ts) (hhi : hi ≤ w.heap.size) (hb : w.cell? ⟨bc, 0, none⟩ = some (.int .i64 cl)) (hlt : bc < w.heap.size) :
    Calls Tryd.prog 89 #[.slice A n c, .func (.func 90) #[] #[.pointer (some ⟨bc, 0, none⟩)]] w fun e w' => e = .returned (.int .i64 (optI (figI ts cl))) ∧ Below w.heap.size w w' := by
  have hn' := hide hs.len
  have hc1 := hs.cap
  have hc2 := hs.max
  unfold maxLen at hc2
  go_enter Tryd.func89, Tryd.ntmps89
  go_wp2
  go_loopw [8, 5] (fun i _ wr => ∃ k : Nat, k ≤ n ∧ i = .int .i64 k ∧ Hid (∀ (j : Nat) (h : j < ts.length), j < k → ts[j].1 ≠ cl) ∧ Below w.heap.size w wr) (fun i _ _ => n - (intOf i).toNat)
  case atStart => exact ⟨0, Nat.zero_le _, rfl, hide (fun j h h' => absurd h' (by omega)), Below.refl _ _⟩
  case round =>
    obtain ⟨k, hk, rfl, hno, hbr⟩ := hrel
    by_cases hlt2 : k < n
    · have hlx : k < ts.length := by have := hn'.out; omega
      obtain ⟨b', off, rfl, hlo, hbh⟩ := hs.addr hlx
      obtain ⟨a0, a1, a2, a3, a4⟩ := (hs.below (flat_kept _) hbr hhi).ent hlx
      have hbr1 := hbr.size
      go_wp2_with fail
      refine (figure1_c ts[k] bc cl wr (keepc hbr hb) (by omega)).mono ?_
      rintro e w1 ⟨rfl, hb1⟩
      cases he : decide (ts[k].1 = cl)
      · have he' := hide (show ts[k].1 ≠ cl by simpa using he)
        go_wp2
        go_roundw
        case rel => exact ⟨k + 1, by omega, by go_num, hide (fun j hj hjk => by
          by_cases h2 : j < k
          · exact hno.out j hj h2
          · obtain rfl : j = k := by omega
            exact he'.out), hbr.trans (hb1.mono hbr.size)⟩
        case measure => simp [intOf]; omega
      · have hy := hide (atI_some hlx (by simpa using he) hno.out)
        go_wp2
        go_ret
        refine ⟨?_, hbr.trans (hb1.mono hbr.size)⟩
        rw [← atI_opt, hy.out]; rfl
    · obtain rfl : k = n := by omega
      have hy := hide (atI_none (es := ts) (c := cl) (fun i hi => hno.out i hi (by have := hn'.out; omega)))
      go_wp2
      go_ret
      refine ⟨?_, hbr⟩
      rw [← atI_opt, hy.out]; rfl
theorem figure_c (A : Option Addr) (n c : Nat) (B : Option Addr) (p d : Nat) (E : Option Addr) (q f : Nat) (D : Nat → Prop) (g : GameT) (cl : Int) (lo hi : Nat) (es : List EntT) (w : World) (hs : RdN 5 (flatR encEnt) w lo hi A n c es) (hhi : hi ≤ w.heap.size) :
    Calls Tryd.prog 70 #[.agg #[.slice A n c, .slice B p d, .slice E q f], .int .i64 cl] w fun e w' => e = .returned (.int .i64 (optI (figI es cl))) ∧ Below w.heap.size w w' := by
  have hA := ((Below.refl w.heap.size w).alloc (Nat.le_refl _) (.cells #[.slice A n c, .slice B p d, .slice E q f] 35)).alloc (by simp) (.cells #[.int .i64 cl] 3)
  have hb : ((w.alloc (.cells #[.slice A n c, .slice B p d, .slice E q f] 35)).alloc (.cells #[.int .i64 cl] 3)).cell? ⟨w.heap.size + 1, 0, none⟩ = some (.int .i64 cl) := by
    have := World.cell?_alloc_new (w.alloc (.cells #[.slice A n c, .slice B p d, .slice E q f] 35)) #[.int .i64 cl] 3 0
    simp only [World.size_alloc] at this
    exact this
  have hz : w.heap.size + 1 < ((w.alloc (.cells #[.slice A n c, .slice B p d, .slice E q f] 35)).alloc (.cells #[.int .i64 cl] 3)).heap.size := by simp
  have hs2 := hs.below (flat_kept _) hA hhi
  have hh2 : hi ≤ ((w.alloc (.cells #[.slice A n c, .slice B p d, .slice E q f] 35)).alloc (.cells #[.int .i64 cl] 3)).heap.size := Nat.le_trans hhi hA.size
  go_enter Tryd.func70, Tryd.ntmps70
  go_wp2_with fail
  refine (figIx_c A n c lo hi es (w.heap.size + 1) cl _ hs2 hh2 hb hz).mono ?_
  rintro e w1 ⟨rfl, hb1⟩
  go_wp2
  go_ret
  exact ⟨rfl, hA.trans (hb1.mono hA.size)⟩
theorem nearI_c (a b : EntT) (w : World) (ha : smallE a) (hb : smallE b) :
    Calls Tryd.prog 73 #[.agg #[.int .i64 a.1, .int .i64 a.2.1, .int .i64 a.2.2.1, .int .i64 a.2.2.2.1, .int .i64 a.2.2.2.2], .agg #[.int .i64 b.1, .int .i64 b.2.1, .int .i64 b.2.2.1, .int .i64 b.2.2.2.1, .int .i64 b.2.2.2.2], .int .i64 1] w fun e w' => e = .returned (.bool (decide (nearE a b))) ∧ Below w.heap.size w w' := by
  rw [nearE_eq]
  obtain ⟨⟨h1, h2⟩, h3, h4⟩ := ha
  obtain ⟨⟨h5, h6⟩, h7, h8⟩ := hb
  have hB := ((Below.refl w.heap.size w).alloc (Nat.le_refl _) (.cells #[.int .i64 a.1, .int .i64 a.2.1, .int .i64 a.2.2.1, .int .i64 a.2.2.2.1, .int .i64 a.2.2.2.2] 82)).alloc (by simp) (.cells #[.int .i64 b.1, .int .i64 b.2.1, .int .i64 b.2.2.1, .int .i64 b.2.2.2.1, .int .i64 b.2.2.2.2] 82)
  cases e1 : inB (a.2.1 - b.2.1) (-1) 1
  · go_enter Tryd.func73, Tryd.ntmps73
    go_wp2_with (go_at_call 54; refine (in_c _ _ _ _).mono ?_; rintro e _ ⟨rfl, rfl⟩)
    go_ret
    exact ⟨rfl, hB⟩
  · go_enter Tryd.func73, Tryd.ntmps73
    go_wp2_with (go_at_call 54; refine (in_c _ _ _ _).mono ?_; rintro e _ ⟨rfl, rfl⟩)
    go_ret
    exact ⟨rfl, hB⟩
theorem onBoard_c (x y : Int) (w : World) : Calls Tryd.prog 55 #[.int .i64 x, .int .i64 y] w fun e w' => e = .returned (.bool (inB x 0 3 && inB y 0 3)) ∧ w = w' := by
  cases e1 : inB x 0 3
  · go_enter Tryd.func55, Tryd.ntmps55
    go_wp2_with (go_at_call 54; refine (in_c _ _ _ _).mono ?_; rintro e _ ⟨rfl, rfl⟩)
    go_ret
    exact ⟨rfl, rfl⟩
  · go_enter Tryd.func55, Tryd.ntmps55
    go_wp2_with (go_at_call 54; refine (in_c _ _ _ _).mono ?_; rintro e _ ⟨rfl, rfl⟩)
    go_ret
    exact ⟨rfl, rfl⟩
theorem floor_c (A : Option Addr) (n c : Nat) (g1 off d : Nat) (E : Option Addr) (q f : Nat) (t : EntT) (w : World) (ht : smallE t) :
    Calls Tryd.prog 72 #[.agg #[.slice A n c, .slice (some ⟨g1, off, none⟩) 16 d, .slice E q f], .agg #[.int .i64 t.1, .int .i64 t.2.1, .int .i64 t.2.2.1, .int .i64 t.2.2.2.1, .int .i64 t.2.2.2.2]] w fun e w' => e = .returned (.pointer (some ⟨g1, off + sqr t, none⟩)) ∧ Below w.heap.size w w' := by
  obtain ⟨⟨h1, h2⟩, h3, h4⟩ := ht
  have hsq : t.2.2.1 * 4 + t.2.1 = (sqr t : Int) := by unfold sqr; omega
  have hs16 : sqr t < 16 := by unfold sqr; omega
  generalize sqr t = sq at *
  have hB := ((Below.refl w.heap.size w).alloc (Nat.le_refl _) (.cells #[.slice A n c, .slice (some ⟨g1, off, none⟩) 16 d, .slice E q f] 35)).alloc (by simp) (.cells #[.int .i64 t.1, .int .i64 t.2.1, .int .i64 t.2.2.1, .int .i64 t.2.2.2.1, .int .i64 t.2.2.2.2] 82)
  go_enter Tryd.func72, Tryd.ntmps72
  go_wp2
  go_ret
  exact ⟨rfl, hB⟩
end Go.Proofs.YtajmfonepnkofaaDoor
