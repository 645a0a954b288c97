/-
  What 'FVd' rests on (texts of this seat put together: DR).
  Conditions: none.
-/
import Derived.Test.YtopmbnnjhoinkaaVV1
import Derived.BigQuiet
import Derived.Deep.QuietTactic
import Derived.WalkSmall
namespace Go.Proofs.Ytopmbnnjhoinkaa
open Go.RowKit Rg
set_option linter.unusedVariables false
set_option linter.unusedSimpArgs false
set_option maxHeartbeats 1000000
def encU (x : Int) : List Value := [.int .u8 x]
theorem encU_len : ∀ x, (encU x).length = 1 := fun _ => rfl
def encI (x : Int) : List Value := [.int .i64 x]
theorem encI_len : ∀ x, (encI x).length = 1 := fun _ => rfl
theorem Sl.u8 {w : World} {lo hi b off k : Nat} {xs : List Int} (h : Sl encU 1 w lo hi (some ⟨b, off, none⟩) xs) (hk : k < xs.length) : w.cell? ⟨b, off + k, none⟩ = some (.int .u8 xs[k]) := by
  have := h.at_ hk 0 (.int .u8 xs[k]) rfl
  simpa using this
theorem Sl.i64 {w : World} {lo hi b off k : Nat} {xs : List Int} (h : Sl encI 1 w lo hi (some ⟨b, off, none⟩) xs) (hk : k < xs.length) : w.cell? ⟨b, off + k, none⟩ = some (.int .i64 xs[k]) := by
  have := h.at_ hk 0 (.int .i64 xs[k]) rfl
  simpa using this
theorem u8_wf {k : Int} (h : (Lit.int .u8 k).wf = true) : 0 ≤ k ∧ k < 256 := by
  simp [Lit.wf, IntKind.min, IntKind.max, IntKind.signed, IntKind.bits] at h
  omega
theorem sl_arr {α : Type} {enc : α → List Value} {sz : Nat} (hl : ∀ x, (enc x).length = sz) (w : World) (arr : Array Value) (e : TypeId) (xs : List α) (h : arr.toList = xs.flatMap enc) :
    Sl enc sz (w.alloc (.cells arr e)) w.heap.size (w.heap.size + 1) (some ⟨w.heap.size, 0, none⟩) xs := by
  intro _
  refine ⟨w.heap.size, 0, rfl, Nat.le_refl _, Nat.lt_succ_self _, fun i x hx j u hu => ?_⟩
  have h5 := flatMap_get hl xs i x hx j u hu
  rw [← h] at h5
  have h0 := heap_alloc_new w (.cells arr e)
  simp only [World.cell?, h0, Nat.zero_add]
  simpa using h5
def Rd (w : World) (g P : Nat) : Prop := ∃ (A : Option Addr) (n c p : Nat) (bs : List Int), w.heap[g]? = some (.cells #[.slice A n c, .int .i64 (p : Int)] 65) ∧ p ≤ P ∧ n = bs.length ∧ n ≤ 2000 ∧ n ≤ c ∧ c ≤ maxLen ∧ Sl encU 1 w 0 g A bs ∧ ∀ b ∈ bs, 0 ≤ b ∧ b < 256
theorem Rd.lt {w : World} {g P : Nat} (h : Rd w g P) : g < w.heap.size := by
  obtain ⟨A, n, c, p, bs, h1, _⟩ := h
  exact lt_of_heap h1
theorem Rd.mono {w : World} {g P P' : Nat} (h : Rd w g P) (hP : P ≤ P') : Rd w g P' := by
  obtain ⟨A, n, c, p, bs, h1, h2, h3⟩ := h
  exact ⟨A, n, c, p, bs, h1, by omega, h3⟩
theorem Rd.below {w w' : World} {g P B : Nat} (h : Rd w g P) (hb : Below B w w') (hB : g < B) : Rd w' g P := by
  obtain ⟨A, n, c, p, bs, h1, h2, h3, h4, h5, h6, h7, h8⟩ := h
  exact ⟨A, n, c, p, bs, (hb.block g hB).trans h1, h2, h3, h4, h5, h6, h7.below hb (by omega), h8⟩
theorem Rd.keep {w w' : World} {g P : Nat} (h : Rd w g P) (hb : Below w.heap.size w w') : Rd w' g P := h.below hb h.lt
theorem Rd.only {w w' : World} {g P : Nat} {k : Option Nat} (h : Rd w g P) (hb : Only w.heap.size k w w') (hk : ∀ j, k = some j → g < j) : Rd w' g P := by
  have hl := h.lt
  obtain ⟨A, n, c, p, bs, h1, h2, h3, h4, h5, h6, h7, h8⟩ := h
  refine ⟨A, n, c, p, bs, (hb.block g hl (fun e => by have := hk g e; omega)).trans h1, h2, h3, h4, h5, h6, h7.keep (fun b _ hb' => hb.block b (by omega) (fun e => by have := hk b e; omega)), h8⟩
theorem l20Open_c (A : Option Addr) (n c : Nat) (bs : List Int) (w : World) (hn : n = bs.length) (hc : n ≤ c) (hcm : c ≤ maxLen) (hs : Sl encU 1 w 0 w.heap.size A bs) (hb : ∀ b ∈ bs, 0 ≤ b ∧ b < 256) :
    Calls Try.prog 15 #[.slice A n c] w fun e w' => e = .returned (.pointer (some ⟨w.heap.size, 0, none⟩)) ∧ Rd w' w.heap.size 0 ∧ Below w.heap.size w w' := by
  have hn' := hide hn
  clear hn
  unfold maxLen at hcm
  by_cases h : 2000 < n
  · have d1 : decide (2000 < (n : Int)) = true := by simp; omega
    obtain ⟨b, off, rfl, hlo, hbh⟩ := hs.addr (k := 0) (by have := hn'.out; omega)
    go_enter Try.func15, Try.ntmps15
    go_wp2
    go_ret
    refine ⟨rfl, ⟨_, _, _, 0, bs.take 2000, heap_alloc_new w _, Nat.le_refl _, by have := hn'.out; simp; omega, Nat.le_refl _, by omega, by unfold maxLen; omega, (hs.take_ 2000).below ((Below.refl _ _).alloc (Nat.le_refl _) _) (Nat.le_refl _), fun b hb' => hb b (List.mem_of_mem_take hb')⟩, (Below.refl _ _).alloc (Nat.le_refl _) _⟩
  · have d1 : decide (2000 < (n : Int)) = false := by simp; omega
    go_enter Try.func15, Try.ntmps15
    go_wp2
    go_ret
    refine ⟨rfl, ⟨_, _, _, 0, bs, heap_alloc_new w _, Nat.le_refl _, hn'.out, by omega, by omega, by unfold maxLen; omega, hs.below ((Below.refl _ _).alloc (Nat.le_refl _) _) (Nat.le_refl _), hb⟩, (Below.refl _ _).alloc (Nat.le_refl _) _⟩
theorem wrap_i64_small (n : Nat) (h : n < 9223372036854775808) : IntKind.i64.wrap (n : Int) = (n : Int) := by
  have e : (n : Int) % 18446744073709551616 = (n : Int) := by omega
  show (if true && decide ((n : Int) % 18446744073709551616 ≥ 9223372036854775808) then (n : Int) % 18446744073709551616 - 18446744073709551616 else (n : Int) % 18446744073709551616) = (n : Int)
  rw [e, if_neg (by simp; omega)]
theorem xor_i64 (X Y : Int) (hX : 0 ≤ X) (hX2 : X < 4611686018427387904) (hY : 0 ≤ Y) (hY2 : Y < 4611686018427387904) : bits .xor .i64 X Y = ((X.toNat ^^^ Y.toNat : Nat) : Int) := by
  obtain ⟨a, rfl⟩ := Int.eq_ofNat_of_zero_le hX
  obtain ⟨b, rfl⟩ := Int.eq_ofNat_of_zero_le hY
  have hx : a ^^^ b < 2 ^ 62 := Nat.xor_lt_two_pow (by omega) (by omega)
  have h1 : (BitVec.ofInt 64 (a : Int)).toNat = a := by
    rw [BitVec.ofInt_natCast, BitVec.toNat_ofNat]; exact Nat.mod_eq_of_lt (by omega)
  have h2 : (BitVec.ofInt 64 (b : Int)).toNat = b := by
    rw [BitVec.ofInt_natCast, BitVec.toNat_ofNat]; exact Nat.mod_eq_of_lt (by omega)
  show IntKind.i64.wrap ((BitVec.ofInt 64 (a : Int) ^^^ BitVec.ofInt 64 (b : Int)).toNat : Int) = _
  rw [BitVec.toNat_xor, h1, h2, wrap_i64_small _ (by omega)]
  rfl
def PickR (n : Int) (k : Nat) : Prop := (0 < n → (k : Int) < n) ∧ (¬ 0 < n → k = 0)
set_option maxHeartbeats 2000000 in
theorem pick_c (g P : Nat) (n : Int) (w : World) (hr : Rd w g P) (hP : P ≤ 1000000) (hn : n ≤ 1000000000) :
    Calls Try.prog 25 #[.pointer (some ⟨g, 0, none⟩), .int .i64 n] w fun e w' => ∃ k : Nat, e = .returned (.int .i64 (k : Int)) ∧ PickR n k ∧ Rd w' g (P + 1) ∧ Only w.heap.size (some g) w w' := by
  have hlt := hr.lt
  obtain ⟨A, m, c, p, bs, h1, h2, h3, h4, h5, h6, h7, h8⟩ := hr
  have c0 : w.cell? ⟨g, 0, none⟩ = some (.slice A m c) := by simp [World.cell?, h1]
  have c1 : w.cell? ⟨g, 1, none⟩ = some (.int .i64 (p : Int)) := by simp [World.cell?, h1]
  have f1 : w.frozen? ⟨g, 1, none⟩ = false := by simp [World.frozen?, h1]
  have hon : Only w.heap.size (some g) w (w.setCell ⟨g, 1, none⟩ (.int .i64 ((p : Int) + 1))) := Only.put [.int .i64 ((p : Int) + 1)] (Only.refl _ _ _)
  have hrd : Rd (w.setCell ⟨g, 1, none⟩ (.int .i64 ((p : Int) + 1))) g (P + 1) := by
    obtain ⟨cur', k1, k2, k3⟩ := heap_putCells [.int .i64 ((p : Int) + 1)] w g 1 _ _ h1 (by simp)
    refine ⟨A, m, c, p + 1, bs, ?_, by omega, h3, h4, h5, h6, h7.keep (fun b _ hb => Below.heap_setCell w ⟨g, 1, none⟩ _ b (by simp; omega)), h8⟩
    have k4 : cur' = #[.slice A m c, .int .i64 ((p : Int) + 1)] := by
      apply Array.toList_inj.1
      rw [k3]
      rfl
    rw [k4] at k1
    exact k1
  have h3' := hide h3
  have hon' := hide hon
  have hrd' := hide hrd
  clear h3 hon hrd h1
  by_cases hn0 : n < 1
  · have d1 : decide (n < 1) = true := by simpa using hn0
    go_enter Try.func25, Try.ntmps25
    go_wp2
    go_ret
    exact ⟨0, rfl, ⟨fun h => by omega, fun _ => rfl⟩, hrd'.out, hon'.out⟩
  · have d1 : decide (n < 1) = false := by simpa using hn0
    obtain ⟨N, rfl⟩ : ∃ N : Nat, n = (N : Int) := ⟨n.toNat, by omega⟩
    have hN : 0 < N := by omega
    have q1 : (N : Int) ≠ 0 := by omega
    by_cases hm : m = 0
    · subst hm
      go_enter Try.func25, Try.ntmps25
      go_wp2
      go_ret
      exact ⟨0, rfl, ⟨fun h => by omega, fun _ => rfl⟩, hrd'.out, hon'.out⟩
    · have d2 : ((m : Int) == 0) = false := by simp; omega
      have e1 : (p : Int) + 1 - 1 = p := by omega
      have hx0 : 0 < bs.length := by have := h3'.out; omega
      obtain ⟨b, off, rfl, hlo, hbh⟩ := h7.addr hx0
      have hs' : Sl encU 1 (w.setCell ⟨g, 1, none⟩ (.int .i64 ((p : Int) + 1))) 0 g (some ⟨b, off, none⟩) bs := h7.keep (fun b _ hb => Below.heap_setCell w ⟨g, 1, none⟩ _ b (by simp; omega))
      by_cases hp : p < m
      · have hlx : p < bs.length := by have := h3'.out; omega
        have a1 := hs'.u8 hlx
        have hb := h8 bs[p] (List.getElem_mem _)
        have d3 : decide ((p : Int) < (m : Int)) = true := by simpa using hp
        go_enter Try.func25, Try.ntmps25
        go_wp2
        go_ret
        exact ⟨(bs[p] % (N : Int)).toNat, by rw [Int.toNat_of_nonneg (Int.emod_nonneg _ (by omega))]; rfl, ⟨fun _ => by rw [Int.toNat_of_nonneg (Int.emod_nonneg _ (by omega))]; exact Int.emod_lt_of_pos _ (by omega), fun h => absurd (by omega) h⟩, hrd'.out, hon'.out⟩
      · have d3 : decide ((p : Int) < (m : Int)) = false := by simpa using hp
        go_enter Try.func25, Try.ntmps25
        have g1 : p % m < bs.length := by have := h3'.out; have := Nat.mod_lt p (y := m) (by omega); omega
        have g2 : (p * 7 + 3) % m < bs.length := by have := h3'.out; have := Nat.mod_lt (p * 7 + 3) (y := m) (by omega); omega
        have a1 := hs'.u8 g1
        have a2 := hs'.u8 g2
        have hb1 := h8 _ (List.getElem_mem g1)
        have i1 : ((p : Int) % (m : Int)).toNat = p % m := by rw [← Int.natCast_emod]; rfl
        have i2 : (((p : Int) * 7 + 3) % (m : Int)).toNat = (p * 7 + 3) % m := by
          have : (((p : Int) * 7 + 3) % (m : Int)) = (((p * 7 + 3) % m : Nat) : Int) := by simp
          rw [this]; rfl
        have j1 : 0 ≤ (p : Int) % (m : Int) := Int.emod_nonneg _ (by omega)
        have j2 : (p : Int) % (m : Int) < (m : Int) := Int.emod_lt_of_pos _ (by omega)
        have j3 : 0 ≤ ((p : Int) * 7 + 3) % (m : Int) := Int.emod_nonneg _ (by omega)
        have j4 : ((p : Int) * 7 + 3) % (m : Int) < (m : Int) := Int.emod_lt_of_pos _ (by omega)
        have hb2 := h8 _ (List.getElem_mem g2)
        have j5 : 0 ≤ (p : Int) / (m : Int) := Int.ediv_nonneg (by omega) (by omega)
        have j6 : (p : Int) / (m : Int) ≤ 1000000 := Int.le_trans (Int.ediv_le_self _ (by omega)) (by omega)
        go_wp2
        go_quiet (fail)
        generalize hX : bs[p % m] * 131 + bs[(p * 7 + 3) % m] * 1117 + (p : Int) * 29 + (p : Int) / (m : Int) * 53 = X
        have x1 : 0 ≤ X := by omega
        have x2 : X ≤ 1000000000 := by omega
        clear hX j5 j6 j1 j2 j3 j4 i1 i2 a1 a2 hb1 hb2
        have hx := hide (xor_i64 X (X / 64) x1 (by omega) (by omega) (by omega))
        have hN' := hide hN
        go_wp2
        go_ret
        refine ⟨(X.toNat ^^^ (X / 64).toNat) % N, ?_, ⟨fun _ => ?_, fun h => absurd (by have := hN'.out; omega) h⟩, ?_, ?_⟩
        · show Ending.returned (.int .i64 ((bits .xor .i64 X (X / 64)).tmod (N : Int))) = _
          rw [hx.out, Int.tmod_eq_emod_of_nonneg (by omega)]
          rfl
        · have := Nat.mod_lt (X.toNat ^^^ (X / 64).toNat) hN'.out
          omega
        · obtain ⟨A', n', c', p', bs', t1, t2, t3, t4, t5, t6, t7, t8⟩ := hrd'.out
          exact ⟨A', n', c', p', bs', t1, t2, t3, t4, t5, t6, t7, t8⟩
        · exact hon'.out.trans (Only.of_below (below_drewN (Below.refl _ _) _))
theorem Sl.only {α : Type} {enc : α → List Value} {sz lo hi : Nat} {w w' : World} {A : Option Addr} {xs : List α} {g B : Nat} (h : Sl enc sz w lo hi A xs) (ho : Only B (some g) w w') (hg : g < lo) (hhi : hi ≤ B) : Sl enc sz w' lo hi A xs :=
  h.keep fun b h1 h2 => ho.block b (by omega) (fun e => by injection e with e; omega)
theorem one_c (g P lo hi : Nat) (A : Option Addr) (n c : Nat) (xs : List Int) (w : World) (hr : Rd w g P) (hP : P ≤ 1000000) (hn : n = xs.length) (h0 : 0 < n) (hb : n ≤ 1000) (hs : Sl encI 1 w lo hi A xs) (hlo : g < lo) (hhi : hi ≤ w.heap.size) :
    Calls Try.prog 53 #[.pointer (some ⟨g, 0, none⟩), .slice A n c] w fun e w' => ∃ x, x ∈ xs ∧ e = .returned (.int .i64 x) ∧ Rd w' g (P + 1) ∧ Only w.heap.size (some g) w w' := by
  have hn' := hide hn
  clear hn
  go_enter Try.func53, Try.ntmps53
  go_wp2_with fail
  refine (pick_c g P (n : Int) w hr hP (by omega)).mono ?_
  rintro e w1 ⟨k, rfl, hk, hr1, ho1⟩
  have hk1 : k < n := by have := hk.1 (by omega); omega
  have hkx : k < xs.length := by have := hn'.out; omega
  have hs1 := hs.only ho1 hlo hhi
  obtain ⟨b, off, rfl, hlo', hbh⟩ := hs1.addr hkx
  have a1 := hs1.i64 hkx
  have hm := hide (List.getElem_mem hkx)
  have hr1' := hide hr1
  have ho1' := hide ho1
  clear hr1 ho1 hk
  go_wp2
  go_ret
  exact ⟨xs[k], hm.out, rfl, hr1'.out, ho1'.out⟩
end Go.Proofs.Ytopmbnnjhoinkaa
