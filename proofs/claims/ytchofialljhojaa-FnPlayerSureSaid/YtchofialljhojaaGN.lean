/-
  'FnPlayerSure' returns true, for every code: who is sure has two answers alike at least, to what was asked.
  Conditions: none.
-/
import Derived.Test.YtchofialljhojaaGM
import Derived.Test.YtchofialljhojaaGH
namespace Go.Proofs.Ytchofialljhojaa
open Go.RowKit Rg
set_option linter.unusedVariables false

theorem sureF_iff (xs : List ReplyT) : (sureF xs xs).2 = true ↔ ∃ (j : Nat) (h : j < xs.length), 2 ≤ most xs xs[j] := by
  unfold sureF
  split
  · rename_i t ht
    refine ⟨fun _ => ?_, fun _ => rfl⟩
    obtain ⟨j, hj, he⟩ := List.mem_iff_getElem.1 (List.mem_of_find?_eq_some ht)
    have := List.find?_some ht
    exact ⟨j, hj, by rw [he]; simpa using this⟩
  · rename_i ht
    refine ⟨fun h => (by cases h), fun ⟨j, hj, h⟩ => ?_⟩
    have := List.find?_eq_none.1 ht xs[j] (List.getElem_mem hj)
    simp at this
    omega
theorem sureF_mem {xs : List ReplyT} (h : (sureF xs xs).2 = true) : (sureF xs xs).1 ∈ xs := by
  unfold sureF at h ⊢
  split at h
  · rename_i t ht
    exact List.mem_of_find?_eq_some ht
  · cases h
theorem best_step {xs : List ReplyT} {i B m B' : Nat} (hi : i < xs.length) (hm : most xs xs[i] = m) (hb : 2 ≤ B ↔ ∃ (j : Nat) (h : j < xs.length), j < i ∧ 2 ≤ most xs xs[j]) (hB : B < m ∧ B' = m ∨ ¬ B < m ∧ B' = B) : 2 ≤ B' ↔ ∃ (j : Nat) (h : j < xs.length), j < i + 1 ∧ 2 ≤ most xs xs[j] := by
  constructor
  · intro h
    by_cases h2 : 2 ≤ m
    · exact ⟨i, hi, by omega, by omega⟩
    · have h3 : 2 ≤ B := by omega
      obtain ⟨j, hj, h4, h5⟩ := hb.1 h3
      exact ⟨j, hj, by omega, h5⟩
  · rintro ⟨j, hj, h4, h5⟩
    by_cases h6 : j = i
    · subst h6; omega
    · have := hb.2 ⟨j, hj, by omega, h5⟩
      omega
theorem DrawPlayerSure_c (A : Option Addr) (n c : Nat) (bs : List Int) (w : World) (hn : n = bs.length) (hc : n ≤ c) (hcm : c ≤ maxLen) (hs : Sl encU 1 w 0 w.heap.size A bs) (hb : ∀ b ∈ bs, 0 ≤ b ∧ b < 256) :
    Calls Try.prog 21 #[.slice A n c] w fun e w' => ∃ (r : ReqV) (A' : Option Addr) (n' c' : Nat) (xs : List ReplyT), e = .returned (.agg #[.int .i64 r.1, .int .i64 r.2.1, .int .i64 r.2.2.1, .int .i64 r.2.2.2.1, .int .i64 r.2.2.2.2, .slice A' n' c']) ∧ n' = xs.length ∧ n' ≤ 10 ∧ Own encReply 4 37 w' w.heap.size (.slice A' n' c') xs ∧ Below w.heap.size w w' := by
  have hn' := hide hn
  have hb' := hide hb
  clear hn hb
  have hb0 : Below w.heap.size w (w.alloc (.cells #[.int .i64 0, .int .i64 0, .int .i64 0, .int .i64 0, .int .i64 0, .slice none 0 0] 32)) := (Below.refl _ _).alloc (Nat.le_refl _) _
  have hx0 := Box6.made w 0 0 0 0 0 none 0 0 32
  have hs0 := hs.below hb0 (Nat.le_refl _)
  go_enter Try.func21, Try.ntmps21
  go_wp2_with fail
  generalize w.alloc (.cells #[.int .i64 0, .int .i64 0, .int .i64 0, .int .i64 0, .int .i64 0, .slice none 0 0] 32) = w0 at *
  have hl0 : w.heap.size < w0.heap.size := hx0.lt
  refine (l20Open_c A n c bs w0 hn'.out hc hcm (hs0.mono (Nat.le_refl _) hb0.size) hb'.out).mono ?_
  rintro e w1 ⟨rfl, hr1, hb1⟩
  have hB1 := hb0.trans (hb1.mono hb0.size)
  have hx1 := hx0.below hb1
  have hl1 : w0.heap.size < w1.heap.size := hr1.lt
  go_wp2_with fail
  refine (l20Player_c _ 0 w1 hr1 (by omega)).mono ?_
  rintro e w2 ⟨r, A2, n2, c2, xs, rfl, hnx, hn10, ho2, hr2, h2⟩
  have hx2 := hx1.only h2 (by intro h; injection h with h; omega)
  have hB2 := hB1.trans (h2.toBelow hB1.size (fun k hk => by injection hk with hk; omega))
  have hnx' := hide hnx
  clear hnx
  obtain ⟨x0, x1, x2, x3, x4, x5, xf0, xf1, xf2, xf3, xf4, xf5⟩ := hx2
  go_wp2
  exact bodyPost_ret (v := .agg #[.int .i64 r.1, .int .i64 r.2.1, .int .i64 r.2.2.1, .int .i64 r.2.2.2.1, .int .i64 r.2.2.2.2, .slice A2 n2 c2]) (by simp [results, Try.results21, go_sem, x0, x1, x2, x3, x4, x5]) rfl ⟨r, A2, n2, c2, xs, rfl, hnx'.out, hn10, (ho2.mono hB1.size).set6 _ _ _ _ _ _ (fun k hk => by have := (ho2.lt k hk).1; omega), set6_below _ _ _ _ _ _ (Nat.le_refl _) hB2⟩

set_option maxRecDepth 100000 in
set_option maxHeartbeats 2000000 in
theorem lawPlayerSureD (A : Option Addr) (n c : Nat) (bs : List Int) (w : World) (hn : n = bs.length) (hc : n ≤ c) (hcm : c ≤ maxLen) (hs : Sl encU 1 w 0 w.heap.size A bs) (hb : ∀ b ∈ bs, 0 ≤ b ∧ b < 256) :
    Calls Try.prog 5 #[.slice A n c] w fun e w' => e = .returned (.bool true) ∧ Below w.heap.size w w' := by
  have hn' := hide hn
  have hb' := hide hb
  clear hn hb
  by_cases hbig : 1048576 < n
  · have d1 : decide (1048576 < (n : Int)) = true := by simp; omega
    go_enter Try.func5, Try.ntmps5
    go_wp2
    go_ret
    exact ⟨rfl, Below.refl _ _⟩
  · have d1 : decide (1048576 < (n : Int)) = false := by simp; omega
    go_enter Try.func5, Try.ntmps5
    go_wp2_with fail
    refine (DrawPlayerSure_c A n c bs w hn'.out hc hcm hs hb'.out).mono ?_
    rintro e w1 ⟨r, A2, n2, c2, xs, rfl, rfl, hn10, ho1, hB1⟩
    have h1c := ho1.cap
    have hA2 := (Below.refl w1.heap.size w1).alloc (Nat.le_refl _) (.cells #[.int .i64 r.1, .int .i64 r.2.1, .int .i64 r.2.2.1, .int .i64 r.2.2.2.1, .int .i64 r.2.2.2.2, .slice A2 xs.length c2] 32)
    have hB2 := hB1.trans (hA2.mono hB1.size)
    have ho2 := ho1.alloc (.cells #[.int .i64 r.1, .int .i64 r.2.1, .int .i64 r.2.2.1, .int .i64 r.2.2.2.1, .int .i64 r.2.2.2.2, .slice A2 xs.length c2] 32)
    have x0 : (w1.alloc (.cells #[.int .i64 r.1, .int .i64 r.2.1, .int .i64 r.2.2.1, .int .i64 r.2.2.2.1, .int .i64 r.2.2.2.2, .slice A2 xs.length c2] 32)).cell? ⟨w1.heap.size, 0, none⟩ = some (.int .i64 r.1) := by simp
    have x1 : (w1.alloc (.cells #[.int .i64 r.1, .int .i64 r.2.1, .int .i64 r.2.2.1, .int .i64 r.2.2.2.1, .int .i64 r.2.2.2.2, .slice A2 xs.length c2] 32)).cell? ⟨w1.heap.size, 1, none⟩ = some (.int .i64 r.2.1) := by simp
    have x2 : (w1.alloc (.cells #[.int .i64 r.1, .int .i64 r.2.1, .int .i64 r.2.2.1, .int .i64 r.2.2.2.1, .int .i64 r.2.2.2.2, .slice A2 xs.length c2] 32)).cell? ⟨w1.heap.size, 2, none⟩ = some (.int .i64 r.2.2.1) := by simp
    have x3 : (w1.alloc (.cells #[.int .i64 r.1, .int .i64 r.2.1, .int .i64 r.2.2.1, .int .i64 r.2.2.2.1, .int .i64 r.2.2.2.2, .slice A2 xs.length c2] 32)).cell? ⟨w1.heap.size, 3, none⟩ = some (.int .i64 r.2.2.2.1) := by simp
    have x4 : (w1.alloc (.cells #[.int .i64 r.1, .int .i64 r.2.1, .int .i64 r.2.2.1, .int .i64 r.2.2.2.1, .int .i64 r.2.2.2.2, .slice A2 xs.length c2] 32)).cell? ⟨w1.heap.size, 4, none⟩ = some (.int .i64 r.2.2.2.2) := by simp
    have x5 : (w1.alloc (.cells #[.int .i64 r.1, .int .i64 r.2.1, .int .i64 r.2.2.1, .int .i64 r.2.2.2.1, .int .i64 r.2.2.2.2, .slice A2 xs.length c2] 32)).cell? ⟨w1.heap.size, 5, none⟩ = some (.slice A2 xs.length c2) := by simp
    go_wp2_with fail
    generalize w1.alloc (.cells #[.int .i64 r.1, .int .i64 r.2.1, .int .i64 r.2.2.1, .int .i64 r.2.2.2.1, .int .i64 r.2.2.2.2, .slice A2 xs.length c2] 32) = w2 at *
    have hl2 : w1.heap.size < w2.heap.size := lt_of_cell x0
    refine (PlayerSure_c r A2 xs.length c2 _ _ xs w2 rfl (by omega) h1c.1 h1c.2 (ho2.slAt encReply_len).2.2 (Nat.le_refl _)).mono ?_
    rintro e w3 ⟨rfl, hb3⟩
    have hB3 := hB2.trans (hb3.mono hB2.size)
    have ho3 := ho2.below hb3 (Nat.le_refl _)
    have hA3 := (Below.refl w3.heap.size w3).alloc (Nat.le_refl _) (.cells #[.int .i64 (sureL r xs).1.1, .int .i64 (sureL r xs).1.2.1, .int .i64 (sureL r xs).1.2.2.1, .int .i64 (sureL r xs).1.2.2.2] 37)
    have hB4 := hB3.trans (hA3.mono hB3.size)
    have ho4 := ho3.alloc (.cells #[.int .i64 (sureL r xs).1.1, .int .i64 (sureL r xs).1.2.1, .int .i64 (sureL r xs).1.2.2.1, .int .i64 (sureL r xs).1.2.2.2] 37)
    have x0 := keepc hb3 x0
    have x1 := keepc hb3 x1
    have x2 := keepc hb3 x2
    have x3 := keepc hb3 x3
    have x4 := keepc hb3 x4
    have x5 := keepc hb3 x5
    have x0 := keepc hA3 x0
    have x1 := keepc hA3 x1
    have x2 := keepc hA3 x2
    have x3 := keepc hA3 x3
    have x4 := keepc hA3 x4
    have x5 := keepc hA3 x5
    have y0 : (w3.alloc (.cells #[.int .i64 (sureL r xs).1.1, .int .i64 (sureL r xs).1.2.1, .int .i64 (sureL r xs).1.2.2.1, .int .i64 (sureL r xs).1.2.2.2] 37)).cell? ⟨w3.heap.size, 0, none⟩ = some (.int .i64 (sureL r xs).1.1) := by simp
    have y1 : (w3.alloc (.cells #[.int .i64 (sureL r xs).1.1, .int .i64 (sureL r xs).1.2.1, .int .i64 (sureL r xs).1.2.2.1, .int .i64 (sureL r xs).1.2.2.2] 37)).cell? ⟨w3.heap.size, 1, none⟩ = some (.int .i64 (sureL r xs).1.2.1) := by simp
    have y2 : (w3.alloc (.cells #[.int .i64 (sureL r xs).1.1, .int .i64 (sureL r xs).1.2.1, .int .i64 (sureL r xs).1.2.2.1, .int .i64 (sureL r xs).1.2.2.2] 37)).cell? ⟨w3.heap.size, 2, none⟩ = some (.int .i64 (sureL r xs).1.2.2.1) := by simp
    have y3 : (w3.alloc (.cells #[.int .i64 (sureL r xs).1.1, .int .i64 (sureL r xs).1.2.1, .int .i64 (sureL r xs).1.2.2.1, .int .i64 (sureL r xs).1.2.2.2] 37)).cell? ⟨w3.heap.size, 3, none⟩ = some (.int .i64 (sureL r xs).1.2.2.2) := by simp
    go_wp2_with fail
    generalize w3.alloc (.cells #[.int .i64 (sureL r xs).1.1, .int .i64 (sureL r xs).1.2.1, .int .i64 (sureL r xs).1.2.2.1, .int .i64 (sureL r xs).1.2.2.2] 37) = w4 at *
    refine (specPlayerSure_c r A2 xs.length c2 _ _ xs w4 rfl (by omega) h1c.1 h1c.2 (ho4.slAt encReply_len).2.2 (Nat.le_refl _)).mono ?_
    rintro e w5 ⟨rfl, hb5⟩
    have hB5 := hB4.trans (hb5.mono hB4.size)
    have ho5 := ho4.below hb5 (Nat.le_refl _)
    have hA5 := (Below.refl w5.heap.size w5).alloc (Nat.le_refl _) (.cells #[.int .i64 (sureL r xs).1.1, .int .i64 (sureL r xs).1.2.1, .int .i64 (sureL r xs).1.2.2.1, .int .i64 (sureL r xs).1.2.2.2] 37)
    have hB6 := hB5.trans (hA5.mono hB5.size)
    have ho6 := ho5.alloc (.cells #[.int .i64 (sureL r xs).1.1, .int .i64 (sureL r xs).1.2.1, .int .i64 (sureL r xs).1.2.2.1, .int .i64 (sureL r xs).1.2.2.2] 37)
    have x0 := keepc hb5 x0
    have x1 := keepc hb5 x1
    have x2 := keepc hb5 x2
    have x3 := keepc hb5 x3
    have x4 := keepc hb5 x4
    have x5 := keepc hb5 x5
    have y0 := keepc hb5 y0
    have y1 := keepc hb5 y1
    have y2 := keepc hb5 y2
    have y3 := keepc hb5 y3
    have x0 := keepc hA5 x0
    have x1 := keepc hA5 x1
    have x2 := keepc hA5 x2
    have x3 := keepc hA5 x3
    have x4 := keepc hA5 x4
    have x5 := keepc hA5 x5
    have y0 := keepc hA5 y0
    have y1 := keepc hA5 y1
    have y2 := keepc hA5 y2
    have y3 := keepc hA5 y3
    have z0 : (w5.alloc (.cells #[.int .i64 (sureL r xs).1.1, .int .i64 (sureL r xs).1.2.1, .int .i64 (sureL r xs).1.2.2.1, .int .i64 (sureL r xs).1.2.2.2] 37)).cell? ⟨w5.heap.size, 0, none⟩ = some (.int .i64 (sureL r xs).1.1) := by simp
    have z1 : (w5.alloc (.cells #[.int .i64 (sureL r xs).1.1, .int .i64 (sureL r xs).1.2.1, .int .i64 (sureL r xs).1.2.2.1, .int .i64 (sureL r xs).1.2.2.2] 37)).cell? ⟨w5.heap.size, 1, none⟩ = some (.int .i64 (sureL r xs).1.2.1) := by simp
    have z2 : (w5.alloc (.cells #[.int .i64 (sureL r xs).1.1, .int .i64 (sureL r xs).1.2.1, .int .i64 (sureL r xs).1.2.2.1, .int .i64 (sureL r xs).1.2.2.2] 37)).cell? ⟨w5.heap.size, 2, none⟩ = some (.int .i64 (sureL r xs).1.2.2.1) := by simp
    have z3 : (w5.alloc (.cells #[.int .i64 (sureL r xs).1.1, .int .i64 (sureL r xs).1.2.1, .int .i64 (sureL r xs).1.2.2.1, .int .i64 (sureL r xs).1.2.2.2] 37)).cell? ⟨w5.heap.size, 3, none⟩ = some (.int .i64 (sureL r xs).1.2.2.2) := by simp
    have q1 : ((sureL r xs).2 != (sureL r xs).2) = false := by simp
    have q2 : ((sureL r xs).2 == (sureL r xs).2) = true := by simp
    go_wp2_with fail
    generalize w5.alloc (.cells #[.int .i64 (sureL r xs).1.1, .int .i64 (sureL r xs).1.2.1, .int .i64 (sureL r xs).1.2.2.1, .int .i64 (sureL r xs).1.2.2.2] 37) = w6 at *
    refine (PlayerOk_c r A2 xs.length c2 _ _ xs w6 rfl (by omega) h1c.1 h1c.2 (ho6.slAt encReply_len).2.2 (Nat.le_refl _)).mono ?_
    rintro e w7 ⟨rfl, hb7⟩
    have hB7 := hB6.trans (hb7.mono hB6.size)
    have ho7 := ho6.below hb7 (Nat.le_refl _)
    have x0 := keepc hb7 x0
    have x1 := keepc hb7 x1
    have x2 := keepc hb7 x2
    have x3 := keepc hb7 x3
    have x4 := keepc hb7 x4
    have x5 := keepc hb7 x5
    have y0 := keepc hb7 y0
    have y1 := keepc hb7 y1
    have y2 := keepc hb7 y2
    have y3 := keepc hb7 y3
    have z0 := keepc hb7 z0
    have z1 := keepc hb7 z1
    have z2 := keepc hb7 z2
    have z3 := keepc hb7 z3
    clear hb3 hA3 hb5 hA5 hb7 ho1 ho2 ho3 ho4 ho5 ho6 hB1 hB2 hB3 hB4 hB5 hB6 hA2
    cases e1 : decide (okPl r xs)
    · go_wp2
      go_ret
      exact ⟨rfl, hB7⟩
    · have hok := of_decide_eq_true e1
      have hsl := hide (sureL_ok e1)
      have hiff : Hid ((sureL r xs).2 = true ↔ ∃ (j : Nat) (h : j < xs.length), 2 ≤ most xs xs[j]) := hide (by rw [hsl.out]; exact sureF_iff xs)
      have hnum : Hid ((sureL r xs).2 = true → (sureL r xs).1.2.1 = r.2.1) := hide (fun h => by
        rw [hsl.out] at h ⊢
        obtain ⟨j, hj, he⟩ := List.mem_iff_getElem.1 (sureF_mem h)
        have h2 := (okPl_from hok hj).2.1
        rw [he] at h2
        exact h2)
      have hl7 : w1.heap.size < w7.heap.size := lt_of_cell x0
      clear hok
      go_wp2_with fail
      go_loopw [8, 9, 10, 11] (fun bv iv _ _ wr => ∃ (B i : Nat), B ≤ xs.length ∧ i ≤ xs.length ∧ bv = .int .i64 (B : Int) ∧ iv = .int .i64 (i : Int) ∧ Hid (2 ≤ B ↔ ∃ (j : Nat) (h : j < xs.length), j < i ∧ 2 ≤ most xs xs[j]) ∧ Below w7.heap.size w7 wr) (fun _ iv _ _ _ => xs.length - (intOf iv).toNat)
      case atStart => exact ⟨0, 0, Nat.zero_le _, Nat.zero_le _, rfl, rfl, hide ⟨fun h => absurd h (by omega), fun ⟨j, h, h2, _⟩ => absurd h2 (by omega)⟩, Below.refl _ _⟩
      case round =>
        obtain ⟨B, i, hB, hi, rfl, rfl, hbest, hbr⟩ := hrel
        have hor := ho7.below hbr (Nat.le_refl _)
        have x0o := x0
        have x5o := x5
        have hBr := hB7.trans (hbr.mono hB7.size)
        have x0 := keepc hbr x0
        have x1 := keepc hbr x1
        have x2 := keepc hbr x2
        have x3 := keepc hbr x3
        have x4 := keepc hbr x4
        have x5 := keepc hbr x5
        have y0 := keepc hbr y0
        have y1 := keepc hbr y1
        have y2 := keepc hbr y2
        have y3 := keepc hbr y3
        by_cases hlt : i < xs.length
        · go_wp2_with fail
          go_loopw [10, 11] (fun mv kv wr2 => ∃ (k m : Nat), k ≤ xs.length ∧ m ≤ k ∧ kv = .int .i64 (k : Int) ∧ mv = .int .i64 (m : Int) ∧ Hid (most xs xs[i] = m + most (xs.drop k) xs[i]) ∧ Below w7.heap.size w7 wr2) (fun _ kv _ => xs.length - (intOf kv).toNat)
          case atStart => exact ⟨0, 0, Nat.zero_le _, Nat.le_refl _, rfl, rfl, hide (by simp), hbr⟩
          case round =>
            obtain ⟨k, m, hk, hmk, rfl, rfl, hms, hbs⟩ := hrel
            have hos := ho7.below hbs (Nat.le_refl _)
            have x0 := keepc hbs x0o
            have x5 := keepc hbs x5o
            by_cases hkl : k < xs.length
            · have hst := hide (most_step hkl hms.out)
              obtain ⟨b, rfl, hlo, hbh⟩ := hos.addrAt hkl
              obtain ⟨a1, a2, a3, a4⟩ := (hos.slAt encReply_len).2.2.getReply hkl
              obtain ⟨c1, c2', c3, c4⟩ := (hos.slAt encReply_len).2.2.getReply hlt
              simp only [Nat.zero_add] at a1 a2 a3 a4 c1 c2' c3 c4
              cases e2 : (xs[k].2.2.1 == xs[i].2.2.1)
              · have hno : Hid (alike xs[k] xs[i] = false) := hide (by simp [alike, e2])
                go_wp2
                refine wp_region_T (fun _ => True) [] [] [] [0, 1, 2, 3, 4, 5, 6, 7, 8, 9, 10, 11, 12, 13, 14, 15, 16, 17, 18, 19, 20, 21, 22, 23, 24, 25, 26, 27] (by kernel_rfl) (by kernel_rfl) (by kernel_rfl) trivial ?_; simp only [pickL, List.getElem?_cons_succ, List.getElem?_cons_zero]
                go_wp2_with (first
                  | ((with_reducible refine wpT_q0 ?_ ?_ ?_ ?_); (focus rfl); (focus rfl); (focus rfl); intro K hK) | ((with_reducible refine wpT_x0 ?_ ?_ ?_); (focus rfl); (focus rfl); intro K hK) | ((with_reducible refine wpT_noL ?_ ?_); (focus (first | exact wanted_no _ _ _ rfl rfl rfl | exact wanted_un _ _ _ rfl rfl rfl)); simp only [setO, List.set_cons_succ, List.set_cons_zero]) | ((with_reducible refine wpT_q1 ?_ ?_ ?_ ?_); (focus exact wanted_yes _ _ _ rfl rfl rfl); (focus rfl); (focus rfl); intro K hK) | ((with_reducible refine wpT_x1 ?_ ?_ ?_); (focus exact wanted_yes _ _ _ rfl rfl rfl); (focus rfl); intro K hK) | ((with_reducible refine wpT_nil ?_); try dsimp only)
                  | fail)
                go_roundw
                case rel => exact ⟨k + 1, m, by omega, by omega, by go_num, rfl, hide (by have := hst.out; rw [hno.out] at this; simpa using this), hbs.drew⟩
                case measure => simp [intOf]; omega
              · cases e3 : (xs[k].2.2.2 == xs[i].2.2.2)
                · have hno : Hid (alike xs[k] xs[i] = false) := hide (by simp [alike, e3])
                  go_wp2
                  refine wp_region_T (fun _ => True) [] [] [] [0, 1, 2, 3, 4, 5, 6, 7, 8, 9, 10, 11, 12, 13, 14, 15, 16, 17, 18, 19, 20, 21, 22, 23, 24, 25, 26, 27] (by kernel_rfl) (by kernel_rfl) (by kernel_rfl) trivial ?_; simp only [pickL, List.getElem?_cons_succ, List.getElem?_cons_zero]
                  go_wp2_with (first
                    | ((with_reducible refine wpT_q0 ?_ ?_ ?_ ?_); (focus rfl); (focus rfl); (focus rfl); intro K hK) | ((with_reducible refine wpT_x0 ?_ ?_ ?_); (focus rfl); (focus rfl); intro K hK) | ((with_reducible refine wpT_noL ?_ ?_); (focus (first | exact wanted_no _ _ _ rfl rfl rfl | exact wanted_un _ _ _ rfl rfl rfl)); simp only [setO, List.set_cons_succ, List.set_cons_zero]) | ((with_reducible refine wpT_q1 ?_ ?_ ?_ ?_); (focus exact wanted_yes _ _ _ rfl rfl rfl); (focus rfl); (focus rfl); intro K hK) | ((with_reducible refine wpT_x1 ?_ ?_ ?_); (focus exact wanted_yes _ _ _ rfl rfl rfl); (focus rfl); intro K hK) | ((with_reducible refine wpT_nil ?_); try dsimp only)
                    | fail)
                  go_roundw
                  case rel => exact ⟨k + 1, m, by omega, by omega, by go_num, rfl, hide (by have := hst.out; rw [hno.out] at this; simpa using this), hbs.drew⟩
                  case measure => simp [intOf]; omega
                · have hno : Hid (alike xs[k] xs[i] = true) := hide (by simp only [alike, e2, e3]; rfl)
                  go_wp2
                  refine wp_region_T (fun _ => True) [] [] [] [0, 1, 2, 3, 4, 5, 6, 7, 8, 9, 10, 11, 12, 13, 14, 15, 16, 17, 18, 19, 20, 21, 22, 23, 24, 25, 26, 27] (by kernel_rfl) (by kernel_rfl) (by kernel_rfl) trivial ?_; simp only [pickL, List.getElem?_cons_succ, List.getElem?_cons_zero]
                  go_wp2_with (first
                    | ((with_reducible refine wpT_q0 ?_ ?_ ?_ ?_); (focus rfl); (focus rfl); (focus rfl); intro K hK) | ((with_reducible refine wpT_x0 ?_ ?_ ?_); (focus rfl); (focus rfl); intro K hK) | ((with_reducible refine wpT_noL ?_ ?_); (focus (first | exact wanted_no _ _ _ rfl rfl rfl | exact wanted_un _ _ _ rfl rfl rfl)); simp only [setO, List.set_cons_succ, List.set_cons_zero]) | ((with_reducible refine wpT_q1 ?_ ?_ ?_ ?_); (focus exact wanted_yes _ _ _ rfl rfl rfl); (focus rfl); (focus rfl); intro K hK) | ((with_reducible refine wpT_x1 ?_ ?_ ?_); (focus exact wanted_yes _ _ _ rfl rfl rfl); (focus rfl); intro K hK) | ((with_reducible refine wpT_nil ?_); try dsimp only)
                    | fail)
                  go_roundw
                  case rel => exact ⟨k + 1, m + 1, by omega, by omega, by go_num, by go_num, hide (by have := hst.out; rw [hno.out] at this; simpa using this), hbs.drew⟩
                  case measure => simp [intOf]; omega
            · obtain rfl : k = xs.length := by omega
              have hf : Hid (most xs xs[i] = m) := hide (by rw [hms.out, List.drop_of_length_le (Nat.le_refl _)]; rfl)
              by_cases hgt : B < m
              · have d5 : decide ((B : Int) < (m : Int)) = true := by simp; omega
                go_wp2
                go_roundw
                case rel => exact ⟨m, i + 1, by omega, by omega, rfl, by go_num, hide (best_step hlt hf.out hbest.out (.inl ⟨hgt, rfl⟩)), hbs⟩
                case measure => simp [intOf]; omega
              · have d5 : decide ((B : Int) < (m : Int)) = false := by simp; omega
                go_wp2
                go_roundw
                case rel => exact ⟨B, i + 1, by omega, by omega, rfl, by go_num, hide (best_step hlt hf.out hbest.out (.inr ⟨hgt, rfl⟩)), hbs⟩
                case measure => simp [intOf]; omega
        · obtain rfl : i = xs.length := by omega
          have hfin : Hid ((sureL r xs).2 = true ↔ 2 ≤ B) := hide (hiff.out.trans (Iff.trans ⟨fun ⟨j, h, h2⟩ => ⟨j, h, h, h2⟩, fun ⟨j, h, _, h2⟩ => ⟨j, h, h2⟩⟩ hbest.out.symm))
          have e9 : ((sureL r xs).2 == decide (2 ≤ (B : Int))) = true := by
            have h9 := hfin.out
            rw [beq_iff_eq, Bool.eq_iff_iff, decide_eq_true_eq]
            rw [h9]
            omega
          cases e8 : (sureL r xs).2
          · rw [e8] at e9
            go_wp2
            go_ret
            exact ⟨rfl, hBr⟩
          · have e7 : ((sureL r xs).1.2.1 == r.2.1) = true := by simpa using hnum.out e8
            rw [e8] at e9
            go_wp2
            go_ret
            exact ⟨rfl, hBr⟩

/-! ### The row of 'laws.FnPlayerSure' -/
namespace FnPlayerSure
open Go.ChangeShapes Go.WideShapes Go.ChangeAt Go.RowKit
open Go.ChangeMaps (open_string shut_string)
theorem own : ownKnob Try.prog.godebug = none := by kernel_rfl
theorem laidOut : laidOutB Try.prog = true := by kernel_rfl

set_option maxRecDepth 100000 in
theorem lifted (os : Os) (started : os.Started) (H : Type) (enc : TypeId × Value → H) :
    ReturnsInHanded {} Try.checked os 5 .any (Rows.fnPlayerSureSpec.pre6 enc Try.prog Try.f5 Rows.fnPlayerSureRow.domain false) (Rows.fnPlayerSureSpec.post enc Try.prog Try.f5 false true false false) := by
  refine returnsInHanded_of_change (C := Try.checked) own started (by kernel_rfl) Try.func5
    (ChangeSpec.witness6 (enc := enc) (C := Try.checked) false ⟨#[], #[.slice none 0 0], []⟩ 8 (by kernel_rfl) (by kernel_rfl) (by kernel_rfl) (by kernel_rfl)) ?_
  intro W base args ds gs before hval0 hW hcnd _
  have hval : ∀ (j : Nat) t v, Try.f5.params[j]? = some t → args[j]? = some v → Value.okWide Try.prog W .any base t v := hval0
  have hW' := hW
  obtain ⟨p, q, hA0, hV, rfl, hfz, hnd⟩ := hW
  have hA : DataW.TrodAll enc Try.prog W 0 (fun _ => true) true Try.f5.params.toList args.toList ds p := hA0
  rw [Try.params5] at hA hval
  obtain ⟨v0, vs0, d0, ds0, p0, q0, hargs, rfl, rfl, h0, r0⟩ := trodAll_cons hA
  obtain ⟨rfl, rfl, rfl⟩ := trodAll_nil r0
  obtain rfl : args = #[v0] := by cases args; simp_all
  obtain ⟨rfl, rfl⟩ := trodVars_none hV
  have k0 := h0
  have lt0 : ∀ x ∈ p0, x.block < W.heap.size := by obtain ⟨m, hm⟩ := k0; exact DataW.trod_lt m _ _ _ hm
  obtain ⟨A0, len0, cap0, z0, rfl, hl0, hc0, hm0, w0, g0⟩ : ∃ A len cap, ∃ xs : List Int, v0 = .slice A len cap ∧ len = xs.length ∧ len ≤ cap ∧ cap ≤ maxLen ∧ Sl encU 1 W 0 W.heap.size A xs ∧ ∀ x ∈ xs, (fun b => 0 ≤ b ∧ b < 256) x := by
    obtain ⟨fuel, hf⟩ := h0
    obtain ⟨a0, len0, cap0, rfl⟩ := okWide_slice Try.underlying41 (hval 0 41 v0 rfl rfl)
    simp only [Value.cells] at hf
    exact trod_sl (encA := encU) (sz := 1) (Good := fun b => 0 ≤ b ∧ b < 256) Try.underlying41 (by kernel_rfl) (by omega) encU_len hf (fun n cs y hy => (by obtain ⟨k, h1, _, h2⟩ := DataW.trod_int Try.underlying5 hy; exact ⟨k, h1, u8_wf h2⟩))
  clear hA0 hval0
  refine (lawPlayerSureD A0 len0 cap0 z0 W hl0 hc0 hm0 w0 g0).mono fun e W' ⟨he, bel⟩ => ?_
  subst he
  exact ⟨_, rfl, _, _, _, [], _, [], hW', trodAll_mk1 (shut_bool Try.underlying4 _), (trodAll_cons_mk (Below.trod laidOut (by kernel_rfl) (of_decide_eq_true (by kernel_rfl)) k0 bel lt0) trodAll_mk0), rfl, bel.frame _, fun h => by cases h⟩

theorem over : Rows.fnPlayerSureRow.holds Try.pinned (OpenSpec.ofChange Rows.fnPlayerSureSpec) :=
  OpenClaim.holds_of_wide 5 Try.f5 rfl rfl rfl rfl rfl rfl rfl ⟨rfl, rfl, rfl, rfl, rfl⟩ rfl rfl rfl rfl rfl (by kernel_rfl) Try.func5 (by kernel_rfl)
    (of_decide_eq_true (by kernel_rfl)) (by unfold Func.isWrapper; first | (rw [if_pos (by decide +kernel)]; kernel_rfl) | (rw [if_neg (by decide +kernel)]; exact ⟨rfl, rfl⟩))
    (fun os started H enc _ => lifted os started H enc)

theorem proved : Rows.FnPlayerSureSaid := over
end FnPlayerSure
end Go.Proofs.Ytchofialljhojaa
