/-
  What the pieces' laws draw.
-/
import Derived.Test.YtjhgcppjpolamaaDoorPC
import Derived.Test.YtjhgcppjpolamaaDoorDR
namespace Go.Proofs.YtjhgcppjpolamaaDoor
open Go.RowKit Rg
set_option linter.unusedVariables false
set_option linter.unusedSimpArgs false

theorem of_c (g P lo hi : Nat) (A : Option Addr) (n c : Nat) (xs : List ByteArray) (w : World) (hr : Rd w g P) (hP : P ≤ 1000000) (hn : n = xs.length) (h0 : 0 < n) (hb : n ≤ 1000) (hs : Sl encS 1 w lo hi A xs) (hlo : g < lo) (hhi : hi ≤ w.heap.size) :
    Calls Tryd.prog 65 #[.pointer (some ⟨g, 0, none⟩), .slice A n c] w fun e w' => ∃ x, x ∈ xs ∧ e = .returned (.string x) ∧ Rd w' g (P + 1) ∧ Only w.heap.size (some g) w w' := by
  have hn' := hide hn
  clear hn
  go_enter Tryd.func65, Tryd.ntmps65
  go_wp2_with fail
  refine (pick_c g P (n : Int) w hr hP (by omega)).mono ?_
  rintro e w1 ⟨k, rfl, hk, hr1, ho1⟩
  have hk1 : k < n := by have := hk.1 (by omega); omega
  have hkx : k < xs.length := by have := hn'.out; omega
  have hs1 := hs.only ho1 hlo hhi
  obtain ⟨b, off, rfl, hlo', hbh⟩ := hs1.addr hkx
  have a1 := hs1.str hkx
  have hm := hide (List.getElem_mem hkx)
  have hr1' := hide hr1
  have ho1' := hide ho1
  clear hr1 ho1 hk
  go_wp2
  go_ret
  exact ⟨xs[k], hm.out, rfl, hr1'.out, ho1'.out⟩

def lens : List Int := [0, 1, 11, 12, 13, 24, 25, 60, 100, 192, 193]
def lits : List ByteArray := [⟨#[97]⟩, ⟨#[98]⟩, ⟨#[124]⟩, ⟨#[32]⟩]
abbrev lensA : Array Value := #[.int .i64 0, .int .i64 1, .int .i64 11, .int .i64 12, .int .i64 13, .int .i64 24, .int .i64 25, .int .i64 60, .int .i64 100, .int .i64 192, .int .i64 193]
abbrev litsA : Array Value := #[.string ⟨#[97]⟩, .string ⟨#[98]⟩, .string ⟨#[124]⟩, .string ⟨#[32]⟩]
set_option maxHeartbeats 1000000 in
theorem l20Long_c (g P : Nat) (w : World) (hr : Rd w g P) (hP : P ≤ 100000) :
    Calls Tryd.prog 44 #[.pointer (some ⟨g, 0, none⟩)] w fun e w' => ∃ s : ByteArray, e = .returned (.string s) ∧ s.size ≤ 193 ∧ Rd w' g (P + 200) ∧ Only w.heap.size (some g) w w' := by
  have hg := hr.lt
  have hb0 := (Below.refl w.heap.size w).alloc (Nat.le_refl _) (.cells #[.int .i64 0, .int .i64 1, .int .i64 11, .int .i64 12, .int .i64 13, .int .i64 24, .int .i64 25, .int .i64 60, .int .i64 100, .int .i64 192, .int .i64 193] 3)
  have hs0 := sl_arr encI_len w #[.int .i64 0, .int .i64 1, .int .i64 11, .int .i64 12, .int .i64 13, .int .i64 24, .int .i64 25, .int .i64 60, .int .i64 100, .int .i64 192, .int .i64 193] 3 lens rfl
  have hr0 := hr.keep hb0
  go_enter Tryd.func44, Tryd.ntmps44
  go_wp2_with fail
  refine (one_c g P _ _ _ 11 11 lens _ hr0 (by omega) rfl (by omega) (by omega) hs0 hg (by simp)).mono ?_
  rintro e w1 ⟨x, hx, rfl, hr1, h1⟩
  have ho1 : Only w.heap.size (some g) w w1 := (Only.of_below hb0).trans (h1.mono hb0.size)
  obtain ⟨N, rfl, hN⟩ : ∃ N : Nat, x = (N : Int) ∧ N ≤ 193 := by
    have : ∀ x ∈ lens, 0 ≤ x ∧ x ≤ 193 := by decide
    obtain ⟨h1, h2⟩ := this x hx
    exact ⟨x.toNat, by omega, by omega⟩
  clear hx hr0 hs0 hb0 h1 hr
  go_wp2_with fail
  go_loopw [3, 4] (fun sv mv wr => ∃ (m : Nat) (s : ByteArray), mv = .int .i64 (m : Int) ∧ sv = .string s ∧ m ≤ 193 ∧ s.size + m ≤ 193 ∧ Rd wr g (P + 1 + (193 - m)) ∧ Only w.heap.size (some g) w wr) (fun _ mv _ => (intOf mv).toNat)
  case atStart => exact ⟨N, ⟨#[]⟩, rfl, rfl, hN, by simpa [ByteArray.size] using hN, hr1.mono (by omega), ho1⟩
  case round =>
    obtain ⟨m, s, rfl, rfl, hm, hsz, hrr, hor⟩ := hrel
    by_cases hm0 : 0 < m
    · have d1 : decide (0 < (m : Int)) = true := by simpa using hm0
      have hb2 := (Below.refl wr.heap.size wr).alloc (Nat.le_refl _) (.cells #[.string ⟨#[97]⟩, .string ⟨#[98]⟩, .string ⟨#[124]⟩, .string ⟨#[32]⟩] 9)
      have hs2 := sl_arr encS_len wr #[.string ⟨#[97]⟩, .string ⟨#[98]⟩, .string ⟨#[124]⟩, .string ⟨#[32]⟩] 9 lits rfl
      have hr2 := hrr.keep hb2
      have ho2 := hor.trans ((Only.of_below hb2).mono hor.size)
      go_wp2_with fail
      refine (of_c g _ _ _ _ 4 4 lits _ hr2 (by omega) rfl (by omega) (by omega) hs2 hrr.lt (by simp)).mono ?_
      rintro e w3 ⟨x, hx, rfl, hr3, h3⟩
      have ho3 := ho2.trans (h3.mono ho2.size)
      have hx1 : x.size = 1 := by
        have : ∀ x ∈ lits, x.size = 1 := by intro x hx; simp [lits] at hx; rcases hx with rfl | rfl | rfl | rfl <;> rfl
        exact this x hx
      have hx1' := hide hx1
      have hnz : ¬ 9223372036854775807 < s.size + x.size := by omega
      clear hx hx1
      go_wp2
      go_roundw
      case rel => exact ⟨m - 1, s ++ x, by go_num, rfl, by omega, by rw [ByteArray.size_append, hx1'.out]; omega, hr3.mono (by omega), ho3⟩
      case measure => simp [intOf]; omega
    · obtain rfl : m = 0 := by omega
      go_wp2
      go_ret
      exact ⟨s, rfl, by omega, hrr.mono (by omega), hor⟩
end Go.Proofs.YtjhgcppjpolamaaDoor
