/-
  What the laws draw with: 'l20Open', 'pick', 'one'.
-/
import Derived.Test.YtipdkcdhnppdoaaGA
import Derived.Test.YtipdkcdhnppdoaaOpen
import Derived.WalkSmall
import Derived.BigQuiet
import Derived.Deep.QuietTactic
namespace Go.Proofs.Ytipdkcdhnppdoaa
open Go.RowKit Rg
set_option linter.unusedVariables false
set_option linter.unusedSimpArgs false

def encU (x : Int) : List Value := [.int .u8 x]
theorem encU_len : ∀ x, (encU x).length = 1 := fun _ => rfl
def encI (x : Int) : List Value := [.int .i64 x]
theorem encI_len : ∀ x, (encI x).length = 1 := fun _ => rfl
theorem encI_one : ∀ s, ∀ u ∈ encI s, u.oneCell' = true := by intro s u hu; simp [encI] at hu; subst hu; rfl
theorem Sl.u8 {w : World} {lo hi b off k : Nat} {xs : List Int} (h : Sl encU 1 w lo hi (some ⟨b, off, none⟩) xs) (hk : k < xs.length) : w.cell? ⟨b, off + k, none⟩ = some (.int .u8 xs[k]) := by
  have := h.at_ hk 0 (.int .u8 xs[k]) rfl
  simpa using this
theorem Sl.i64 {w : World} {lo hi b off k : Nat} {xs : List Int} (h : Sl encI 1 w lo hi (some ⟨b, off, none⟩) xs) (hk : k < xs.length) : w.cell? ⟨b, off + k, none⟩ = some (.int .i64 xs[k]) := by
  have := h.at_ hk 0 (.int .i64 xs[k]) rfl
  simpa using this

theorem u8_wf {k : Int} (h : (Lit.int .u8 k).wf = true) : 0 ≤ k ∧ k < 256 := by
  simp [Lit.wf, IntKind.min, IntKind.max, IntKind.signed, IntKind.bits] at h
  omega
/-- A row that was just made reads as its elements. -/
theorem sl_arr {α : Type} {enc : α → List Value} {sz : Nat} (hl : ∀ x, (enc x).length = sz) (w : World) (arr : Array Value) (e : TypeId) (xs : List α) (h : arr.toList = xs.flatMap enc) :
    Sl enc sz (w.alloc (.cells arr e)) w.heap.size (w.heap.size + 1) (some ⟨w.heap.size, 0, none⟩) xs := by
  intro _
  refine ⟨w.heap.size, 0, rfl, Nat.le_refl _, Nat.lt_succ_self _, fun i x hx j u hu => ?_⟩
  have h5 := flatMap_get hl xs i x hx j u hu
  rw [← h] at h5
  have h0 := heap_alloc_new w (.cells arr e)
  simp only [World.cell?, h0, Nat.zero_add]
  simpa using h5

theorem wrap_i64_small (n : Nat) (h : n < 9223372036854775808) : IntKind.i64.wrap (n : Int) = (n : Int) := by
  have e : (n : Int) % 18446744073709551616 = (n : Int) := by omega
  show (if true && decide ((n : Int) % 18446744073709551616 ≥ 9223372036854775808) then (n : Int) % 18446744073709551616 - 18446744073709551616 else (n : Int) % 18446744073709551616) = (n : Int)
  rw [e, if_neg (by simp; omega)]
theorem xor_i64 (X Y : Int) (hX : 0 ≤ X) (hX2 : X < 4611686018427387904) (hY : 0 ≤ Y) (hY2 : Y < 4611686018427387904) : bits .xor .i64 X Y = ((X.toNat ^^^ Y.toNat : Nat) : Int) := by
  obtain ⟨a, rfl⟩ := Int.eq_ofNat_of_zero_le hX
  obtain ⟨b, rfl⟩ := Int.eq_ofNat_of_zero_le hY
  have hx : a ^^^ b < 2 ^ 62 := Nat.xor_lt_two_pow (by omega) (by omega)
  have h1 : (BitVec.ofInt 64 (a : Int)).toNat = a := by
    rw [BitVec.ofInt_natCast, BitVec.toNat_ofNat]; exact Nat.mod_eq_of_lt (by omega)
  have h2 : (BitVec.ofInt 64 (b : Int)).toNat = b := by
    rw [BitVec.ofInt_natCast, BitVec.toNat_ofNat]; exact Nat.mod_eq_of_lt (by omega)
  show IntKind.i64.wrap ((BitVec.ofInt 64 (a : Int) ^^^ BitVec.ofInt 64 (b : Int)).toNat : Int) = _
  rw [BitVec.toNat_xor, h1, h2, wrap_i64_small _ (by omega)]
  rfl
/-- What 'pick' may answer. -/
def PickR (n : Int) (k : Nat) : Prop := (0 < n → (k : Int) < n) ∧ (¬ 0 < n → k = 0)
theorem Sl.only {α : Type} {enc : α → List Value} {sz lo hi : Nat} {w w' : World} {A : Option Addr} {xs : List α} {g B : Nat} (h : Sl enc sz w lo hi A xs) (ho : Only B (some g) w w') (hg : g < lo) (hhi : hi ≤ B) : Sl enc sz w' lo hi A xs :=
  h.keep fun b h1 h2 => ho.block b (by omega) (fun e => by injection e with e; omega)
end Go.Proofs.Ytipdkcdhnppdoaa
