/-
  Small laws on proofs and roots.
-/
import Derived.Test.YtjhgcppjpolamaaDoorPXn
import Derived.Test.YtjhgcppjpolamaaDoorPL
import Derived.Test.YtjhgcppjpolamaaDoorRegL
import Derived.Test.YtjhgcppjpolamaaDoorRegG
namespace Go.Proofs.YtjhgcppjpolamaaDoor
open Go.RowKit Rg
set_option linter.unusedVariables false
set_option linter.unusedSimpArgs false

theorem lvs_get (xs : List ByteArray) (i : Nat) (h : i < (lvs xs).length) : (lvs xs)[i] = leafS (i : Int) (xs[i]'(by rw [lvs_len] at h; exact h)).data.toList := by
  refine (leaves_get (xs.map (fun s : ByteArray => s.data.toList)) i h).trans ?_
  simp
theorem chkIn_of {xs : List ByteArray} {i : Nat} (hok : okP xs) (hi : i < xs.length) : chkIn (xs.length : Int) (i : Int) xs[i] := by
  obtain ⟨h16, h1, h12⟩ := okP_small hok
  exact ⟨by simp [inB]; omega, by simp [inB]; omega, h12 i hi⟩
theorem chkR_proof {xs : List ByteArray} {i : Nat} (hok : okP xs) (hi : i < xs.length) : chkR (rootR xs) (xs.length : Int) (i : Int) xs[i] (proofR xs (i : Int)) = true := by
  have hl := lvs_len xs
  have h1 : proofR xs (i : Int) = besides (lvs xs) i := by
    unfold proofR
    rw [if_pos ⟨hok, by simp [inB]; omega⟩]
    rfl
  have h2 : rootR xs = rootS (lvs xs) := by simp [rootR, hok]
  have hi' : i < (lvs xs).length := by omega
  have h3 := chk_besides xs.length (lvs xs) i hi' hl
  rw [lvs_get xs i hi'] at h3
  rw [h1, h2, chkR_is (chkIn_of hok hi) h3]
  simp
theorem proof_one {xs : List ByteArray} {i : Nat} (hok : okP xs) (hi : i < xs.length) : (xs.length = 1 ↔ (proofR xs (i : Int)).length = 0) := by
  have hl := lvs_len xs
  have h1 : proofR xs (i : Int) = besides (lvs xs) i := by
    unfold proofR
    rw [if_pos ⟨hok, by simp [inB]; omega⟩]
    rfl
  rw [h1, besides_len _ (lvs xs) i rfl, hl]
  constructor
  · intro h; rw [h, wants_one (by omega)]
  · intro h
    rcases Nat.lt_or_ge xs.length 2 with h2 | h2
    · omega
    · have := wants_pos xs.length i h2 hi
      omega
theorem rootR_neg {xs : List ByteArray} : rootR xs < 0 ↔ ¬ okP xs := by
  unfold rootR
  split
  · rename_i h
    have := rootS_sum _ (lvs xs) rfl (by rw [lvs_len]; exact (okP_small h).2.1) (lvs_sum xs)
    unfold Sum at this
    constructor
    · intro h2; omega
    · intro h2; exact absurd h h2
  · rename_i h
    exact ⟨fun _ => h, fun _ => by decide⟩
theorem since_of {w0 w : World} (h : Below w0.heap.size w0 w) : Since w0 w := ⟨h.size, fun b hb => h.block b hb⟩
theorem sl_oneK (w : World) (x : Int) : Sl encI 1 (w.alloc (.cells #[.int .i64 x] 3)) w.heap.size (w.heap.size + 1) (some ⟨w.heap.size, 0, none⟩) [x] := sl_arr encI_len w #[.int .i64 x] 3 [x] rfl
theorem own_emptyK (w : World) : Own encI 1 3 ((w.alloc (.cells #[.int .i64 1] 3)).alloc (.cells #[] 3)) w.heap.size (.slice (some ⟨w.heap.size + 1, 0, none⟩) 0 0) [] := by
  have h := (own_empty encI 1 3 (w.alloc (.cells #[.int .i64 1] 3))).mono (show w.heap.size ≤ _ by simp only [World.size_alloc]; omega)
  simpa only [World.size_alloc] using h
theorem slK2 {w w8 : World} {a : Option Nat} (ha : a = some w.heap.size) (hg : ((w.alloc (.cells #[] 3)).alloc (.cells #[.int .i64 1] 3)).grownBy w8 a) : Sl encI 1 w8 (w.heap.size + 1) (w.heap.size + 1 + 1) (some ⟨w.heap.size + 1, 0, none⟩) [1] := by
  subst ha
  have h := sl_oneK (w.alloc (.cells #[] 3)) 1
  simp only [World.size_alloc] at h
  exact h.keep (fun b h1 h2 => hg.block b (by simp only [World.size_alloc]; omega) (by simp; omega))
theorem slK3 {w w8 : World} {a : Option Nat} (ha : a = some (w.heap.size + 1)) (hg : ((w.alloc (.cells #[.int .i64 1] 3)).alloc (.cells #[] 3)).grownBy w8 a) : Sl encI 1 w8 w.heap.size (w.heap.size + 1) (some ⟨w.heap.size, 0, none⟩) [1] := by
  subst ha
  have h := (sl_oneK w 1).below (((Below.refl (w.heap.size + 1) (w.alloc (.cells #[.int .i64 1] 3))).alloc (by simp only [World.size_alloc]; omega) (.cells #[] 3))) (Nat.le_refl _)
  exact h.keep (fun b h1 h2 => hg.block b (by simp only [World.size_alloc]; omega) (by simp; omega))
end Go.Proofs.YtjhgcppjpolamaaDoor
