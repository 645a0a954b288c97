/-
  'l12Ok': pieces as PieceOf makes them.
-/
import Derived.Test.YtjhgcppjpolamaaDoorPD
import Derived.Test.YtjhgcppjpolamaaDoorPJ
namespace Go.Proofs.YtjhgcppjpolamaaDoor
open Go.RowKit Rg
set_option linter.unusedVariables false
set_option linter.unusedSimpArgs false

/-- Not too long; all but the last full. -/
def fitAt (xs : List ByteArray) (i : Nat) : Prop := ∃ h : i < xs.length, xs[i].size ≤ 12 ∧ (i + 1 < xs.length → 12 ≤ xs[i].size)
def okP (xs : List ByteArray) : Prop := (∀ i, i < xs.length → fitAt xs i) ∧ (1 ≤ xs.length ∧ xs.length ≤ 16) ∧ (xs.length = 1 ∨ ∀ h : 0 < xs.length, xs[xs.length - 1] ≠ ⟨#[]⟩)
instance (xs : List ByteArray) (i : Nat) : Decidable (fitAt xs i) := by unfold fitAt; infer_instance
instance (xs : List ByteArray) : Decidable (okP xs) := by unfold okP; infer_instance
theorem not_okP {xs : List ByteArray} {i : Nat} (hi : i < xs.length) (h : ¬ fitAt xs i) : decide (okP xs) = false := by
  simp only [decide_eq_false_iff_not]
  exact fun hq => h (hq.1 i hi)

set_option maxHeartbeats 1000000 in
theorem l12Ok_c (A : Option Addr) (n c lo hi : Nat) (xs : List ByteArray) (w : World) (hn : n = xs.length) (hb : n ≤ 1048576) (hs : Sl encS 1 w lo hi A xs) (hhi : hi ≤ w.heap.size) :
    Calls Tryd.prog 47 #[.slice A n c] w fun e w' => e = .returned (.bool (decide (okP xs))) ∧ w = w' := by
  have hn' := hide hn
  clear hn
  go_enter Tryd.func47, Tryd.ntmps47
  go_wp2
  go_loop [3] (fun i => ∃ k : Nat, k ≤ n ∧ i = .int .i64 k ∧ ∀ i, i < k → fitAt xs i) (fun i => n - (intOf i).toNat)
  case atStart => exact ⟨0, Nat.zero_le _, rfl, fun i h => absurd h (by omega)⟩
  case round =>
    obtain ⟨k, hk, rfl, hgo⟩ := hrel
    have hgo' := hide hgo
    clear hgo
    by_cases hlt : k < n
    · have hlx : k < xs.length := by have := hn'.out; omega
      obtain ⟨b, off, rfl, hlo, hbh⟩ := hs.addr hlx
      have a1 := hs.str hlx
      by_cases h12 : 12 < xs[k].size
      · have d1 : decide ((12 : Int) < (xs[k].size : Int)) = true := by simp; omega
        have hno := hide (not_okP hlx (fun ⟨_, h, _⟩ => by omega))
        go_wp2
        go_ret
        exact ⟨by rw [hno.out]; rfl, rfl⟩
      · have d1 : decide ((12 : Int) < (xs[k].size : Int)) = false := by simp; omega
        by_cases hl : k + 1 < n
        · have d2 : decide ((k : Int) + 1 < (n : Int)) = true := by simp; omega
          by_cases hsm : xs[k].size < 12
          · have d3 : decide ((xs[k].size : Int) < 12) = true := by simp; omega
            have hno := hide (not_okP hlx (fun ⟨_, _, h⟩ => by have := h (by have := hn'.out; omega); omega))
            go_wp2
            go_ret
            exact ⟨by rw [hno.out]; rfl, rfl⟩
          · have d3 : decide ((xs[k].size : Int) < 12) = false := by simp; omega
            have hf : Hid (fitAt xs k) := hide ⟨hlx, by omega, fun _ => by omega⟩
            go_wp2
            go_roundw
            case rel => exact ⟨k + 1, by omega, by go_num, fun i hi => by
              by_cases h : i < k
              · exact hgo'.out i h
              · obtain rfl : i = k := by omega
                exact hf.out⟩
            case measure => simp [intOf]; omega
        · have d2 : decide ((k : Int) + 1 < (n : Int)) = false := by simp; omega
          have hf : Hid (fitAt xs k) := hide ⟨hlx, by omega, fun h => by have := hn'.out; omega⟩
          go_wp2
          go_roundw
          case rel => exact ⟨k + 1, by omega, by go_num, fun i hi => by
            by_cases h : i < k
            · exact hgo'.out i h
            · obtain rfl : i = k := by omega
              exact hf.out⟩
          case measure => simp [intOf]; omega
    · obtain rfl : k = n := by omega
      have hall : ∀ i, i < xs.length → fitAt xs i := fun i hi => hgo'.out i (by have := hn'.out; omega)
      have hall' := hide hall
      clear hall
      by_cases h1 : 1 ≤ k
      · have d1 : decide ((1 : Int) ≤ (k : Int)) = true := by simp; omega
        by_cases h16 : k ≤ 16
        · have d2 : decide ((k : Int) ≤ 16) = true := by simp; omega
          by_cases hone : k = 1
          · have d3 : ((k : Int) == 1) = true := by simp; omega
            have hy : Hid (okP xs) := hide ⟨hall'.out, by have := hn'.out; omega, .inl (by have := hn'.out; omega)⟩
            go_wp2
            go_ret
            exact ⟨by simp [hy.out], rfl⟩
          · have d3 : ((k : Int) == 1) = false := by simp; omega
            have hlx : k - 1 < xs.length := by have := hn'.out; omega
            obtain ⟨b, off, rfl, hlo, hbh⟩ := hs.addr hlx
            have a1 := hs.str hlx
            by_cases hem : xs[k - 1] = ⟨#[]⟩
            · have d4 : (xs[k - 1].toList == (⟨#[]⟩ : ByteArray).toList) = true := by rw [hem]; simp
              have hno : Hid (¬ okP xs) := hide (fun h => by
                have e := hn'.out
                rcases h.2.2 with h | h
                · omega
                · exact h (by omega) (by simp only [← e]; exact hem))
              have hem' := hide hem
              clear hem
              go_wp2
              go_ret
              refine ⟨?_, rfl⟩
              simp [hno.out]
              rw [hem'.out, ByteArray.toList_eq]
            · have d4 : (xs[k - 1].toList == (⟨#[]⟩ : ByteArray).toList) = false := beq_false_of_ne fun h => hem (by rw [ByteArray.toList_eq, ByteArray.toList_eq] at h; exact Go.WideShapes.bytes_inj h)
              have hy : Hid (okP xs) := hide ⟨hall'.out, by have := hn'.out; omega, .inr (fun _ => by have e := hn'.out; simp only [← e]; exact hem)⟩
              have hem' := hide hem
              clear hem
              go_wp2
              go_ret
              refine ⟨?_, rfl⟩
              simp [hy.out]
              intro h
              rw [ByteArray.toList_eq] at h
              exact hem'.out (Go.WideShapes.bytes_inj h)
        · have d2 : decide ((k : Int) ≤ 16) = false := by simp; omega
          have hno : Hid (¬ okP xs) := hide (fun h => by have := h.2.1.2; have := hn'.out; omega)
          go_wp2
          go_ret
          exact ⟨by simp [hno.out], rfl⟩
      · have d1 : decide ((1 : Int) ≤ (k : Int)) = false := by simp; omega
        have hno : Hid (¬ okP xs) := hide (fun h => by have := h.2.1.1; have := hn'.out; omega)
        go_wp2
        go_ret
        exact ⟨by simp [hno.out], rfl⟩
end Go.Proofs.YtjhgcppjpolamaaDoor
