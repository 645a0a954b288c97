/-
  Pieces: the marks that the laws write and read.
-/
import Derived.Test.YtjhgcppjpolamaaDoorPA
import Derived.Laws.BytesArg
namespace Go.Proofs.YtjhgcppjpolamaaDoor
open Go.RowKit Rg
set_option linter.unusedVariables false
set_option linter.unusedSimpArgs false

/-- Nothing below B is written but block g. -/
structure Only (B : Nat) (g : Option Nat) (w w' : World) : Prop where
  os : w'.os = w.os
  tape : w'.tape = w.tape
  output : w'.output = w.output
  size : w.heap.size ≤ w'.heap.size
  block : ∀ k, k < B → g ≠ some k → w'.heap[k]? = w.heap[k]?

section
variable {B B' : Nat} {g : Option Nat} {a w w' : World}
theorem Only.refl (B : Nat) (g : Option Nat) (w : World) : Only B g w w := ⟨rfl, rfl, rfl, Nat.le_refl _, fun _ _ _ => rfl⟩
theorem Only.trans (h : Only B g a w) (k : Only B g w w') : Only B g a w' := ⟨k.os.trans h.os, k.tape.trans h.tape, k.output.trans h.output, Nat.le_trans h.size k.size, fun j hj hne => (k.block j hj hne).trans (h.block j hj hne)⟩
theorem Only.of_below (h : Below B w w') : Only B g w w' := ⟨h.os, h.tape, h.output, h.size, fun k hk _ => h.block k hk⟩
theorem Only.mono (h : Only B g w w') (hB : B' ≤ B) : Only B' g w w' := ⟨h.os, h.tape, h.output, h.size, fun k hk => h.block k (by omega)⟩
theorem Only.of_grown (h : w.grownBy w' g) : Only w.heap.size g w w' := ⟨h.os, h.tape, h.output, h.size, fun k hk hne => h.block k hk (fun e => hne e.symm)⟩
theorem Only.toBelow (h : Only B g w w') (hB : B' ≤ B) (hg : ∀ k, g = some k → B' ≤ k) : Below B' w w' := ⟨h.os, h.tape, h.output, h.size, fun k hk => h.block k (by omega) (fun e => by have := hg k e; omega)⟩
theorem Only.put {g : Nat} (us : List Value) : ∀ {w : World} {j : Nat}, Only B (some g) a w → Only B (some g) a (putCells w g j us) := by
  induction us with
  | nil => intro w j h; exact h
  | cons u us ih =>
    intro w j h
    exact ih (h.trans ⟨rfl, rfl, rfl, by simp [World.setCell], fun k _ hne => Below.heap_setCell w ⟨g, j, none⟩ u k (fun e => hne (by rw [e]))⟩)
theorem Only.alloc (h : Only B g a w) (hB : B ≤ w.heap.size) (o : Obj) : Only B g a (w.alloc o) := h.trans (Only.of_below ((Below.refl B w).alloc hB o))
theorem Only.allocs {a w : World} {g : Option Nat} (h : Only a.heap.size g a w) (o : Obj) : Only a.heap.size g a (w.alloc o) := h.alloc h.size o
theorem Only.drew (h : Only B g a w) : Only B g a w.drew := ⟨h.os, h.tape, h.output, h.size, h.block⟩
theorem Own.only {α : Type} {enc : α → List Value} {sz lo : Nat} {e : TypeId} {v : Value} {xs : List α} (h : Own enc sz e w lo v xs) (ho : Only B g w w') (hB : w.heap.size ≤ B) (hne : ∀ k, v.ownBlock = some k → g ≠ some k) : Own enc sz e w' lo v xs :=
  h.keep fun b hb => ho.block b (by have := (h.lt b hb).2; omega) (hne b hb)
end

/-- A number's digits, ahead of a text. -/
def digs (k : Nat) (acc : ByteArray) : ByteArray := if 0 < k then digs (k / 10) (strOfNums [48 + (k : Int) % 10] ++ acc) else acc
termination_by k
theorem digs_step {k : Nat} {acc : ByteArray} (h : 0 < k) : digs k acc = digs (k / 10) (strOfNums [48 + (k : Int) % 10] ++ acc) := by rw [digs, if_pos h]
theorem digs_end (acc : ByteArray) : digs 0 acc = acc := by rw [digs, if_neg (by omega)]
/-- The mark of a number. -/
def mt (k : Nat) : ByteArray := ⟨#[109]⟩ ++ digs k ⟨#[]⟩

/-- What 'markStringS' writes, from k on. -/
def smarks (k : Nat) (n : Nat) : List ByteArray := (List.range n).map fun (i : Nat) => mt (k + i)
theorem smarks_len (k n : Nat) : (smarks k n).length = n := by simp [smarks]
theorem smarks_succ (k n : Nat) : smarks k (n + 1) = smarks k n ++ [mt (k + n)] := by simp [smarks, List.range_succ]
theorem smarks_set (k j : Nat) (xs : List ByteArray) (h : j < xs.length) : (smarks k j ++ xs.drop j).set j (mt (k + j)) = smarks k (j + 1) ++ xs.drop (j + 1) := by
  rw [List.set_append_right _ _ (by rw [smarks_len]; omega), smarks_len, Nat.sub_self, List.drop_eq_getElem_cons h, List.set_cons_zero, smarks_succ, List.append_assoc]
  rfl

theorem run_byte (w : World) (x : Int) : (convert 26 9 (.slice (some ⟨w.heap.size, 0, none⟩) 1 1)).run Tryd.prog (w.alloc (.cells #[.int .u8 x] 5)) = .ok (.string (strOfNums [x])) (w.alloc (.cells #[.int .u8 x] 5)) := by
  refine run_convert_bytes_arg (P := Tryd.prog) _ 26 5 Tryd.underlying26 Tryd.underlying5 w.heap.size 0 1 1 [x] rfl (fun i hi => ?_) 9 Tryd.underlying9
  have h0 : i = 0 := by omega
  subst h0
  simp

theorem markText_c (k : Nat) (w : World) (h0 : 0 < k) (h1 : k ≤ 1099511627776) : Calls Tryd.prog 54 #[.int .i64 (k : Int)] w fun e w' => e = .returned (.string (mt k)) ∧ Below w.heap.size w w' := by
  have g0 : decide ((k : Int) ≤ 0) = false := by simp; omega
  go_enter Tryd.func54, Tryd.ntmps54
  go_wp2
  go_loopw [0, 3] (fun kv sv wr => ∃ (j : Nat) (acc : ByteArray), kv = .int .i64 (j : Int) ∧ sv = .string acc ∧ Hid (digs k ⟨#[]⟩ = digs j acc) ∧ acc.size + j ≤ k ∧ Below w.heap.size w wr) (fun kv _ _ => (intOf kv).toNat)
  case atStart => exact ⟨k, ⟨#[]⟩, rfl, rfl, hide rfl, by simp [ByteArray.size], Below.refl _ _⟩
  case round =>
    obtain ⟨j, acc, rfl, rfl, hd, hz, hbr⟩ := hrel
    by_cases hj : 0 < j
    · have h2 : decide (0 < (j : Int)) = true := by simp; omega
      have hcv := run_byte wr (48 + (j : Int) % 10)
      have hs1 : (strOfNums [48 + (j : Int) % 10]).size = 1 := rfl
      have hsz : ¬ 9223372036854775807 < (strOfNums [48 + (j : Int) % 10]).size + acc.size := by rw [hs1]; omega
      clear hs1
      go_wp2
      go_roundw
      case rel =>
        refine ⟨j / 10, _, by go_num, rfl, hide (by rw [hd.out, digs_step hj]), ?_, hbr.alloc hbr.size _⟩
        rw [ByteArray.size_append, show (strOfNums [48 + (j : Int) % 10]).size = 1 from rfl]
        omega
      case measure => simp [intOf]; omega
    · have h2 : decide (0 < (j : Int)) = false := by simp; omega
      have hj' : Hid (j = 0) := hide (by omega)
      go_wp2
      go_ret
      exact ⟨by rw [mt, hd.out, hj'.out, digs_end]; rfl, hbr⟩

theorem markStringS_c (A : Option Addr) (n c lo k : Nat) (xs : List ByteArray) (w : World) (hn : n = xs.length) (hb : n ≤ 1048576) (hk0 : 0 < k) (hk1 : k ≤ 1048576) (ho : Own encS 1 9 w lo (.slice A n c) xs) :
    Calls Tryd.prog 25 #[.slice A n c, .int .i64 (k : Int)] w fun e w' => e = .returned (.int .i64 ((k : Int) + n)) ∧ Own encS 1 9 w' lo (.slice A n c) (smarks k n) ∧ Only w.heap.size (Value.slice A n c).ownBlock w w' := by
  have hn' := hide hn
  clear hn
  go_enter Tryd.func25, Tryd.ntmps25
  go_wp2
  go_loopw [1, 5] (fun kk i wr => ∃ j : Nat, j ≤ n ∧ i = .int .i64 j ∧ kk = .int .i64 ((k : Int) + j) ∧ Own encS 1 9 wr lo (.slice A n c) (smarks k j ++ xs.drop j) ∧ Only w.heap.size (Value.slice A n c).ownBlock w wr) (fun _ i _ => n - (intOf i).toNat)
  case atStart => exact ⟨0, Nat.zero_le _, rfl, by go_num, by simpa [smarks] using ho, Only.refl _ _ _⟩
  case round =>
    obtain ⟨j, hj, rfl, rfl, hor, hgr⟩ := hrel
    by_cases hlt : j < n
    · obtain ⟨g, rfl, hg1, hg2⟩ := hor.addrAt hlt
      have hx : j < xs.length := by have := hn'.out; omega
      go_wp2_with (go_at_call 54; refine (markText_c (k + j) wr (by omega) (by omega)).mono ?_; rintro e w1 ⟨rfl, hb1⟩; have ho1 := hor.below hb1 (Nat.le_refl _); have f0 := ho1.frozen j; have hx1 : j < (smarks k j ++ xs.drop j).length := (by simp [smarks]; omega); have c0 := (ho1.slAt encS_len).2.2.str hx1; simp only [Nat.zero_add] at c0)
      go_roundw
      case rel =>
        refine ⟨j + 1, by omega, by go_num, by go_num, ?_, ?_⟩
        · have h5 := ho1.put_ encS_len hlt (mt (k + j))
          rw [smarks_set k j xs hx] at h5
          simp only [Nat.mul_one] at h5
          exact h5
        · exact Only.put (encS (mt (k + j))) (hgr.trans ((Only.of_below hb1).mono hgr.size))
      case measure => simp [intOf]; omega
    · obtain rfl : j = n := by omega
      go_wp2
      go_ret
      refine ⟨rfl, ?_, hgr⟩
      rw [List.drop_of_length_le (by rw [hn'.out]; omega), List.append_nil] at hor
      exact hor
end Go.Proofs.YtjhgcppjpolamaaDoor
