/-
  Functions over slices of 'Req' (5 integers): what each returns; what each leaves of memory. (Printed by gen_list.py.)
-/
import Derived.Test.YtajmfonepnkofaaDoorHL
import Derived.WalkSpells
import Derived.WalkLawsBesides
namespace Go.Proofs.YtajmfonepnkofaaDoor
open Go.RowKit Rg
set_option linter.unusedVariables false
set_option linter.unusedSimpArgs false

abbrev ReqT := Int × Int × Int × Int × Int
def encReq (t : ReqT) : List Value := [.int .i64 t.1, .int .i64 t.2.1, .int .i64 t.2.2.1, .int .i64 t.2.2.2.1, .int .i64 t.2.2.2.2]
theorem encReq_len (t : ReqT) : (encReq t).length = 5 := rfl
theorem encReq_one (t : ReqT) : ∀ u ∈ encReq t, u.oneCell' = true := by
  intro u hu; simp [encReq] at hu; rcases hu with rfl | rfl | rfl | rfl | rfl <;> rfl
theorem Sl.getReq {w : World} {lo hi b off k : Nat} {xs : List ReqT} (h : Sl encReq 5 w lo hi (some ⟨b, off, none⟩) xs) (hk : k < xs.length) :
    w.cell? ⟨b, off + k * 5, none⟩ = some (.int .i64 xs[k].1) ∧ w.cell? ⟨b, off + k * 5 + 1, none⟩ = some (.int .i64 xs[k].2.1) ∧ w.cell? ⟨b, off + k * 5 + 2, none⟩ = some (.int .i64 xs[k].2.2.1) ∧ w.cell? ⟨b, off + k * 5 + 3, none⟩ = some (.int .i64 xs[k].2.2.2.1) ∧ w.cell? ⟨b, off + k * 5 + 4, none⟩ = some (.int .i64 xs[k].2.2.2.2) :=
  ⟨h.at_ hk 0 _ rfl, h.at_ hk 1 _ rfl, h.at_ hk 2 _ rfl, h.at_ hk 3 _ rfl, h.at_ hk 4 _ rfl⟩
theorem infoReq : (Tryd.prog.info? 37).map (fun i => (i.zero, i.size, i.bytes)) = some (some (.agg #[.int .i64 0, .int .i64 0, .int .i64 0, .int .i64 0, .int .i64 0]), 5, 40) := by kernel_rfl
theorem Own.someReq {w : World} {lo g n c k : Nat} {e : TypeId} {xs : List ReqT} (h : Own encReq 5 e w lo (.slice (some ⟨g, 0, none⟩) n c) xs) (hk : k < n) :
    ∃ z0 z1 z2 z3 z4 : Int, w.cell? ⟨g, k * 5, none⟩ = some (.int .i64 z0) ∧ w.cell? ⟨g, k * 5 + 1, none⟩ = some (.int .i64 z1) ∧ w.cell? ⟨g, k * 5 + 2, none⟩ = some (.int .i64 z2) ∧ w.cell? ⟨g, k * 5 + 3, none⟩ = some (.int .i64 z3) ∧ w.cell? ⟨g, k * 5 + 4, none⟩ = some (.int .i64 z4) := by
  obtain ⟨rfl, _, hs⟩ := h.slAt encReq_len
  have := hs.getReq hk
  simp only [Nat.zero_add] at this
  exact ⟨_, _, _, _, _, this⟩

theorem toReq_c (t : ReqT) (w : World) : Calls Tryd.prog 8 #[.agg #[.int .i64 t.1, .int .i64 t.2.1, .int .i64 t.2.2.1, .int .i64 t.2.2.2.1, .int .i64 t.2.2.2.2]] w fun e w' => e = .returned (.agg #[.int .i64 t.1, .int .i64 t.2.1, .int .i64 t.2.2.1, .int .i64 t.2.2.2.1, .int .i64 t.2.2.2.2]) ∧ Below w.heap.size w w' := by
  go_enter Tryd.func8, Tryd.ntmps8
  go_wp2
  exact bodyPost_ret (v := .agg #[.int .i64 t.1, .int .i64 t.2.1, .int .i64 t.2.2.1, .int .i64 t.2.2.2.1, .int .i64 t.2.2.2.2]) (by simp [results, Tryd.results8, go_sem]) rfl ⟨rfl, by first | exact Below.refl _ _ | (refine Below.alloc ?_ (by simp <;> omega) _; first | exact Below.refl _ _ | (refine Below.alloc ?_ (by simp <;> omega) _; first | exact Below.refl _ _ | (refine Below.alloc ?_ (by simp <;> omega) _; exact Below.refl _ _)))⟩

/-- What 'markReqS' writes, from k on. -/
def marksReq (k : Int) (n : Nat) : List ReqT := (List.range n).map fun (i : Nat) => (k + 5 * (i : Int), k + 5 * (i : Int) + 1, k + 5 * (i : Int) + 2, k + 5 * (i : Int) + 3, k + 5 * (i : Int) + 4)
theorem marksReq_len (k : Int) (n : Nat) : (marksReq k n).length = n := by simp [marksReq]
theorem marksReq_get (k : Int) (n i : Nat) (h : i < (marksReq k n).length) : (marksReq k n)[i] = (k + 5 * (i : Int), k + 5 * (i : Int) + 1, k + 5 * (i : Int) + 2, k + 5 * (i : Int) + 3, k + 5 * (i : Int) + 4) := by simp [marksReq]
theorem marksReq_succ (k : Int) (n : Nat) : marksReq k (n + 1) = marksReq k n ++ [(k + 5 * (n : Int), k + 5 * (n : Int) + 1, k + 5 * (n : Int) + 2, k + 5 * (n : Int) + 3, k + 5 * (n : Int) + 4)] := by
  simp [marksReq, List.range_succ]
theorem marksReq_set (k : Int) (j : Nat) (xs : List ReqT) (h : j < xs.length) : (marksReq k j ++ xs.drop j).set j (k + 5 * (j : Int), k + 5 * (j : Int) + 1, k + 5 * (j : Int) + 2, k + 5 * (j : Int) + 3, k + 5 * (j : Int) + 4) = marksReq k (j + 1) ++ xs.drop (j + 1) := by
  rw [List.set_append_right _ _ (by rw [marksReq_len]; omega), marksReq_len, Nat.sub_self, List.drop_eq_getElem_cons h, List.set_cons_zero, marksReq_succ, List.append_assoc]
  rfl
end Go.Proofs.YtajmfonepnkofaaDoor
