/-
  Functions over slices of 'Reply' (4 integers): what each returns; what each leaves of memory. (Printed by gen_list.py.)
-/
import Derived.Test.YtajmfonepnkofaaDoorGA
import Derived.WalkSpells
import Derived.WalkLawsBesides
namespace Go.Proofs.YtajmfonepnkofaaDoor
open Go.RowKit Rg
set_option linter.unusedVariables false
set_option linter.unusedSimpArgs false

abbrev ReplyT := Int × Int × Int × Int
def encReply (t : ReplyT) : List Value := [.int .i64 t.1, .int .i64 t.2.1, .int .i64 t.2.2.1, .int .i64 t.2.2.2]
theorem encReply_len (t : ReplyT) : (encReply t).length = 4 := rfl
theorem encReply_one (t : ReplyT) : ∀ u ∈ encReply t, u.oneCell' = true := by
  intro u hu; simp [encReply] at hu; rcases hu with rfl | rfl | rfl | rfl <;> rfl
theorem Sl.getReply {w : World} {lo hi b off k : Nat} {xs : List ReplyT} (h : Sl encReply 4 w lo hi (some ⟨b, off, none⟩) xs) (hk : k < xs.length) :
    w.cell? ⟨b, off + k * 4, none⟩ = some (.int .i64 xs[k].1) ∧ w.cell? ⟨b, off + k * 4 + 1, none⟩ = some (.int .i64 xs[k].2.1) ∧ w.cell? ⟨b, off + k * 4 + 2, none⟩ = some (.int .i64 xs[k].2.2.1) ∧ w.cell? ⟨b, off + k * 4 + 3, none⟩ = some (.int .i64 xs[k].2.2.2) :=
  ⟨h.at_ hk 0 _ rfl, h.at_ hk 1 _ rfl, h.at_ hk 2 _ rfl, h.at_ hk 3 _ rfl⟩
theorem infoReply : (Tryd.prog.info? 30).map (fun i => (i.zero, i.size, i.bytes)) = some (some (.agg #[.int .i64 0, .int .i64 0, .int .i64 0, .int .i64 0]), 4, 32) := by kernel_rfl
theorem Own.someReply {w : World} {lo g n c k : Nat} {e : TypeId} {xs : List ReplyT} (h : Own encReply 4 e w lo (.slice (some ⟨g, 0, none⟩) n c) xs) (hk : k < n) :
    ∃ z0 z1 z2 z3 : Int, w.cell? ⟨g, k * 4, none⟩ = some (.int .i64 z0) ∧ w.cell? ⟨g, k * 4 + 1, none⟩ = some (.int .i64 z1) ∧ w.cell? ⟨g, k * 4 + 2, none⟩ = some (.int .i64 z2) ∧ w.cell? ⟨g, k * 4 + 3, none⟩ = some (.int .i64 z3) := by
  obtain ⟨rfl, _, hs⟩ := h.slAt encReply_len
  have := hs.getReply hk
  simp only [Nat.zero_add] at this
  exact ⟨_, _, _, _, this⟩

theorem eqReply_c (t u : ReplyT) (w : World) : Calls Tryd.prog 10 #[.agg #[.int .i64 t.1, .int .i64 t.2.1, .int .i64 t.2.2.1, .int .i64 t.2.2.2], .agg #[.int .i64 u.1, .int .i64 u.2.1, .int .i64 u.2.2.1, .int .i64 u.2.2.2]] w fun e w' => e = .returned (.bool (decide (t = u))) ∧ Below w.heap.size w w' := by
  have hz : decide (t = u) = (decide (t.1 = u.1) && decide (t.2.1 = u.2.1) && decide (t.2.2.1 = u.2.2.1) && decide (t.2.2.2 = u.2.2.2)) := by
    rw [Bool.eq_iff_iff]
    simp only [Bool.and_eq_true, decide_eq_true_eq]
    exact ⟨fun h => by subst h; simp, fun h => Prod.ext h.1.1.1 (Prod.ext h.1.1.2 (Prod.ext h.1.2 h.2))⟩
  rw [hz]
  clear hz
  go_enter Tryd.func10, Tryd.ntmps10
  go_wp2
  all_goals
    go_ret
    simp only [bne_iff_ne, bne_eq_false_iff_eq, ne_eq] at *
    refine ⟨congrArg (fun b => Ending.returned (.bool b)) ?_, (((Below.refl _ _).alloc (Nat.le_refl _) _).alloc (by simp) _)⟩
    simp [*]

/-- What 'markReplyS' writes, from k on. -/
def marksReply (k : Int) (n : Nat) : List ReplyT := (List.range n).map fun (i : Nat) => (k + 4 * (i : Int), k + 4 * (i : Int) + 1, k + 4 * (i : Int) + 2, k + 4 * (i : Int) + 3)
theorem marksReply_len (k : Int) (n : Nat) : (marksReply k n).length = n := by simp [marksReply]
theorem marksReply_get (k : Int) (n i : Nat) (h : i < (marksReply k n).length) : (marksReply k n)[i] = (k + 4 * (i : Int), k + 4 * (i : Int) + 1, k + 4 * (i : Int) + 2, k + 4 * (i : Int) + 3) := by simp [marksReply]
theorem marksReply_succ (k : Int) (n : Nat) : marksReply k (n + 1) = marksReply k n ++ [(k + 4 * (n : Int), k + 4 * (n : Int) + 1, k + 4 * (n : Int) + 2, k + 4 * (n : Int) + 3)] := by
  simp [marksReply, List.range_succ]
theorem marksReply_set (k : Int) (j : Nat) (xs : List ReplyT) (h : j < xs.length) : (marksReply k j ++ xs.drop j).set j (k + 4 * (j : Int), k + 4 * (j : Int) + 1, k + 4 * (j : Int) + 2, k + 4 * (j : Int) + 3) = marksReply k (j + 1) ++ xs.drop (j + 1) := by
  rw [List.set_append_right _ _ (by rw [marksReply_len]; omega), marksReply_len, Nat.sub_self, List.drop_eq_getElem_cons h, List.set_cons_zero, marksReply_succ, List.append_assoc]
  rfl
theorem clone1Reply_c (A : Option Addr) (n c lo hi : Nat) (xs : List ReplyT) (w : World) (hn : n = xs.length) (hb : n ≤ 1048576) (hs : Sl encReply 4 w lo hi A xs) (hhi : hi ≤ w.heap.size) :
    Calls Tryd.prog 67 #[.slice A n c] w fun e w' => ∃ v, e = .returned v ∧ Own encReply 4 30 w' w.heap.size v xs ∧ Below w.heap.size w w' := by
  have hn' := hide hn
  clear hn
  cases A with
  | none =>
    have hx : xs = [] := by
      by_cases h : xs = []
      · exact h
      · obtain ⟨_, _, h1, _⟩ := hs h; cases h1
    subst hx
    obtain rfl : n = 0 := hn'.out
    have he := fun (w : World) (c : Nat) => Lib.run_eql_slice_nil (P := Tryd.prog) w 45 30 none 0 c 0 0 Tryd.underlying45
    go_enter Tryd.func67, Tryd.ntmps67
    go_wp2
    go_ret
    exact ⟨_, rfl, Own.nil_ _ _ _ _ _, Below.refl _ _⟩
  | some ad =>
    have he := fun (w : World) (c : Nat) => Lib.run_eql_slice_nil (P := Tryd.prog) w 45 30 (some ad) n c 0 0 Tryd.underlying45
    go_enter Tryd.func67, Tryd.ntmps67
    go_wp2_with (at_builtin; refine wpList_app encReply_len (by omega) encReply_one rfl _ _ 45 rfl 30 _ 32 Tryd.underlying45 infoReply rfl w.heap.size _ [] rfl (own_empty encReply 4 _ w) lo hi _ xs _ _ rfl hn'.out ?h1 ?h2 ?h3 ?_)
    case h1 => exact hs.below ((Below.refl hi w).alloc hhi _) (Nat.le_refl _)
    case h2 => have := hn'.out; simp [maxLen]; omega
    case h3 => simp
    intro v' w1 ho hg hb1
    go_wp2
    go_ret
    exact ⟨_, rfl, ho, (Below.refl _ _).trans (((Below.refl _ _).alloc (Nat.le_refl _) _).trans hb1)⟩

theorem clipReply_c (A : Option Addr) (n c : Nat) (w : World) (h0 : n ≤ c) (h1 : c ≤ maxLen) (hA : A = none → n = 0) (hA2 : ∀ a, A = some a → ∃ g, a = ⟨g, 0, none⟩) :
    Calls Tryd.prog 66 #[.slice A n c] w fun e w' => e = .returned (.slice A n n) ∧ w = w' := by
  unfold maxLen at h1
  cases A with
  | none =>
    obtain rfl := hA rfl
    go_enter Tryd.func66, Tryd.ntmps66
    go_wp2
    go_ret
    exact ⟨rfl, rfl⟩
  | some a =>
    obtain ⟨g, rfl⟩ := hA2 a rfl
    clear hA hA2
    go_enter Tryd.func66, Tryd.ntmps66
    go_wp2
    go_ret
    exact ⟨rfl, rfl⟩

theorem cloneReply_c (A : Option Addr) (n c lo hi : Nat) (xs : List ReplyT) (w : World) (hn : n = xs.length) (hb : n ≤ 1048576) (hs : Sl encReply 4 w lo hi A xs) (hhi : hi ≤ w.heap.size) :
    Calls Tryd.prog 41 #[.slice A n c] w fun e w' => ∃ A', e = .returned (.slice A' n n) ∧ Own encReply 4 30 w' w.heap.size (.slice A' n n) xs ∧ Below w.heap.size w w' := by
  have hn' := hide hn
  clear hn
  go_enter Tryd.func41, Tryd.ntmps41
  go_wp2_with fail
  refine (clone1Reply_c A n c lo hi xs w hn'.out hb hs hhi).mono ?_
  rintro e w1 ⟨v, rfl, ho, hb1⟩
  obtain ⟨A', c', rfl, h1, h2, h3⟩ := ho.form
  have hz := ho.clip
  rw [← hn'.out] at h1 hz ho ⊢
  have hcl := clipReply_c A' n c' w1 h1 h2 (by
    rintro rfl
    rcases ho with ⟨h4, h5⟩ | ⟨g, cap, cur, he, _⟩
    · injection h4
    · injection he with he; cases he) (by
    intro a ha
    rcases h3 with h3 | ⟨g, h3, _⟩
    · rw [h3] at ha; cases ha
    · rw [h3] at ha; injection ha with ha; exact ⟨g, ha.symm⟩)
  clear h3 h1 h2
  go_wp2_with fail
  refine hcl.mono ?_
  rintro e w2 ⟨rfl, rfl⟩
  go_wp2
  go_ret
  exact ⟨A', rfl, hz, hb1⟩
end Go.Proofs.YtajmfonepnkofaaDoor
