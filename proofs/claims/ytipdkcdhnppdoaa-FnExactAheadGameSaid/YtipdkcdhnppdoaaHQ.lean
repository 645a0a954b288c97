/-
  Functions over slices of 'Req' (5 integers): what each returns; what each leaves of memory. (Printed by gen_list.py.)
-/
import Derived.Test.YtipdkcdhnppdoaaHL
import Derived.WalkSpells
import Derived.WalkLawsBesides
namespace Go.Proofs.Ytipdkcdhnppdoaa
open Go.RowKit Rg
set_option linter.unusedVariables false
set_option linter.unusedSimpArgs false

abbrev ReqT := Int × Int × Int × Int × Int
def encReq (t : ReqT) : List Value := [.int .i64 t.1, .int .i64 t.2.1, .int .i64 t.2.2.1, .int .i64 t.2.2.2.1, .int .i64 t.2.2.2.2]
theorem encReq_len (t : ReqT) : (encReq t).length = 5 := rfl
theorem encReq_one (t : ReqT) : ∀ u ∈ encReq t, u.oneCell' = true := by
  intro u hu; simp [encReq] at hu; rcases hu with rfl | rfl | rfl | rfl | rfl <;> rfl
theorem Sl.getReq {w : World} {lo hi b off k : Nat} {xs : List ReqT} (h : Sl encReq 5 w lo hi (some ⟨b, off, none⟩) xs) (hk : k < xs.length) :
    w.cell? ⟨b, off + k * 5, none⟩ = some (.int .i64 xs[k].1) ∧ w.cell? ⟨b, off + k * 5 + 1, none⟩ = some (.int .i64 xs[k].2.1) ∧ w.cell? ⟨b, off + k * 5 + 2, none⟩ = some (.int .i64 xs[k].2.2.1) ∧ w.cell? ⟨b, off + k * 5 + 3, none⟩ = some (.int .i64 xs[k].2.2.2.1) ∧ w.cell? ⟨b, off + k * 5 + 4, none⟩ = some (.int .i64 xs[k].2.2.2.2) :=
  ⟨h.at_ hk 0 _ rfl, h.at_ hk 1 _ rfl, h.at_ hk 2 _ rfl, h.at_ hk 3 _ rfl, h.at_ hk 4 _ rfl⟩
theorem infoReq : (Try.prog.info? 48).map (fun i => (i.zero, i.size, i.bytes)) = some (some (.agg #[.int .i64 0, .int .i64 0, .int .i64 0, .int .i64 0, .int .i64 0]), 5, 40) := by kernel_rfl
theorem Own.someReq {w : World} {lo g n c k : Nat} {e : TypeId} {xs : List ReqT} (h : Own encReq 5 e w lo (.slice (some ⟨g, 0, none⟩) n c) xs) (hk : k < n) :
    ∃ z0 z1 z2 z3 z4 : Int, w.cell? ⟨g, k * 5, none⟩ = some (.int .i64 z0) ∧ w.cell? ⟨g, k * 5 + 1, none⟩ = some (.int .i64 z1) ∧ w.cell? ⟨g, k * 5 + 2, none⟩ = some (.int .i64 z2) ∧ w.cell? ⟨g, k * 5 + 3, none⟩ = some (.int .i64 z3) ∧ w.cell? ⟨g, k * 5 + 4, none⟩ = some (.int .i64 z4) := by
  obtain ⟨rfl, _, hs⟩ := h.slAt encReq_len
  have := hs.getReq hk
  simp only [Nat.zero_add] at this
  exact ⟨_, _, _, _, _, this⟩

theorem toReq_c (t : ReqT) (w : World) : Calls Try.prog 27 #[.agg #[.int .i64 t.1, .int .i64 t.2.1, .int .i64 t.2.2.1, .int .i64 t.2.2.2.1, .int .i64 t.2.2.2.2]] w fun e w' => e = .returned (.agg #[.int .i64 t.1, .int .i64 t.2.1, .int .i64 t.2.2.1, .int .i64 t.2.2.2.1, .int .i64 t.2.2.2.2]) ∧ Below w.heap.size w w' := by
  go_enter Try.func27, Try.ntmps27
  go_wp2
  exact bodyPost_ret (v := .agg #[.int .i64 t.1, .int .i64 t.2.1, .int .i64 t.2.2.1, .int .i64 t.2.2.2.1, .int .i64 t.2.2.2.2]) (by simp [results, Try.results27, go_sem]) rfl ⟨rfl, by first | exact Below.refl _ _ | (refine Below.alloc ?_ (by simp <;> omega) _; first | exact Below.refl _ _ | (refine Below.alloc ?_ (by simp <;> omega) _; first | exact Below.refl _ _ | (refine Below.alloc ?_ (by simp <;> omega) _; exact Below.refl _ _)))⟩

theorem eqReq_c (t u : ReqT) (w : World) : Calls Try.prog 33 #[.agg #[.int .i64 t.1, .int .i64 t.2.1, .int .i64 t.2.2.1, .int .i64 t.2.2.2.1, .int .i64 t.2.2.2.2], .agg #[.int .i64 u.1, .int .i64 u.2.1, .int .i64 u.2.2.1, .int .i64 u.2.2.2.1, .int .i64 u.2.2.2.2]] w fun e w' => e = .returned (.bool (decide (t = u))) ∧ Below w.heap.size w w' := by
  have hz : decide (t = u) = (decide (t.1 = u.1) && decide (t.2.1 = u.2.1) && decide (t.2.2.1 = u.2.2.1) && decide (t.2.2.2.1 = u.2.2.2.1) && decide (t.2.2.2.2 = u.2.2.2.2)) := by
    rw [Bool.eq_iff_iff]
    simp only [Bool.and_eq_true, decide_eq_true_eq]
    exact ⟨fun h => by subst h; simp, fun h => Prod.ext h.1.1.1.1 (Prod.ext h.1.1.1.2 (Prod.ext h.1.1.2 (Prod.ext h.1.2 h.2)))⟩
  rw [hz]
  clear hz
  go_enter Try.func33, Try.ntmps33
  go_wp2
  all_goals
    go_ret
    simp only [bne_iff_ne, bne_eq_false_iff_eq, ne_eq] at *
    refine ⟨congrArg (fun b => Ending.returned (.bool b)) ?_, (((Below.refl _ _).alloc (Nat.le_refl _) _).alloc (by simp) _)⟩
    simp [*]

theorem toReqS_c (A : Option Addr) (n c lo hi : Nat) (xs : List ReqT) (w : World) (hn : n = xs.length) (hb : n ≤ 1048576) (hs : Sl encReq 5 w lo hi A xs) (hhi : hi ≤ w.heap.size) :
    Calls Try.prog 8 #[.slice A n c] w fun e w' => ∃ v, e = .returned v ∧ Own encReq 5 48 w' w.heap.size v xs ∧ Below w.heap.size w w' := by
  have hmk := fun W => run_make_n (P := Try.prog) 29 48 (info_parts infoReq).choose _ Try.underlying29 (info_parts infoReq).choose_spec.1 (info_parts infoReq).choose_spec.2.1 .i64 .i64 n (by rw [(info_parts infoReq).choose_spec.2.2.2]; omega) (by omega) W
  rw [(info_parts infoReq).choose_spec.2.2.1] at hmk
  have hown : Own encReq 5 48 (w.alloc (.cells (madeCells (Value.agg #[.int .i64 0, .int .i64 0, .int .i64 0, .int .i64 0, .int .i64 0]).cells (n * 5)) 48)) w.heap.size (.slice (some ⟨w.heap.size, 0, none⟩) n n) (List.replicate n (0, 0, 0, 0, 0)) :=
    own_made encReq_len (by omega) _ w _ n (0, 0, 0, 0, 0) (Value.agg #[.int .i64 0, .int .i64 0, .int .i64 0, .int .i64 0, .int .i64 0]) rfl (Nat.le_refl _) (by unfold maxLen; omega)
  have hbel : Below w.heap.size w (w.alloc (.cells (madeCells (Value.agg #[.int .i64 0, .int .i64 0, .int .i64 0, .int .i64 0, .int .i64 0]).cells (n * 5)) 48)) := (Below.refl _ _).alloc (Nat.le_refl _) _
  have hn' := hide hn
  clear hn
  go_enter Try.func8, Try.ntmps8
  go_wp2
  go_loopw [4] (fun i wr => ∃ k : Nat, k ≤ n ∧ i = .int .i64 k ∧ Own encReq 5 48 wr w.heap.size (.slice (some ⟨w.heap.size, 0, none⟩) n n) (xs.take k ++ List.replicate (n - k) (0, 0, 0, 0, 0)) ∧ Below w.heap.size w wr) (fun i _ => n - (intOf i).toNat)
  case atStart => exact ⟨0, Nat.zero_le _, rfl, by rw [List.take_zero, List.nil_append, Nat.sub_zero]; exact hown, hbel⟩
  case round =>
    obtain ⟨k, hk, rfl, ho, hbr⟩ := hrel
    by_cases hlt : k < n
    · have hlx : k < xs.length := by have := hn'.out; omega
      obtain ⟨b, off, rfl, hlo, hbh⟩ := hs.addr hlx
      obtain ⟨a1, a2, a3, a4, a5⟩ := (hs.below hbr hhi).getReq hlx
      go_wp2_with (go_at_call 27; refine (toReq_c xs[k] _).mono ?_; rintro e w1 ⟨rfl, hb1⟩; have ho1 := ho.below hb1 (Nat.le_refl _); obtain ⟨u0, u1, u2, u3, u4, c0, c1, c2, c3, c4⟩ := ho1.someReq hlt; have f0 := ho1.frozen (k * 5); have f1 := ho1.frozen (k * 5 + 1); have f2 := ho1.frozen (k * 5 + 2); have f3 := ho1.frozen (k * 5 + 3); have f4 := ho1.frozen (k * 5 + 4))
      go_roundw
      case rel =>
        refine ⟨k + 1, by omega, by go_num, ?_, ?_⟩
        · have := ho1.put_ encReq_len hlt xs[k]
          rw [take_set_replicate xs _ k n hn'.out hlt] at this
          exact this
        · exact (((((hbr.trans (hb1.mono hbr.size)).setCell (by simp) _).setCell (by simp) _).setCell (by simp) _).setCell (by simp) _).setCell (by simp) _
      case measure => simp [intOf]; omega
    · obtain rfl : k = n := by omega
      go_wp2
      go_ret
      refine ⟨_, rfl, ?_, hbr⟩
      rw [Nat.sub_self, List.replicate_zero, List.append_nil, List.take_of_length_le (by rw [hn'.out]; omega)] at ho
      exact ho

theorem eqReqS_c (A B : Option Addr) (n m c d lo hi lo' hi' : Nat) (xs ys : List ReqT) (w : World) (hn : n = xs.length) (hm : m = ys.length) (hb : n ≤ 1048576) (hb' : m ≤ 1048576) (hs : Sl encReq 5 w lo hi A xs) (hs' : Sl encReq 5 w lo' hi' B ys) (hhi : hi ≤ w.heap.size) (hhi' : hi' ≤ w.heap.size) :
    Calls Try.prog 11 #[.slice A n c, .slice B m d] w fun e w' => e = .returned (.bool (decide (xs = ys))) ∧ Below w.heap.size w w' := by
  have hn' := hide hn
  have hm' := hide hm
  by_cases hnm : n = m
  · have hxy : xs.length = ys.length := by omega
    have hxy' := hide hxy
    clear hn hm hxy
    subst hnm
    go_enter Try.func11, Try.ntmps11
    go_wp2
    go_loopw [5] (fun i wr => ∃ k : Nat, k ≤ n ∧ i = .int .i64 k ∧ Hid (xs.take k = ys.take k) ∧ Below w.heap.size w wr) (fun i _ => n - (intOf i).toNat)
    case atStart => exact ⟨0, Nat.zero_le _, rfl, rfl, Below.refl _ _⟩
    case round =>
      obtain ⟨k, hk, rfl, he, hbr⟩ := hrel
      by_cases hlt : k < n
      · have hlx : k < xs.length := by have := hn'.out; omega
        have hly : k < ys.length := by have := hm'.out; omega
        obtain ⟨b, off, rfl, hlo, hbh⟩ := hs.addr hlx
        obtain ⟨b', off', rfl, hlo', hbh'⟩ := hs'.addr hly
        obtain ⟨a1, a2, a3, a4, a5⟩ := (hs.below hbr hhi).getReq hlx
        obtain ⟨b1, b2, b3, b4, b5⟩ := (hs'.below hbr hhi').getReq hly
        go_wp2
        refine wp_region_T (fun _ => True) [] [] [] [0, 1, 2, 3, 4, 5, 6, 7, 8, 9] (by kernel_rfl) (by kernel_rfl) (by kernel_rfl) trivial ?_; simp only [pickL, List.getElem?_cons_succ, List.getElem?_cons_zero]
        go_wp2_with (first
          | ((with_reducible refine wpT_q0 ?_ ?_ ?_ ?_); (focus rfl); (focus rfl); (focus rfl); intro K hK) | ((with_reducible refine wpT_x0 ?_ ?_ ?_); (focus rfl); (focus rfl); intro K hK) | ((with_reducible refine wpT_noL ?_ ?_); (focus (first | exact wanted_no _ _ _ rfl rfl rfl | exact wanted_un _ _ _ rfl rfl rfl)); simp only [setO, List.set_cons_succ, List.set_cons_zero]) | ((with_reducible refine wpT_q1 ?_ ?_ ?_ ?_); (focus exact wanted_yes _ _ _ rfl rfl rfl); (focus rfl); (focus rfl); intro K hK) | ((with_reducible refine wpT_x1 ?_ ?_ ?_); (focus exact wanted_yes _ _ _ rfl rfl rfl); (focus rfl); intro K hK) | ((with_reducible refine wpT_nil ?_); try dsimp only)
          | (go_at_call 33; refine (eqReq_c xs[k] ys[k] _).mono ?_; rintro e w1 ⟨rfl, hb1⟩))
        · rename_i hne
          go_ret
          refine ⟨congrArg (fun b => Ending.returned (.bool b)) ?_, hbr.trans ((Below.drew (Below.refl _ _)).trans (hb1.mono hbr.size))⟩
          have : ¬ xs = ys := fun h => by subst h; simp at hne
          simp [this]
        · go_roundw
          case rel =>
            refine ⟨k + 1, by omega, by go_num, ?_, hbr.trans ((Below.drew (Below.refl _ _)).trans (hb1.mono hbr.size))⟩
            refine take_eq_succ xs ys k hlx hly he.out ?_
            rename_i heq
            simpa using heq
          case measure => simp [intOf]; omega
      · obtain rfl : k = n := by omega
        go_wp2
        go_ret
        have e1 := he.out
        rw [List.take_of_length_le (by rw [hn'.out]; omega), List.take_of_length_le (by rw [hm'.out]; omega)] at e1
        exact ⟨by simp [e1], hbr⟩
  · have hne : ¬ xs = ys := fun h => by subst h; omega
    have hne' : ((n : Int) != (m : Int)) = true := by simp; omega
    clear hn hm
    go_enter Try.func11, Try.ntmps11
    go_wp2
    go_ret
    exact ⟨by simp [hne], Below.refl _ _⟩

/-- What 'markReqS' writes, from k on. -/
def marksReq (k : Int) (n : Nat) : List ReqT := (List.range n).map fun (i : Nat) => (k + 5 * (i : Int), k + 5 * (i : Int) + 1, k + 5 * (i : Int) + 2, k + 5 * (i : Int) + 3, k + 5 * (i : Int) + 4)
theorem marksReq_len (k : Int) (n : Nat) : (marksReq k n).length = n := by simp [marksReq]
theorem marksReq_get (k : Int) (n i : Nat) (h : i < (marksReq k n).length) : (marksReq k n)[i] = (k + 5 * (i : Int), k + 5 * (i : Int) + 1, k + 5 * (i : Int) + 2, k + 5 * (i : Int) + 3, k + 5 * (i : Int) + 4) := by simp [marksReq]
theorem marksReq_succ (k : Int) (n : Nat) : marksReq k (n + 1) = marksReq k n ++ [(k + 5 * (n : Int), k + 5 * (n : Int) + 1, k + 5 * (n : Int) + 2, k + 5 * (n : Int) + 3, k + 5 * (n : Int) + 4)] := by
  simp [marksReq, List.range_succ]
theorem marksReq_set (k : Int) (j : Nat) (xs : List ReqT) (h : j < xs.length) : (marksReq k j ++ xs.drop j).set j (k + 5 * (j : Int), k + 5 * (j : Int) + 1, k + 5 * (j : Int) + 2, k + 5 * (j : Int) + 3, k + 5 * (j : Int) + 4) = marksReq k (j + 1) ++ xs.drop (j + 1) := by
  rw [List.set_append_right _ _ (by rw [marksReq_len]; omega), marksReq_len, Nat.sub_self, List.drop_eq_getElem_cons h, List.set_cons_zero, marksReq_succ, List.append_assoc]
  rfl
theorem markReqS_c (A : Option Addr) (n c lo : Nat) (k : Int) (xs : List ReqT) (w : World) (hn : n = xs.length) (hb : n ≤ 1048576) (hk0 : 0 ≤ k) (hk1 : k ≤ 1099511627776) (ho : Own encReq 5 48 w lo (.slice A n c) xs) :
    Calls Try.prog 12 #[.slice A n c, .int .i64 k] w fun e w' => e = .returned (.int .i64 (k + 5 * n)) ∧ Own encReq 5 48 w' lo (.slice A n c) (marksReq k n) ∧ Only w.heap.size (Value.slice A n c).ownBlock w w' := by
  have hn' := hide hn
  clear hn
  go_enter Try.func12, Try.ntmps12
  go_wp2
  go_loopw [1, 5] (fun kk i wr => ∃ j : Nat, j ≤ n ∧ i = .int .i64 j ∧ kk = .int .i64 (k + 5 * j) ∧ Own encReq 5 48 wr lo (.slice A n c) (marksReq k j ++ xs.drop j) ∧ Only w.heap.size (Value.slice A n c).ownBlock w wr) (fun _ i _ => n - (intOf i).toNat)
  case atStart => exact ⟨0, Nat.zero_le _, rfl, by go_num, by simpa [marksReq] using ho, Only.refl _ _ _⟩
  case round =>
    obtain ⟨j, hj, rfl, rfl, hor, hgr⟩ := hrel
    by_cases hlt : j < n
    · obtain ⟨g, rfl, hg1, hg2⟩ := hor.addrAt hlt
      obtain ⟨u0, u1, u2, u3, u4, c0, c1, c2, c3, c4⟩ := hor.someReq hlt
      have f0 := hor.frozen (j * 5)
      have f1 := hor.frozen (j * 5 + 1)
      have f2 := hor.frozen (j * 5 + 2)
      have f3 := hor.frozen (j * 5 + 3)
      have f4 := hor.frozen (j * 5 + 4)
      have hx : j < xs.length := by have := hn'.out; omega
      go_wp2
      go_roundw
      case rel =>
        refine ⟨j + 1, by omega, by go_num, by go_num, ?_, ?_⟩
        · have h5 := hor.put_ encReq_len hlt (k + 5 * (j : Int), k + 5 * (j : Int) + 1, k + 5 * (j : Int) + 2, k + 5 * (j : Int) + 3, k + 5 * (j : Int) + 4)
          rw [marksReq_set k j xs hx] at h5
          have e2 : k + 5 * (j : Int) + 1 + 1 = k + 5 * (j : Int) + 2 := by omega
          have e3 : k + 5 * (j : Int) + 2 + 1 = k + 5 * (j : Int) + 3 := by omega
          have e4 : k + 5 * (j : Int) + 3 + 1 = k + 5 * (j : Int) + 4 := by omega
          try simp only [e2, e3, e4]
          exact h5
        · exact Only.put (encReq (_, _, _, _, _)) hgr
      case measure => simp [intOf]; omega
    · obtain rfl : j = n := by omega
      go_wp2
      go_ret
      refine ⟨rfl, ?_, hgr⟩
      rw [List.drop_of_length_le (by rw [hn'.out]; omega), List.append_nil] at hor
      exact hor

end Go.Proofs.Ytipdkcdhnppdoaa
