/-
  Functions over slices of 'Reply' (4 integers): what each returns; what each leaves of memory. (Printed by gen_list.py.)
-/
import Derived.Test.YtchofialljhojaaGA
import Derived.WalkSpells
import Derived.WalkLawsBesides
namespace Go.Proofs.Ytchofialljhojaa
open Go.RowKit Rg
set_option linter.unusedVariables false
set_option linter.unusedSimpArgs false

abbrev ReplyT := Int × Int × Int × Int
def encReply (t : ReplyT) : List Value := [.int .i64 t.1, .int .i64 t.2.1, .int .i64 t.2.2.1, .int .i64 t.2.2.2]
theorem encReply_len (t : ReplyT) : (encReply t).length = 4 := rfl
theorem encReply_one (t : ReplyT) : ∀ u ∈ encReply t, u.oneCell' = true := by
  intro u hu; simp [encReply] at hu; rcases hu with rfl | rfl | rfl | rfl <;> rfl
theorem Sl.getReply {w : World} {lo hi b off k : Nat} {xs : List ReplyT} (h : Sl encReply 4 w lo hi (some ⟨b, off, none⟩) xs) (hk : k < xs.length) :
    w.cell? ⟨b, off + k * 4, none⟩ = some (.int .i64 xs[k].1) ∧ w.cell? ⟨b, off + k * 4 + 1, none⟩ = some (.int .i64 xs[k].2.1) ∧ w.cell? ⟨b, off + k * 4 + 2, none⟩ = some (.int .i64 xs[k].2.2.1) ∧ w.cell? ⟨b, off + k * 4 + 3, none⟩ = some (.int .i64 xs[k].2.2.2) :=
  ⟨h.at_ hk 0 _ rfl, h.at_ hk 1 _ rfl, h.at_ hk 2 _ rfl, h.at_ hk 3 _ rfl⟩
theorem infoReply : (Try.prog.info? 37).map (fun i => (i.zero, i.size, i.bytes)) = some (some (.agg #[.int .i64 0, .int .i64 0, .int .i64 0, .int .i64 0]), 4, 32) := by kernel_rfl
theorem Own.someReply {w : World} {lo g n c k : Nat} {e : TypeId} {xs : List ReplyT} (h : Own encReply 4 e w lo (.slice (some ⟨g, 0, none⟩) n c) xs) (hk : k < n) :
    ∃ z0 z1 z2 z3 : Int, w.cell? ⟨g, k * 4, none⟩ = some (.int .i64 z0) ∧ w.cell? ⟨g, k * 4 + 1, none⟩ = some (.int .i64 z1) ∧ w.cell? ⟨g, k * 4 + 2, none⟩ = some (.int .i64 z2) ∧ w.cell? ⟨g, k * 4 + 3, none⟩ = some (.int .i64 z3) := by
  obtain ⟨rfl, _, hs⟩ := h.slAt encReply_len
  have := hs.getReply hk
  simp only [Nat.zero_add] at this
  exact ⟨_, _, _, _, this⟩

theorem toReply_c (t : ReplyT) (w : World) : Calls Try.prog 29 #[.agg #[.int .i64 t.1, .int .i64 t.2.1, .int .i64 t.2.2.1, .int .i64 t.2.2.2]] w fun e w' => e = .returned (.agg #[.int .i64 t.1, .int .i64 t.2.1, .int .i64 t.2.2.1, .int .i64 t.2.2.2]) ∧ Below w.heap.size w w' := by
  go_enter Try.func29, Try.ntmps29
  go_wp2
  exact bodyPost_ret (v := .agg #[.int .i64 t.1, .int .i64 t.2.1, .int .i64 t.2.2.1, .int .i64 t.2.2.2]) (by simp [results, Try.results29, go_sem]) rfl ⟨rfl, by first | exact Below.refl _ _ | (refine Below.alloc ?_ (by simp <;> omega) _; first | exact Below.refl _ _ | (refine Below.alloc ?_ (by simp <;> omega) _; first | exact Below.refl _ _ | (refine Below.alloc ?_ (by simp <;> omega) _; exact Below.refl _ _)))⟩

theorem eqReply_c (t u : ReplyT) (w : World) : Calls Try.prog 20 #[.agg #[.int .i64 t.1, .int .i64 t.2.1, .int .i64 t.2.2.1, .int .i64 t.2.2.2], .agg #[.int .i64 u.1, .int .i64 u.2.1, .int .i64 u.2.2.1, .int .i64 u.2.2.2]] w fun e w' => e = .returned (.bool (decide (t = u))) ∧ Below w.heap.size w w' := by
  have hz : decide (t = u) = (decide (t.1 = u.1) && decide (t.2.1 = u.2.1) && decide (t.2.2.1 = u.2.2.1) && decide (t.2.2.2 = u.2.2.2)) := by
    rw [Bool.eq_iff_iff]
    simp only [Bool.and_eq_true, decide_eq_true_eq]
    exact ⟨fun h => by subst h; simp, fun h => Prod.ext h.1.1.1 (Prod.ext h.1.1.2 (Prod.ext h.1.2 h.2))⟩
  rw [hz]
  clear hz
  go_enter Try.func20, Try.ntmps20
  go_wp2
  all_goals
    go_ret
    simp only [bne_iff_ne, bne_eq_false_iff_eq, ne_eq] at *
    refine ⟨congrArg (fun b => Ending.returned (.bool b)) ?_, (((Below.refl _ _).alloc (Nat.le_refl _) _).alloc (by simp) _)⟩
    simp [*]

theorem toReplyS_c (A : Option Addr) (n c lo hi : Nat) (xs : List ReplyT) (w : World) (hn : n = xs.length) (hb : n ≤ 1048576) (hs : Sl encReply 4 w lo hi A xs) (hhi : hi ≤ w.heap.size) :
    Calls Try.prog 52 #[.slice A n c] w fun e w' => ∃ v, e = .returned v ∧ Own encReply 4 37 w' w.heap.size v xs ∧ Below w.heap.size w w' := by
  have hmk := fun W => run_make_n (P := Try.prog) 30 37 (info_parts infoReply).choose _ Try.underlying30 (info_parts infoReply).choose_spec.1 (info_parts infoReply).choose_spec.2.1 .i64 .i64 n (by rw [(info_parts infoReply).choose_spec.2.2.2]; omega) (by omega) W
  rw [(info_parts infoReply).choose_spec.2.2.1] at hmk
  have hown : Own encReply 4 37 (w.alloc (.cells (madeCells (Value.agg #[.int .i64 0, .int .i64 0, .int .i64 0, .int .i64 0]).cells (n * 4)) 37)) w.heap.size (.slice (some ⟨w.heap.size, 0, none⟩) n n) (List.replicate n (0, 0, 0, 0)) :=
    own_made encReply_len (by omega) _ w _ n (0, 0, 0, 0) (Value.agg #[.int .i64 0, .int .i64 0, .int .i64 0, .int .i64 0]) rfl (Nat.le_refl _) (by unfold maxLen; omega)
  have hbel : Below w.heap.size w (w.alloc (.cells (madeCells (Value.agg #[.int .i64 0, .int .i64 0, .int .i64 0, .int .i64 0]).cells (n * 4)) 37)) := (Below.refl _ _).alloc (Nat.le_refl _) _
  have hn' := hide hn
  clear hn
  go_enter Try.func52, Try.ntmps52
  go_wp2
  go_loopw [4] (fun i wr => ∃ k : Nat, k ≤ n ∧ i = .int .i64 k ∧ Own encReply 4 37 wr w.heap.size (.slice (some ⟨w.heap.size, 0, none⟩) n n) (xs.take k ++ List.replicate (n - k) (0, 0, 0, 0)) ∧ Below w.heap.size w wr) (fun i _ => n - (intOf i).toNat)
  case atStart => exact ⟨0, Nat.zero_le _, rfl, by rw [List.take_zero, List.nil_append, Nat.sub_zero]; exact hown, hbel⟩
  case round =>
    obtain ⟨k, hk, rfl, ho, hbr⟩ := hrel
    by_cases hlt : k < n
    · have hlx : k < xs.length := by have := hn'.out; omega
      obtain ⟨b, off, rfl, hlo, hbh⟩ := hs.addr hlx
      obtain ⟨a1, a2, a3, a4⟩ := (hs.below hbr hhi).getReply hlx
      go_wp2_with (go_at_call 29; refine (toReply_c xs[k] _).mono ?_; rintro e w1 ⟨rfl, hb1⟩; have ho1 := ho.below hb1 (Nat.le_refl _); obtain ⟨u0, u1, u2, u3, c0, c1, c2, c3⟩ := ho1.someReply hlt; have f0 := ho1.frozen (k * 4); have f1 := ho1.frozen (k * 4 + 1); have f2 := ho1.frozen (k * 4 + 2); have f3 := ho1.frozen (k * 4 + 3))
      go_roundw
      case rel =>
        refine ⟨k + 1, by omega, by go_num, ?_, ?_⟩
        · have := ho1.put_ encReply_len hlt xs[k]
          rw [take_set_replicate xs _ k n hn'.out hlt] at this
          exact this
        · exact ((((hbr.trans (hb1.mono hbr.size)).setCell (by simp) _).setCell (by simp) _).setCell (by simp) _).setCell (by simp) _
      case measure => simp [intOf]; omega
    · obtain rfl : k = n := by omega
      go_wp2
      go_ret
      refine ⟨_, rfl, ?_, hbr⟩
      rw [Nat.sub_self, List.replicate_zero, List.append_nil, List.take_of_length_le (by rw [hn'.out]; omega)] at ho
      exact ho

theorem eqReplyS_c (A B : Option Addr) (n m c d lo hi lo' hi' : Nat) (xs ys : List ReplyT) (w : World) (hn : n = xs.length) (hm : m = ys.length) (hb : n ≤ 1048576) (hb' : m ≤ 1048576) (hs : Sl encReply 4 w lo hi A xs) (hs' : Sl encReply 4 w lo' hi' B ys) (hhi : hi ≤ w.heap.size) (hhi' : hi' ≤ w.heap.size) :
    Calls Try.prog 56 #[.slice A n c, .slice B m d] w fun e w' => e = .returned (.bool (decide (xs = ys))) ∧ Below w.heap.size w w' := by
  have hn' := hide hn
  have hm' := hide hm
  by_cases hnm : n = m
  · have hxy : xs.length = ys.length := by omega
    have hxy' := hide hxy
    clear hn hm hxy
    subst hnm
    go_enter Try.func56, Try.ntmps56
    go_wp2
    go_loopw [5] (fun i wr => ∃ k : Nat, k ≤ n ∧ i = .int .i64 k ∧ Hid (xs.take k = ys.take k) ∧ Below w.heap.size w wr) (fun i _ => n - (intOf i).toNat)
    case atStart => exact ⟨0, Nat.zero_le _, rfl, rfl, Below.refl _ _⟩
    case round =>
      obtain ⟨k, hk, rfl, he, hbr⟩ := hrel
      by_cases hlt : k < n
      · have hlx : k < xs.length := by have := hn'.out; omega
        have hly : k < ys.length := by have := hm'.out; omega
        obtain ⟨b, off, rfl, hlo, hbh⟩ := hs.addr hlx
        obtain ⟨b', off', rfl, hlo', hbh'⟩ := hs'.addr hly
        obtain ⟨a1, a2, a3, a4⟩ := (hs.below hbr hhi).getReply hlx
        obtain ⟨b1, b2, b3, b4⟩ := (hs'.below hbr hhi').getReply hly
        go_wp2
        refine wp_region_T (fun _ => True) [] [] [] [0, 1, 2, 3, 4, 5, 6, 7, 8, 9] (by kernel_rfl) (by kernel_rfl) (by kernel_rfl) trivial ?_; simp only [pickL, List.getElem?_cons_succ, List.getElem?_cons_zero]
        go_wp2_with (first
          | ((with_reducible refine wpT_q0 ?_ ?_ ?_ ?_); (focus rfl); (focus rfl); (focus rfl); intro K hK) | ((with_reducible refine wpT_x0 ?_ ?_ ?_); (focus rfl); (focus rfl); intro K hK) | ((with_reducible refine wpT_noL ?_ ?_); (focus (first | exact wanted_no _ _ _ rfl rfl rfl | exact wanted_un _ _ _ rfl rfl rfl)); simp only [setO, List.set_cons_succ, List.set_cons_zero]) | ((with_reducible refine wpT_q1 ?_ ?_ ?_ ?_); (focus exact wanted_yes _ _ _ rfl rfl rfl); (focus rfl); (focus rfl); intro K hK) | ((with_reducible refine wpT_x1 ?_ ?_ ?_); (focus exact wanted_yes _ _ _ rfl rfl rfl); (focus rfl); intro K hK) | ((with_reducible refine wpT_nil ?_); try dsimp only)
          | (go_at_call 20; refine (eqReply_c xs[k] ys[k] _).mono ?_; rintro e w1 ⟨rfl, hb1⟩))
        · rename_i hne
          go_ret
          refine ⟨congrArg (fun b => Ending.returned (.bool b)) ?_, hbr.trans ((Below.drew (Below.refl _ _)).trans (hb1.mono hbr.size))⟩
          have : ¬ xs = ys := fun h => by subst h; simp at hne
          simp [this]
        · go_roundw
          case rel =>
            refine ⟨k + 1, by omega, by go_num, ?_, hbr.trans ((Below.drew (Below.refl _ _)).trans (hb1.mono hbr.size))⟩
            refine take_eq_succ xs ys k hlx hly he.out ?_
            rename_i heq
            simpa using heq
          case measure => simp [intOf]; omega
      · obtain rfl : k = n := by omega
        go_wp2
        go_ret
        have e1 := he.out
        rw [List.take_of_length_le (by rw [hn'.out]; omega), List.take_of_length_le (by rw [hm'.out]; omega)] at e1
        exact ⟨by simp [e1], hbr⟩
  · have hne : ¬ xs = ys := fun h => by subst h; omega
    have hne' : ((n : Int) != (m : Int)) = true := by simp; omega
    clear hn hm
    go_enter Try.func56, Try.ntmps56
    go_wp2
    go_ret
    exact ⟨by simp [hne], Below.refl _ _⟩

/-- What 'markReplyS' writes, from k on. -/
def marksReply (k : Int) (n : Nat) : List ReplyT := (List.range n).map fun (i : Nat) => (k + 4 * (i : Int), k + 4 * (i : Int) + 1, k + 4 * (i : Int) + 2, k + 4 * (i : Int) + 3)
theorem marksReply_len (k : Int) (n : Nat) : (marksReply k n).length = n := by simp [marksReply]
theorem marksReply_get (k : Int) (n i : Nat) (h : i < (marksReply k n).length) : (marksReply k n)[i] = (k + 4 * (i : Int), k + 4 * (i : Int) + 1, k + 4 * (i : Int) + 2, k + 4 * (i : Int) + 3) := by simp [marksReply]
theorem marksReply_succ (k : Int) (n : Nat) : marksReply k (n + 1) = marksReply k n ++ [(k + 4 * (n : Int), k + 4 * (n : Int) + 1, k + 4 * (n : Int) + 2, k + 4 * (n : Int) + 3)] := by
  simp [marksReply, List.range_succ]
theorem marksReply_set (k : Int) (j : Nat) (xs : List ReplyT) (h : j < xs.length) : (marksReply k j ++ xs.drop j).set j (k + 4 * (j : Int), k + 4 * (j : Int) + 1, k + 4 * (j : Int) + 2, k + 4 * (j : Int) + 3) = marksReply k (j + 1) ++ xs.drop (j + 1) := by
  rw [List.set_append_right _ _ (by rw [marksReply_len]; omega), marksReply_len, Nat.sub_self, List.drop_eq_getElem_cons h, List.set_cons_zero, marksReply_succ, List.append_assoc]
  rfl
theorem markReplyS_c (A : Option Addr) (n c lo : Nat) (k : Int) (xs : List ReplyT) (w : World) (hn : n = xs.length) (hb : n ≤ 1048576) (hk0 : 0 ≤ k) (hk1 : k ≤ 1099511627776) (ho : Own encReply 4 37 w lo (.slice A n c) xs) :
    Calls Try.prog 68 #[.slice A n c, .int .i64 k] w fun e w' => e = .returned (.int .i64 (k + 4 * n)) ∧ Own encReply 4 37 w' lo (.slice A n c) (marksReply k n) ∧ Only w.heap.size (Value.slice A n c).ownBlock w w' := by
  have hn' := hide hn
  clear hn
  go_enter Try.func68, Try.ntmps68
  go_wp2
  go_loopw [1, 5] (fun kk i wr => ∃ j : Nat, j ≤ n ∧ i = .int .i64 j ∧ kk = .int .i64 (k + 4 * j) ∧ Own encReply 4 37 wr lo (.slice A n c) (marksReply k j ++ xs.drop j) ∧ Only w.heap.size (Value.slice A n c).ownBlock w wr) (fun _ i _ => n - (intOf i).toNat)
  case atStart => exact ⟨0, Nat.zero_le _, rfl, by go_num, by simpa [marksReply] using ho, Only.refl _ _ _⟩
  case round =>
    obtain ⟨j, hj, rfl, rfl, hor, hgr⟩ := hrel
    by_cases hlt : j < n
    · obtain ⟨g, rfl, hg1, hg2⟩ := hor.addrAt hlt
      obtain ⟨u0, u1, u2, u3, c0, c1, c2, c3⟩ := hor.someReply hlt
      have f0 := hor.frozen (j * 4)
      have f1 := hor.frozen (j * 4 + 1)
      have f2 := hor.frozen (j * 4 + 2)
      have f3 := hor.frozen (j * 4 + 3)
      have hx : j < xs.length := by have := hn'.out; omega
      go_wp2
      go_roundw
      case rel =>
        refine ⟨j + 1, by omega, by go_num, by go_num, ?_, ?_⟩
        · have h5 := hor.put_ encReply_len hlt (k + 4 * (j : Int), k + 4 * (j : Int) + 1, k + 4 * (j : Int) + 2, k + 4 * (j : Int) + 3)
          rw [marksReply_set k j xs hx] at h5
          have e2 : k + 4 * (j : Int) + 1 + 1 = k + 4 * (j : Int) + 2 := by omega
          have e3 : k + 4 * (j : Int) + 2 + 1 = k + 4 * (j : Int) + 3 := by omega
          try simp only [e2, e3]
          exact h5
        · exact Only.put (encReply (_, _, _, _)) hgr
      case measure => simp [intOf]; omega
    · obtain rfl : j = n := by omega
      go_wp2
      go_ret
      refine ⟨rfl, ?_, hgr⟩
      rw [List.drop_of_length_le (by rw [hn'.out]; omega), List.append_nil] at hor
      exact hor

theorem heldReplyS_c (A : Option Addr) (n c lo hi : Nat) (k : Int) (w : World) (hb : n ≤ 1048576) (hk0 : 0 ≤ k) (hk1 : k ≤ 1099511627776) (hs : Sl encReply 4 w lo hi A (marksReply k n)) :
    Calls Try.prog 69 #[.slice A n c, .int .i64 k] w fun e w' => e = .returned (.int .i64 (k + 4 * n)) ∧ w = w' := by
  go_enter Try.func69, Try.ntmps69
  go_wp2
  go_loop [1, 5] (fun kk i => ∃ j : Nat, j ≤ n ∧ i = .int .i64 j ∧ kk = .int .i64 (k + 4 * j)) (fun _ i => n - (intOf i).toNat)
  case atStart => exact ⟨0, Nat.zero_le _, rfl, by go_num⟩
  case round =>
    obtain ⟨j, hj, rfl, rfl⟩ := hrel
    by_cases hlt : j < n
    · have hlx : j < (marksReply k n).length := by rw [marksReply_len]; exact hlt
      obtain ⟨b, off, rfl, hlo, hbh⟩ := hs.addr hlx
      obtain ⟨a1, a2, a3, a4⟩ := hs.getReply hlx
      rw [marksReply_get] at a1 a2 a3 a4
      dsimp only at a1 a2 a3 a4
      have e2 : k + 4 * (j : Int) + 1 + 1 = k + 4 * (j : Int) + 2 := by omega
      have e3 : k + 4 * (j : Int) + 2 + 1 = k + 4 * (j : Int) + 3 := by omega
      go_wp2
      go_round
      case rel => exact ⟨j + 1, by omega, by go_num, by go_num⟩
      case measure => simp [intOf]; omega
    · obtain rfl : j = n := by omega
      go_wp2
      go_ret
      exact ⟨rfl, rfl⟩

theorem clone1Reply_c (A : Option Addr) (n c lo hi : Nat) (xs : List ReplyT) (w : World) (hn : n = xs.length) (hb : n ≤ 1048576) (hs : Sl encReply 4 w lo hi A xs) (hhi : hi ≤ w.heap.size) :
    Calls Try.prog 92 #[.slice A n c] w fun e w' => ∃ v, e = .returned v ∧ Own encReply 4 37 w' w.heap.size v xs ∧ Below w.heap.size w w' := by
  have hn' := hide hn
  clear hn
  cases A with
  | none =>
    have hx : xs = [] := by
      by_cases h : xs = []
      · exact h
      · obtain ⟨_, _, h1, _⟩ := hs h; cases h1
    subst hx
    obtain rfl : n = 0 := hn'.out
    have he := fun (w : World) (c : Nat) => Lib.run_eql_slice_nil (P := Try.prog) w 30 37 none 0 c 0 0 Try.underlying30
    go_enter Try.func92, Try.ntmps92
    go_wp2
    go_ret
    exact ⟨_, rfl, Own.nil_ _ _ _ _ _, Below.refl _ _⟩
  | some ad =>
    have he := fun (w : World) (c : Nat) => Lib.run_eql_slice_nil (P := Try.prog) w 30 37 (some ad) n c 0 0 Try.underlying30
    go_enter Try.func92, Try.ntmps92
    go_wp2_with (at_builtin; refine wpList_app encReply_len (by omega) encReply_one rfl _ _ 30 rfl 37 _ 32 Try.underlying30 infoReply rfl w.heap.size _ [] rfl (own_empty encReply 4 _ w) lo hi _ xs _ _ rfl hn'.out ?h1 ?h2 ?h3 ?_)
    case h1 => exact hs.below ((Below.refl hi w).alloc hhi _) (Nat.le_refl _)
    case h2 => have := hn'.out; simp [maxLen]; omega
    case h3 => simp
    intro v' w1 ho hg hb1
    go_wp2
    go_ret
    exact ⟨_, rfl, ho, (Below.refl _ _).trans (((Below.refl _ _).alloc (Nat.le_refl _) _).trans hb1)⟩

theorem clipReply_c (A : Option Addr) (n c : Nat) (w : World) (h0 : n ≤ c) (h1 : c ≤ maxLen) (hA : A = none → n = 0) (hA2 : ∀ a, A = some a → ∃ g, a = ⟨g, 0, none⟩) :
    Calls Try.prog 91 #[.slice A n c] w fun e w' => e = .returned (.slice A n n) ∧ w = w' := by
  unfold maxLen at h1
  cases A with
  | none =>
    obtain rfl := hA rfl
    go_enter Try.func91, Try.ntmps91
    go_wp2
    go_ret
    exact ⟨rfl, rfl⟩
  | some a =>
    obtain ⟨g, rfl⟩ := hA2 a rfl
    clear hA hA2
    go_enter Try.func91, Try.ntmps91
    go_wp2
    go_ret
    exact ⟨rfl, rfl⟩

theorem cloneReply_c (A : Option Addr) (n c lo hi : Nat) (xs : List ReplyT) (w : World) (hn : n = xs.length) (hb : n ≤ 1048576) (hs : Sl encReply 4 w lo hi A xs) (hhi : hi ≤ w.heap.size) :
    Calls Try.prog 62 #[.slice A n c] w fun e w' => ∃ A', e = .returned (.slice A' n n) ∧ Own encReply 4 37 w' w.heap.size (.slice A' n n) xs ∧ Below w.heap.size w w' := by
  have hn' := hide hn
  clear hn
  go_enter Try.func62, Try.ntmps62
  go_wp2_with fail
  refine (clone1Reply_c A n c lo hi xs w hn'.out hb hs hhi).mono ?_
  rintro e w1 ⟨v, rfl, ho, hb1⟩
  obtain ⟨A', c', rfl, h1, h2, h3⟩ := ho.form
  have hz := ho.clip
  rw [← hn'.out] at h1 hz ho ⊢
  have hcl := clipReply_c A' n c' w1 h1 h2 (by
    rintro rfl
    rcases ho with ⟨h4, h5⟩ | ⟨g, cap, cur, he, _⟩
    · injection h4
    · injection he with he; cases he) (by
    intro a ha
    rcases h3 with h3 | ⟨g, h3, _⟩
    · rw [h3] at ha; cases ha
    · rw [h3] at ha; injection ha with ha; exact ⟨g, ha.symm⟩)
  clear h3 h1 h2
  go_wp2_with fail
  refine hcl.mono ?_
  rintro e w2 ⟨rfl, rfl⟩
  go_wp2
  go_ret
  exact ⟨A', rfl, hz, hb1⟩
end Go.Proofs.Ytchofialljhojaa
