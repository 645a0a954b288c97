/-
  What a keeper did, in order, in both packages. (Printed by gen_nrl.py.)
  Conditions: none.
-/
import Derived.Test.YtphlnihmfgmecaaNXa
import Derived.Test.YtphlnihmfgmecaaNW
namespace Go.Proofs.Ytphlnihmfgmecaa
open Go.RowKit Rg
set_option linter.unusedVariables false
set_option linter.unusedSimpArgs false

def listFrom : Int → List ClaimT → List ReqV
  | _, [] => []
  | s, c :: cs => if c.1 = s then c.2.2 :: listFrom (s + 1) cs else []
def tookT (cs : List ClaimT) (k : Nat) : List ReqV := (cs.take k).map fun c => c.2.2
theorem tookT_len (cs : List ClaimT) (k : Nat) (h : k ≤ cs.length) : (tookT cs k).length = k := by simp [tookT]; omega
theorem tookT_succ (cs : List ClaimT) (k : Nat) (h : k < cs.length) : tookT cs (k + 1) = tookT cs k ++ [cs[k].2.2] := by
  unfold tookT
  rw [List.take_succ_eq_append_getElem h, List.map_append]
  rfl
theorem listFrom_take : ∀ (cs : List ClaimT) (s : Int) (k : Nat), k ≤ cs.length → (∀ i (hi : i < cs.length), i < k → cs[i].1 = s + i) → (∀ hi : k < cs.length, cs[k].1 ≠ s + k) → listFrom s cs = tookT cs k
  | [], s, k, hk, _, _ => by simp [listFrom, tookT]
  | c :: cs, s, 0, hk, _, he => by
    have h1 := he (by simp)
    have h2 : ¬ c.1 = s := by simpa using h1
    rw [listFrom, if_neg h2]; rfl
  | c :: cs, s, k + 1, hk, h, he => by
    have h3 : c.1 = s + ((0 : Nat) : Int) := h 0 (by simp) (by omega)
    have h1 : c.1 = s := by simpa using h3
    have ih := listFrom_take cs (s + 1) k (by simpa using hk) (fun i hi hik => by
      have := h (i + 1) (by simp; omega) (by omega)
      simp only [List.getElem_cons_succ] at this
      rw [this]; push_cast; omega) (fun hi => by
      have := he (by simp; omega)
      simp only [List.getElem_cons_succ] at this
      intro h9; apply this; rw [h9]; push_cast; omega)
    rw [listFrom, if_pos h1, ih]
    simp [tookT]
theorem okCls_len {cs : List ClaimT} (h : okCls cs) : cs.length ≤ 5 := by
  have key : ∀ i (hi : i < cs.length), (i : Int) + 1 ≤ cs[i].1 := by
    intro i
    induction i with
    | zero =>
      intro hi
      obtain ⟨_, h1, _⟩ := h 0 hi
      simp only [okCl, inB, Bool.and_eq_true, decide_eq_true_eq] at h1
      omega
    | succ i ih =>
      intro hi
      obtain ⟨_, _, h2⟩ := h (i + 1) hi
      have h3 := h2 (by omega)
      have h4 := ih (by omega)
      simp only [Nat.add_sub_cancel] at h3
      push_cast
      omega
  by_cases h5 : 5 < cs.length
  · have h6 := key 5 h5
    obtain ⟨_, h1, _⟩ := h 5 h5
    simp only [okCl, inB, Bool.and_eq_true, decide_eq_true_eq] at h1
    omega
  · omega
theorem okRep_done {t : RepT} (h : okRep t = true) : okCls t.2.2.2.2.2.2 := by
  simp only [okRep, Bool.and_eq_true, decide_eq_true_eq] at h
  grind
set_option maxRecDepth 100000 in
set_option maxHeartbeats 1000000 in
theorem l5List_c (t : RepT) (A B E : Option Addr) (n c p d q f : Nat) (lo hi : Nat) (w : World) (h0 : RdN 7 clR w lo hi A n c t.2.2.2.2.1) (h1 : RdN 11 msgR w lo hi B p d t.2.2.2.2.2.1) (h2 : RdN 7 clR w lo hi E q f t.2.2.2.2.2.2) (hhi : hi ≤ w.heap.size) (hd : t.2.2.2.2.2.2.length ≤ 5) :
    Calls Try.prog 130 #[.agg #[.int .i64 t.1, .int .i64 t.2.1, .bool t.2.2.1, .int .i64 t.2.2.2.1, .slice A n c, .slice B p d, .slice E q f]] w fun e w' => ∃ v, e = .returned v ∧ Own encReq 5 32 w' w.heap.size v (listFrom 1 t.2.2.2.2.2.2) ∧ Below w.heap.size w w' := by
  have hB1 : Below w.heap.size w (w.alloc (.cells #[.int .i64 t.1, .int .i64 t.2.1, .bool t.2.2.1, .int .i64 t.2.2.2.1, .slice A n c, .slice B p d, .slice E q f] 39)) := (Below.refl _ _).alloc (Nat.le_refl _) _
  have x6 : (w.alloc (.cells #[.int .i64 t.1, .int .i64 t.2.1, .bool t.2.2.1, .int .i64 t.2.2.2.1, .slice A n c, .slice B p d, .slice E q f] 39)).cell? ⟨w.heap.size, 6, none⟩ = some (.slice E q f) := by simp
  have hs1 : (w.alloc (.cells #[.int .i64 t.1, .int .i64 t.2.1, .bool t.2.2.1, .int .i64 t.2.2.2.1, .slice A n c, .slice B p d, .slice E q f] 39)).heap.size = w.heap.size + 1 := by simp
  have hs1' := hide hs1
  clear hs1
  have hown : Own encReq 5 32 ((w.alloc (.cells #[.int .i64 t.1, .int .i64 t.2.1, .bool t.2.2.1, .int .i64 t.2.2.2.1, .slice A n c, .slice B p d, .slice E q f] 39)).alloc (.cells #[] 32)) (w.heap.size + 1) (.slice (some ⟨w.heap.size + 1, 0, none⟩) 0 0) (tookT t.2.2.2.2.2.2 0) := by
    have := own_empty encReq 5 32 (w.alloc (.cells #[.int .i64 t.1, .int .i64 t.2.1, .bool t.2.2.1, .int .i64 t.2.2.2.1, .slice A n c, .slice B p d, .slice E q f] 39))
    simpa [tookT] using this
  have hb0 : Below (w.heap.size + 1) (w.alloc (.cells #[.int .i64 t.1, .int .i64 t.2.1, .bool t.2.2.1, .int .i64 t.2.2.2.1, .slice A n c, .slice B p d, .slice E q f] 39)) ((w.alloc (.cells #[.int .i64 t.1, .int .i64 t.2.1, .bool t.2.2.1, .int .i64 t.2.2.2.1, .slice A n c, .slice B p d, .slice E q f] 39)).alloc (.cells #[] 32)) := (Below.refl _ _).alloc (by simp) _
  have hq' := hide h2.len
  have hql : q ≤ 5 := by rw [h2.len]; exact hd
  have hq1 := h2.cap
  have hq2 := h2.max
  unfold maxLen at hq2
  go_enter Try.func130, Try.ntmps130
  go_wp2
  go_loopw [3, 4] (fun v s wr => ∃ k : Nat, k ≤ q ∧ s = .int .i64 (k : Int) ∧ Hid (∀ i (hi : i < t.2.2.2.2.2.2.length), i < k → t.2.2.2.2.2.2[i].1 = 1 + (i : Int)) ∧ Own encReq 5 32 wr (w.heap.size + 1) v (tookT t.2.2.2.2.2.2 k) ∧ Below (w.heap.size + 1) (w.alloc (.cells #[.int .i64 t.1, .int .i64 t.2.1, .bool t.2.2.1, .int .i64 t.2.2.2.1, .slice A n c, .slice B p d, .slice E q f] 39)) wr) (fun _ s _ => q - (intOf s).toNat)
  case atStart => exact ⟨0, Nat.zero_le _, by go_num, hide (fun i _ h => absurd h (by omega)), hown, hb0⟩
  case round =>
    obtain ⟨k, hk, rfl, hgo, ho, hbr⟩ := hrel
    have hBr := hB1.trans (hbr.mono (Nat.le_succ _))
    have hzr : w.heap.size + 1 ≤ wr.heap.size := by have := hbr.size; rw [hs1'.out] at this; exact this
    have x6 := (World.cell?_of_block (hbr.block w.heap.size (Nat.lt_succ_self _))).trans x6
    clear hown hb0
    by_cases hlt : k < q
    · have hlx : k < t.2.2.2.2.2.2.length := by have := hq'.out; omega
      obtain ⟨b, off, rfl, hlo, hbh⟩ := h2.addr hlx
      obtain ⟨a0, a1, a2, a3, a4, a5, a6⟩ := (h2.below (flat_kept _) hBr hhi).claim hlx
      cases e1 : (t.2.2.2.2.2.2[k].1 == (k : Int) + 1)
      · have hfin : Hid (listFrom 1 t.2.2.2.2.2.2 = tookT t.2.2.2.2.2.2 k) := hide (listFrom_take t.2.2.2.2.2.2 1 k (by omega) hgo.out (fun _ h9 => by rw [h9] at e1; simp at e1; omega))
        go_wp2
        go_ret
        exact ⟨_, rfl, by rw [hfin.out]; exact ho.mono (Nat.le_succ _), hBr⟩
      · have hyes : Hid (t.2.2.2.2.2.2[k].1 = 1 + (k : Int)) := hide (by have := eq_of_beq e1; omega)
        have hlen' := hide (tookT_len t.2.2.2.2.2.2 k (by omega))
        have hsucc := hide (tookT_succ t.2.2.2.2.2.2 k hlx)
        go_wp2_with (at_builtin; refine wpList_app encReq_len (by omega) encReq_one rfl _ _ 25 rfl 32 _ 40 Try.underlying25 infoReq rfl (w.heap.size + 1) _ (tookT t.2.2.2.2.2.2 k) rfl (ho.alloc _) 0 _ _ [t.2.2.2.2.2.2[k].2.2] _ _ rfl rfl (sl_arrQ encReq_len wr #[.int .i64 t.2.2.2.2.2.2[k].2.2.1, .int .i64 t.2.2.2.2.2.2[k].2.2.2.1, .int .i64 t.2.2.2.2.2.2[k].2.2.2.2.1, .int .i64 t.2.2.2.2.2.2[k].2.2.2.2.2.1, .int .i64 t.2.2.2.2.2.2[k].2.2.2.2.2.2] _ [t.2.2.2.2.2.2[k].2.2] rfl |>.mono (Nat.zero_le _) (Nat.le_refl _)) ?h2 ?h3 ?_)
        case h2 => have := hlen'.out; simp [maxLen]; omega
        case h3 => simp; omega
        intro v3 w3 ho4 hg3 hb3
        rw [← hsucc.out] at ho4
        go_wp2
        go_roundw
        case rel => exact ⟨k + 1, by omega, by go_num, hide (fun i hi hik => by
          by_cases h9 : i < k
          · exact hgo.out i hi h9
          · obtain rfl : i = k := by omega
            exact hyes.out), ho4, hbr.trans (((Below.refl _ _).alloc hzr _).trans hb3)⟩
        case measure => simp [intOf]; omega
    · obtain rfl : k = q := by omega
      have hfin : Hid (listFrom 1 t.2.2.2.2.2.2 = tookT t.2.2.2.2.2.2 k) := hide (listFrom_take t.2.2.2.2.2.2 1 k (by rw [hq'.out]; exact Nat.le_refl _) hgo.out (fun h9 _ => by have := hq'.out; omega))
      go_wp2
      go_ret
      exact ⟨_, rfl, by rw [hfin.out]; exact ho.mono (Nat.le_succ _), hBr⟩
theorem specRepList_c (t : RepT) (A B E : Option Addr) (n c p d q f : Nat) (lo hi : Nat) (w : World) (h0 : RdN 7 clR w lo hi A n c t.2.2.2.2.1) (h1 : RdN 11 msgR w lo hi B p d t.2.2.2.2.2.1) (h2 : RdN 7 clR w lo hi E q f t.2.2.2.2.2.2) (hhi : hi ≤ w.heap.size) :
    Calls Try.prog 64 #[.agg #[.int .i64 t.1, .int .i64 t.2.1, .bool t.2.2.1, .int .i64 t.2.2.2.1, .slice A n c, .slice B p d, .slice E q f]] w fun e w' => ∃ v, e = .returned v ∧ Own encReq 5 32 w' w.heap.size v (if okRep t then listFrom 1 t.2.2.2.2.2.2 else []) ∧ Below w.heap.size w w' := by
  have hA := (Below.refl w.heap.size w).alloc (Nat.le_refl _) (.cells #[.int .i64 t.1, .int .i64 t.2.1, .bool t.2.2.1, .int .i64 t.2.2.2.1, .slice A n c, .slice B p d, .slice E q f] 39)
  have hz := hA.size
  cases e1 : okRep t
  · go_enter Try.func64, Try.ntmps64
    go_wp2_with fail
    refine (l5Ok_c t A B E n c p d q f lo hi _ (h0.below (flat_kept _) hA hhi) (h1.below msg_kept hA hhi) (h2.below (flat_kept _) hA hhi) (Nat.le_trans hhi hz)).mono ?_
    rintro e w1 ⟨rfl, hb1⟩
    rw [e1]
    go_wp2
    go_ret
    exact ⟨_, rfl, Own.nil_ _ _ _ _ _, hA.trans (hb1.mono hz)⟩
  · have x := (show (w.alloc (.cells #[.int .i64 t.1, .int .i64 t.2.1, .bool t.2.2.1, .int .i64 t.2.2.2.1, .slice A n c, .slice B p d, .slice E q f] 39)).cell? ⟨w.heap.size, 0, none⟩ = some (.int .i64 t.1) ∧ (w.alloc (.cells #[.int .i64 t.1, .int .i64 t.2.1, .bool t.2.2.1, .int .i64 t.2.2.2.1, .slice A n c, .slice B p d, .slice E q f] 39)).cell? ⟨w.heap.size, 1, none⟩ = some (.int .i64 t.2.1) ∧ (w.alloc (.cells #[.int .i64 t.1, .int .i64 t.2.1, .bool t.2.2.1, .int .i64 t.2.2.2.1, .slice A n c, .slice B p d, .slice E q f] 39)).cell? ⟨w.heap.size, 2, none⟩ = some (.bool t.2.2.1) ∧ (w.alloc (.cells #[.int .i64 t.1, .int .i64 t.2.1, .bool t.2.2.1, .int .i64 t.2.2.2.1, .slice A n c, .slice B p d, .slice E q f] 39)).cell? ⟨w.heap.size, 3, none⟩ = some (.int .i64 t.2.2.2.1) ∧ (w.alloc (.cells #[.int .i64 t.1, .int .i64 t.2.1, .bool t.2.2.1, .int .i64 t.2.2.2.1, .slice A n c, .slice B p d, .slice E q f] 39)).cell? ⟨w.heap.size, 4, none⟩ = some (.slice A n c) ∧ (w.alloc (.cells #[.int .i64 t.1, .int .i64 t.2.1, .bool t.2.2.1, .int .i64 t.2.2.2.1, .slice A n c, .slice B p d, .slice E q f] 39)).cell? ⟨w.heap.size, 5, none⟩ = some (.slice B p d) ∧ (w.alloc (.cells #[.int .i64 t.1, .int .i64 t.2.1, .bool t.2.2.1, .int .i64 t.2.2.2.1, .slice A n c, .slice B p d, .slice E q f] 39)).cell? ⟨w.heap.size, 6, none⟩ = some (.slice E q f) from by simp)
    have hl : w.heap.size < (w.alloc (.cells #[.int .i64 t.1, .int .i64 t.2.1, .bool t.2.2.1, .int .i64 t.2.2.2.1, .slice A n c, .slice B p d, .slice E q f] 39)).heap.size := by simp
    go_enter Try.func64, Try.ntmps64
    go_wp2_with fail
    generalize (w.alloc (.cells #[.int .i64 t.1, .int .i64 t.2.1, .bool t.2.2.1, .int .i64 t.2.2.2.1, .slice A n c, .slice B p d, .slice E q f] 39)) = w0 at *
    refine (l5Ok_c t A B E n c p d q f lo hi _ (h0.below (flat_kept _) hA hhi) (h1.below msg_kept hA hhi) (h2.below (flat_kept _) hA hhi) (Nat.le_trans hhi hz)).mono ?_
    rintro e w1 ⟨rfl, hb1⟩
    rw [e1]
    obtain ⟨x0, x1, x2, x3, x4, x5, x6⟩ := x
    have x0 := keepc hb1 x0; have x1 := keepc hb1 x1; have x2 := keepc hb1 x2; have x3 := keepc hb1 x3; have x4 := keepc hb1 x4; have x5 := keepc hb1 x5; have x6 := keepc hb1 x6
    have hB := hA.trans (hb1.mono hz)
    go_wp2_with fail
    refine (l5List_c t A B E n c p d q f lo hi _ (h0.below (flat_kept _) hB hhi) (h1.below msg_kept hB hhi) (h2.below (flat_kept _) hB hhi) (Nat.le_trans hhi hB.size) (okCls_len (okRep_done e1))).mono ?_
    rintro e w2 ⟨v, rfl, ho, hb2⟩
    go_wp2
    go_ret
    exact ⟨_, rfl, ho.mono hB.size, hB.trans (hb2.mono hB.size)⟩
set_option maxRecDepth 100000 in
set_option maxHeartbeats 2000000 in
theorem RepList_c (t : RepT) (A B E : Option Addr) (n c p d q f : Nat) (lo hi : Nat) (w : World) (h0 : RdN 7 clR w lo hi A n c t.2.2.2.2.1) (h1 : RdN 11 msgR w lo hi B p d t.2.2.2.2.2.1) (h2 : RdN 7 clR w lo hi E q f t.2.2.2.2.2.2) (hhi : hi ≤ w.heap.size) :
    Calls Try.prog 26 #[.agg #[.int .i64 t.1, .int .i64 t.2.1, .bool t.2.2.1, .int .i64 t.2.2.2.1, .slice A n c, .slice B p d, .slice E q f]] w fun e w' => ∃ v, e = .returned v ∧ Own encReq 5 32 w' w.heap.size v (if okRep t then listFrom 1 t.2.2.2.2.2.2 else []) ∧ Below w.heap.size w w' := by
  have hA := (Below.refl w.heap.size w).alloc (Nat.le_refl _) (.cells #[.int .i64 t.1, .int .i64 t.2.1, .bool t.2.2.1, .int .i64 t.2.2.2.1, .slice A n c, .slice B p d, .slice E q f] 39)
  have hz := hA.size
  cases e1 : okRep t
  · go_enter Try.func26, Try.ntmps26
    go_wp2_with fail
    refine (RepOk_c t A B E n c p d q f lo hi _ (h0.below (flat_kept _) hA hhi) (h1.below msg_kept hA hhi) (h2.below (flat_kept _) hA hhi) (Nat.le_trans hhi hz)).mono ?_
    rintro e w1 ⟨rfl, hb1⟩
    rw [e1]
    go_wp2
    go_ret
    exact ⟨_, rfl, Own.nil_ _ _ _ _ _, hA.trans (hb1.mono hz)⟩
  · have x6 : (w.alloc (.cells #[.int .i64 t.1, .int .i64 t.2.1, .bool t.2.2.1, .int .i64 t.2.2.2.1, .slice A n c, .slice B p d, .slice E q f] 39)).cell? ⟨w.heap.size, 6, none⟩ = some (.slice E q f) := by simp
    have hq' := hide h2.len
    have hql : q ≤ 5 := by rw [h2.len]; exact okCls_len (okRep_done e1)
    have hq1 := h2.cap
    have hq2 := h2.max
    unfold maxLen at hq2
    go_enter Try.func26, Try.ntmps26
    go_wp2_with fail
    generalize (w.alloc (.cells #[.int .i64 t.1, .int .i64 t.2.1, .bool t.2.2.1, .int .i64 t.2.2.2.1, .slice A n c, .slice B p d, .slice E q f] 39)) = w0 at *
    refine (RepOk_c t A B E n c p d q f lo hi _ (h0.below (flat_kept _) hA hhi) (h1.below msg_kept hA hhi) (h2.below (flat_kept _) hA hhi) (Nat.le_trans hhi hz)).mono ?_
    rintro e w1 ⟨rfl, hb1⟩
    rw [e1]
    have x6 := keepc hb1 x6
    have hB1 := hA.trans (hb1.mono hz)
    have hz1 := hB1.size
    simp only [if_true]
    go_wp2
    go_loopw [3, 12] (fun v s wr => ∃ k : Nat, k ≤ q ∧ s = .int .i64 (k : Int) ∧ Hid (∀ i (hi : i < t.2.2.2.2.2.2.length), i < k → t.2.2.2.2.2.2[i].1 = 1 + (i : Int)) ∧ Own encReq 5 32 wr w.heap.size v (tookT t.2.2.2.2.2.2 k) ∧ Below w.heap.size w1 wr) (fun _ s _ => q - (intOf s).toNat)
    case atStart => exact ⟨0, Nat.zero_le _, by go_num, hide (fun i _ h => absurd h (by omega)), Own.nil_ _ _ _ _ _, Below.refl _ _⟩
    case round =>
      obtain ⟨k, hk, rfl, hgo, ho, hbr⟩ := hrel
      have hBr := hB1.trans hbr
      have hzr := hBr.size
      by_cases hlt : k < q
      · have hlx : k < t.2.2.2.2.2.2.length := by have := hq'.out; omega
        obtain ⟨b, off, rfl, hlo, hbh⟩ := h2.addr hlx
        obtain ⟨a0, a1, a2, a3, a4, a5, a6⟩ := (h2.below (flat_kept _) hBr hhi).claim hlx
        have hA2 := (Below.refl wr.heap.size wr).alloc (Nat.le_refl _) (.cells #[.int .i64 t.2.2.2.2.2.2[k].1, .int .i64 t.2.2.2.2.2.2[k].2.1, .int .i64 t.2.2.2.2.2.2[k].2.2.1, .int .i64 t.2.2.2.2.2.2[k].2.2.2.1, .int .i64 t.2.2.2.2.2.2[k].2.2.2.2.1, .int .i64 t.2.2.2.2.2.2[k].2.2.2.2.2.1, .int .i64 t.2.2.2.2.2.2[k].2.2.2.2.2.2] 34)
        have hB2 := hBr.trans (hA2.mono hzr)
        have ho2 := ho.alloc (.cells #[.int .i64 t.2.2.2.2.2.2[k].1, .int .i64 t.2.2.2.2.2.2[k].2.1, .int .i64 t.2.2.2.2.2.2[k].2.2.1, .int .i64 t.2.2.2.2.2.2[k].2.2.2.1, .int .i64 t.2.2.2.2.2.2[k].2.2.2.2.1, .int .i64 t.2.2.2.2.2.2[k].2.2.2.2.2.1, .int .i64 t.2.2.2.2.2.2[k].2.2.2.2.2.2] 34)
        have y0 : (wr.alloc (.cells #[.int .i64 t.2.2.2.2.2.2[k].1, .int .i64 t.2.2.2.2.2.2[k].2.1, .int .i64 t.2.2.2.2.2.2[k].2.2.1, .int .i64 t.2.2.2.2.2.2[k].2.2.2.1, .int .i64 t.2.2.2.2.2.2[k].2.2.2.2.1, .int .i64 t.2.2.2.2.2.2[k].2.2.2.2.2.1, .int .i64 t.2.2.2.2.2.2[k].2.2.2.2.2.2] 34)).cell? ⟨wr.heap.size, 0, none⟩ = some (.int .i64 t.2.2.2.2.2.2[k].1) := by simp
        have y1 : (wr.alloc (.cells #[.int .i64 t.2.2.2.2.2.2[k].1, .int .i64 t.2.2.2.2.2.2[k].2.1, .int .i64 t.2.2.2.2.2.2[k].2.2.1, .int .i64 t.2.2.2.2.2.2[k].2.2.2.1, .int .i64 t.2.2.2.2.2.2[k].2.2.2.2.1, .int .i64 t.2.2.2.2.2.2[k].2.2.2.2.2.1, .int .i64 t.2.2.2.2.2.2[k].2.2.2.2.2.2] 34)).cell? ⟨wr.heap.size, 1, none⟩ = some (.int .i64 t.2.2.2.2.2.2[k].2.1) := by simp
        have y2 : (wr.alloc (.cells #[.int .i64 t.2.2.2.2.2.2[k].1, .int .i64 t.2.2.2.2.2.2[k].2.1, .int .i64 t.2.2.2.2.2.2[k].2.2.1, .int .i64 t.2.2.2.2.2.2[k].2.2.2.1, .int .i64 t.2.2.2.2.2.2[k].2.2.2.2.1, .int .i64 t.2.2.2.2.2.2[k].2.2.2.2.2.1, .int .i64 t.2.2.2.2.2.2[k].2.2.2.2.2.2] 34)).cell? ⟨wr.heap.size, 2, none⟩ = some (.int .i64 t.2.2.2.2.2.2[k].2.2.1) := by simp
        have y3 : (wr.alloc (.cells #[.int .i64 t.2.2.2.2.2.2[k].1, .int .i64 t.2.2.2.2.2.2[k].2.1, .int .i64 t.2.2.2.2.2.2[k].2.2.1, .int .i64 t.2.2.2.2.2.2[k].2.2.2.1, .int .i64 t.2.2.2.2.2.2[k].2.2.2.2.1, .int .i64 t.2.2.2.2.2.2[k].2.2.2.2.2.1, .int .i64 t.2.2.2.2.2.2[k].2.2.2.2.2.2] 34)).cell? ⟨wr.heap.size, 3, none⟩ = some (.int .i64 t.2.2.2.2.2.2[k].2.2.2.1) := by simp
        have y4 : (wr.alloc (.cells #[.int .i64 t.2.2.2.2.2.2[k].1, .int .i64 t.2.2.2.2.2.2[k].2.1, .int .i64 t.2.2.2.2.2.2[k].2.2.1, .int .i64 t.2.2.2.2.2.2[k].2.2.2.1, .int .i64 t.2.2.2.2.2.2[k].2.2.2.2.1, .int .i64 t.2.2.2.2.2.2[k].2.2.2.2.2.1, .int .i64 t.2.2.2.2.2.2[k].2.2.2.2.2.2] 34)).cell? ⟨wr.heap.size, 4, none⟩ = some (.int .i64 t.2.2.2.2.2.2[k].2.2.2.2.1) := by simp
        have y5 : (wr.alloc (.cells #[.int .i64 t.2.2.2.2.2.2[k].1, .int .i64 t.2.2.2.2.2.2[k].2.1, .int .i64 t.2.2.2.2.2.2[k].2.2.1, .int .i64 t.2.2.2.2.2.2[k].2.2.2.1, .int .i64 t.2.2.2.2.2.2[k].2.2.2.2.1, .int .i64 t.2.2.2.2.2.2[k].2.2.2.2.2.1, .int .i64 t.2.2.2.2.2.2[k].2.2.2.2.2.2] 34)).cell? ⟨wr.heap.size, 5, none⟩ = some (.int .i64 t.2.2.2.2.2.2[k].2.2.2.2.2.1) := by simp
        have y6 : (wr.alloc (.cells #[.int .i64 t.2.2.2.2.2.2[k].1, .int .i64 t.2.2.2.2.2.2[k].2.1, .int .i64 t.2.2.2.2.2.2[k].2.2.1, .int .i64 t.2.2.2.2.2.2[k].2.2.2.1, .int .i64 t.2.2.2.2.2.2[k].2.2.2.2.1, .int .i64 t.2.2.2.2.2.2[k].2.2.2.2.2.1, .int .i64 t.2.2.2.2.2.2[k].2.2.2.2.2.2] 34)).cell? ⟨wr.heap.size, 6, none⟩ = some (.int .i64 t.2.2.2.2.2.2[k].2.2.2.2.2.2) := by simp
        cases e2 : (t.2.2.2.2.2.2[k].1 != (k : Int) + 1)
        · have hyes : Hid (t.2.2.2.2.2.2[k].1 = 1 + (k : Int)) := hide (by simp at e2; omega)
          have hlen' := hide (tookT_len t.2.2.2.2.2.2 k (by omega))
          have hsucc := hide (tookT_succ t.2.2.2.2.2.2 k hlx)
          go_wp2_with (at_builtin; refine wpList_app encReq_len (by omega) encReq_one rfl _ _ 25 rfl 32 _ 40 Try.underlying25 infoReq rfl w.heap.size _ (tookT t.2.2.2.2.2.2 k) rfl (ho2.alloc _) 0 _ _ [t.2.2.2.2.2.2[k].2.2] _ _ rfl rfl (sl_arrQ2 encReq_len wr (.cells #[.int .i64 t.2.2.2.2.2.2[k].1, .int .i64 t.2.2.2.2.2.2[k].2.1, .int .i64 t.2.2.2.2.2.2[k].2.2.1, .int .i64 t.2.2.2.2.2.2[k].2.2.2.1, .int .i64 t.2.2.2.2.2.2[k].2.2.2.2.1, .int .i64 t.2.2.2.2.2.2[k].2.2.2.2.2.1, .int .i64 t.2.2.2.2.2.2[k].2.2.2.2.2.2] 34) #[.int .i64 t.2.2.2.2.2.2[k].2.2.1, .int .i64 t.2.2.2.2.2.2[k].2.2.2.1, .int .i64 t.2.2.2.2.2.2[k].2.2.2.2.1, .int .i64 t.2.2.2.2.2.2[k].2.2.2.2.2.1, .int .i64 t.2.2.2.2.2.2[k].2.2.2.2.2.2] _ [t.2.2.2.2.2.2[k].2.2] rfl |>.mono (Nat.zero_le _) (Nat.le_refl _)) ?h2 ?h3 ?_)
          case h2 => have := hlen'.out; simp [maxLen]; omega
          case h3 => simp; omega
          intro v3 w3 ho4 hg3 hb3
          rw [← hsucc.out] at ho4
          go_wp2
          go_roundw
          case rel => exact ⟨k + 1, by omega, by go_num, hide (fun i hi hik => by
            by_cases h9 : i < k
            · exact hgo.out i hi h9
            · obtain rfl : i = k := by omega
              exact hyes.out), ho4, hbr.trans ((hA2.mono hzr).trans (((Below.refl _ _).alloc (by simp; omega) _).trans hb3))⟩
          case measure => simp [intOf]; omega
        · have hfin : Hid (listFrom 1 t.2.2.2.2.2.2 = tookT t.2.2.2.2.2.2 k) := hide (listFrom_take t.2.2.2.2.2.2 1 k (by omega) hgo.out (fun _ h9 => by rw [h9] at e2; simp at e2; omega))
          obtain ⟨A2, c2, rfl, h21, h22, h23⟩ := ho.form
          have hoc := ho2.clip
          have hcl := hide (fun W => clipReq_c A2 (tookT t.2.2.2.2.2.2 k).length c2 W h21 h22 (by
          rintro rfl
          rcases ho with ⟨h4, h5⟩ | ⟨g, cap, cur, he, _⟩
          · exact h5
          · injection he with he; cases he) (by
          intro a ha
          rcases h23 with h3 | ⟨g, h3, _⟩
          · rw [h3] at ha; cases ha
          · rw [h3] at ha; injection ha with ha; exact ⟨g, ha.symm⟩))
          clear h23 ho ho2
          go_wp2_with fail
          refine (hcl.out _).mono ?_
          rintro e w4 ⟨rfl, rfl⟩
          go_wp2
          go_ret
          exact ⟨_, rfl, by rw [hfin.out]; exact hoc, hB2⟩
      · obtain rfl : k = q := by omega
        have hfin : Hid (listFrom 1 t.2.2.2.2.2.2 = tookT t.2.2.2.2.2.2 k) := hide (listFrom_take t.2.2.2.2.2.2 1 k (by rw [hq'.out]; exact Nat.le_refl _) hgo.out (fun h9 _ => by have := hq'.out; omega))
        obtain ⟨A2, c2, rfl, h21, h22, h23⟩ := ho.form
        have hoc := ho.clip
        have hcl := hide (fun W => clipReq_c A2 (tookT t.2.2.2.2.2.2 k).length c2 W h21 h22 (by
          rintro rfl
          rcases ho with ⟨h4, h5⟩ | ⟨g, cap, cur, he, _⟩
          · exact h5
          · injection he with he; cases he) (by
          intro a ha
          rcases h23 with h3 | ⟨g, h3, _⟩
          · rw [h3] at ha; cases ha
          · rw [h3] at ha; injection ha with ha; exact ⟨g, ha.symm⟩))
        clear h23 ho
        go_wp2_with fail
        refine (hcl.out _).mono ?_
        rintro e w4 ⟨rfl, rfl⟩
        go_wp2
        go_ret
        exact ⟨_, rfl, by rw [hfin.out]; exact hoc, hBr⟩
end Go.Proofs.Ytphlnihmfgmecaa
