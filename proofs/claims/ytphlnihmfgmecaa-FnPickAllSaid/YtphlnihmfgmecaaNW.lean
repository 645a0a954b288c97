/-
  What is picked at all places, in both packages. (Printed by gen_nw.py.)
  Conditions: none.
-/
import Derived.Test.YtphlnihmfgmecaaNV
namespace Go.Proofs.Ytphlnihmfgmecaa
open Go.RowKit Rg
set_option linter.unusedVariables false
set_option linter.unusedSimpArgs false

theorem sl_arrQ {α : Type} {enc : α → List Value} {sz : Nat} (hl : ∀ x, (enc x).length = sz) (w : World) (arr : Array Value) (e : TypeId) (xs : List α) (h : arr.toList = xs.flatMap enc) :
    Sl enc sz (w.alloc (.cells arr e)) w.heap.size (w.heap.size + 1) (some ⟨w.heap.size, 0, none⟩) xs := by
  intro _
  refine ⟨w.heap.size, 0, rfl, Nat.le_refl _, Nat.lt_succ_self _, fun i x hx j u hu => ?_⟩
  have h5 := flatMap_get hl xs i x hx j u hu
  rw [← h] at h5
  have h0 := heap_alloc_new w (.cells arr e)
  simp only [World.cell?, h0, Nat.zero_add]
  simpa using h5
theorem sl_arrQ2 {α : Type} {enc : α → List Value} {sz : Nat} (hl : ∀ x, (enc x).length = sz) (w : World) (o : Obj) (arr : Array Value) (e : TypeId) (xs : List α) (h : arr.toList = xs.flatMap enc) :
    Sl enc sz ((w.alloc o).alloc (.cells arr e)) (w.heap.size + 1) (w.heap.size + 1 + 1) (some ⟨w.heap.size + 1, 0, none⟩) xs := by
  have := sl_arrQ hl (w.alloc o) arr e xs h
  simpa using this
def picksT (ts : List VoteT) (k : Nat) : List ReqV := (List.range k).map fun (i : Nat) => pickOf (clsOf ts) ((i : Int) + 1)
theorem picksT_len (ts : List VoteT) (k : Nat) : (picksT ts k).length = k := by simp [picksT]
theorem picksT_succ (ts : List VoteT) (k : Nat) : picksT ts (k + 1) = picksT ts k ++ [pickOf (clsOf ts) ((k : Int) + 1)] := by simp [picksT, List.range_succ]
set_option maxHeartbeats 1000000 in
theorem l4Picks_c (A : Option Addr) (n c lo hi : Nat) (ts : List VoteT) (w : World) (hs : RdN 2 voteR w lo hi A n c ts) (hhi : hi ≤ w.heap.size) (htop : topOf (clsOf ts) ≤ 1000) :
    Calls Try.prog 79 #[.slice A n c] w fun e w' => ∃ v, e = .returned v ∧ Own encReq 5 32 w' w.heap.size v (picksL ts) ∧ Below w.heap.size w w' := by
  obtain ⟨T, hT⟩ : ∃ T : Nat, topOf (clsOf ts) = (T : Int) := ⟨(topOf (clsOf ts)).toNat, by have := topOf_nonneg (clsOf ts); omega⟩
  have hTb : T ≤ 1000 := by omega
  have hfin : Hid (picksL ts = picksT ts T) := hide (by unfold picksL picksT; rw [hT]; rfl)
  have hT' := hide hT
  have hown : Own encReq 5 32 (w.alloc (.cells #[] 32)) w.heap.size (.slice (some ⟨w.heap.size, 0, none⟩) 0 0) (picksT ts 0) := own_empty encReq 5 _ w
  have hb0 : Below w.heap.size w (w.alloc (.cells #[] 32)) := (Below.refl _ _).alloc (Nat.le_refl _) _
  clear hT htop
  go_enter Try.func79, Try.ntmps79
  go_wp2
  go_loopw [3, 4] (fun v s wr => ∃ k : Nat, k ≤ T ∧ s = .int .i64 ((k : Int) + 1) ∧ Own encReq 5 32 wr w.heap.size v (picksT ts k) ∧ Below w.heap.size w wr) (fun _ s _ => T + 1 - (intOf s).toNat)
  case atStart => exact ⟨0, Nat.zero_le _, by go_num, hown, hb0⟩
  case round =>
    obtain ⟨k, hk, rfl, ho, hbr⟩ := hrel
    have htc := hide (fun W (h : Below w.heap.size w W) => l4Top_c A n c lo hi ts W (hs.below vote_kept h hhi))
    by_cases hlt : k < T
    · have d1 : decide ((k : Int) + 1 ≤ (T : Int)) = true := by simp; omega
      go_wp2_with fail
      refine (htc.out _ hbr).mono ?_
      rintro e w1 ⟨rfl, rfl⟩
      rw [hT'.out]
      go_wp2_with fail
      refine (l4Pick_c A n c lo hi ts ((k : Int) + 1) wr (hs.below vote_kept hbr hhi) (Nat.le_trans hhi hbr.size)).mono ?_
      rintro e w2 ⟨rfl, hb2⟩
      have hB2 := hbr.trans (hb2.mono hbr.size)
      have ho2 := ho.below hb2 (Nat.le_refl _)
      have hlen := picksT_len ts k
      have hlen' := hide hlen
      clear hlen
      have hsucc := hide (picksT_succ ts k)
      go_wp2_with (at_builtin; refine wpList_app encReq_len (by omega) encReq_one rfl _ _ 25 rfl 32 _ 40 Try.underlying25 infoReq rfl w.heap.size _ (picksT ts k) rfl (ho2.alloc _) 0 _ _ [(pickOf (clsOf ts) ((k : Int) + 1))] _ _ rfl rfl (sl_arrQ encReq_len w2 #[.int .i64 (pickOf (clsOf ts) ((k : Int) + 1)).1, .int .i64 (pickOf (clsOf ts) ((k : Int) + 1)).2.1, .int .i64 (pickOf (clsOf ts) ((k : Int) + 1)).2.2.1, .int .i64 (pickOf (clsOf ts) ((k : Int) + 1)).2.2.2.1, .int .i64 (pickOf (clsOf ts) ((k : Int) + 1)).2.2.2.2] _ [(pickOf (clsOf ts) ((k : Int) + 1))] rfl |>.mono (Nat.zero_le _) (Nat.le_refl _)) ?h2 ?h3 ?_)
      case h2 => have := hlen'.out; simp [maxLen]; omega
      case h3 => have := hB2.size; simp; omega
      intro v3 w3 ho3 hg3 hb3
      rw [← hsucc.out] at ho3
      go_wp2
      go_roundw
      case rel => exact ⟨k + 1, by omega, by go_num, ho3, hB2.trans (((Below.refl _ _).alloc (by have := hB2.size; omega) _).trans hb3)⟩
      case measure => simp [intOf]; omega
    · obtain rfl : k = T := by omega
      have d1 : decide ((k : Int) + 1 ≤ (k : Int)) = false := by simp; omega
      go_wp2_with fail
      refine (htc.out _ hbr).mono ?_
      rintro e w1 ⟨rfl, rfl⟩
      rw [hT'.out]
      go_wp2
      go_ret
      exact ⟨_, rfl, by rw [hfin.out]; exact ho, hbr⟩
theorem specPickAll_c (A : Option Addr) (n c lo hi : Nat) (ts : List VoteT) (w : World) (hs : RdN 2 voteR w lo hi A n c ts) (hhi : hi ≤ w.heap.size) :
    Calls Try.prog 20 #[.slice A n c] w fun e w' => ∃ v, e = .returned v ∧ Own encReq 5 32 w' w.heap.size v (if okVs ts then picksL ts else []) ∧ Below w.heap.size w w' := by
  by_cases h : okVs ts
  · have htop := topOf_okVs h
    have e1 : decide (okVs ts) = true := decide_eq_true h
    rw [if_pos h]
    go_enter Try.func20, Try.ntmps20
    go_wp2_with fail
    refine (l3VotesOk_c A n c lo hi ts w hs hhi).mono ?_
    rintro e w1 ⟨rfl, hb1⟩
    rw [e1]
    go_wp2_with fail
    refine (l4Picks_c A n c lo hi ts w1 (hs.below vote_kept hb1 hhi) (Nat.le_trans hhi hb1.size) (by omega)).mono ?_
    rintro e w2 ⟨v, rfl, ho, hb2⟩
    go_wp2
    go_ret
    exact ⟨_, rfl, ho.mono hb1.size, hb1.trans (hb2.mono hb1.size)⟩
  · have e1 : decide (okVs ts) = false := decide_eq_false h
    rw [if_neg h]
    go_enter Try.func20, Try.ntmps20
    go_wp2_with fail
    refine (l3VotesOk_c A n c lo hi ts w hs hhi).mono ?_
    rintro e w1 ⟨rfl, hb1⟩
    rw [e1]
    go_wp2
    go_ret
    exact ⟨_, rfl, Own.nil_ _ _ _ _ _, hb1⟩
theorem clipReq_c (A : Option Addr) (n c : Nat) (w : World) (h0 : n ≤ c) (h1 : c ≤ maxLen) (hA : A = none → n = 0) (hA2 : ∀ a, A = some a → ∃ g, a = ⟨g, 0, none⟩) :
    Calls Try.prog 93 #[.slice A n c] w fun e w' => e = .returned (.slice A n n) ∧ w = w' := by
  unfold maxLen at h1
  cases A with
  | none =>
    obtain rfl := hA rfl
    go_enter Try.func93, Try.ntmps93
    go_wp2
    go_ret
    exact ⟨rfl, rfl⟩
  | some a =>
    obtain ⟨g, rfl⟩ := hA2 a rfl
    clear hA hA2
    go_enter Try.func93, Try.ntmps93
    go_wp2
    go_ret
    exact ⟨rfl, rfl⟩
set_option maxRecDepth 20000 in
set_option maxHeartbeats 1000000 in
theorem pickAll_c (A : Option Addr) (n c lo hi : Nat) (ts : List VoteT) (w : World) (hs : RdN 2 voteR w lo hi A n c ts) (hhi : hi ≤ w.heap.size) (htop : topOf (clsOf ts) ≤ 1000) :
    Calls Try.prog 77 #[.slice A n c] w fun e w' => ∃ v, e = .returned v ∧ Own encReq 5 32 w' w.heap.size v (picksL ts) ∧ Below w.heap.size w w' := by
  obtain ⟨T, hT⟩ : ∃ T : Nat, topOf (clsOf ts) = (T : Int) := ⟨(topOf (clsOf ts)).toNat, by have := topOf_nonneg (clsOf ts); omega⟩
  have hTb : T ≤ 1000 := by omega
  have hfin : Hid (picksL ts = picksT ts T) := hide (by unfold picksL picksT; rw [hT]; rfl)
  have hT' := hide hT
  clear hT htop
  go_enter Try.func77, Try.ntmps77
  go_wp2
  go_loopw [3, 4] (fun v s wr => ∃ k : Nat, k ≤ T ∧ s = .int .i64 ((k : Int) + 1) ∧ Own encReq 5 32 wr w.heap.size v (picksT ts k) ∧ Below w.heap.size w wr) (fun _ s _ => T + 1 - (intOf s).toNat)
  case atStart => exact ⟨0, Nat.zero_le _, by go_num, Own.nil_ _ _ _ _ _, Below.refl _ _⟩
  case round =>
    obtain ⟨k, hk, rfl, ho, hbr⟩ := hrel
    have hpk := hide (picked_c A n c lo hi ts ((k : Int) + 1) wr (hs.below vote_kept hbr hhi) (Nat.le_trans hhi hbr.size))
    by_cases hlt : k < T
    · have e1 : Hid ((reachB ((k : Int) + 1) (clsOf ts) && decide (1 ≤ (k : Int) + 1)) = true) := hide (by rw [reach_iff (by omega), hT'.out]; simp; omega)
      go_wp2_with fail
      refine hpk.out.mono ?_
      rintro e w2 ⟨rfl, hb2⟩
      rw [e1.out]
      have hB2 := hbr.trans (hb2.mono hbr.size)
      have ho2 := ho.below hb2 (Nat.le_refl _)
      have hA := (Below.refl w2.heap.size w2).alloc (Nat.le_refl _) (.cells #[.int .i64 (pickOf (clsOf ts) ((k : Int) + 1)).1, .int .i64 (pickOf (clsOf ts) ((k : Int) + 1)).2.1, .int .i64 (pickOf (clsOf ts) ((k : Int) + 1)).2.2.1, .int .i64 (pickOf (clsOf ts) ((k : Int) + 1)).2.2.2.1, .int .i64 (pickOf (clsOf ts) ((k : Int) + 1)).2.2.2.2] 32)
      have hB3 := hB2.trans (hA.mono hB2.size)
      have ho3 := ho2.alloc (.cells #[.int .i64 (pickOf (clsOf ts) ((k : Int) + 1)).1, .int .i64 (pickOf (clsOf ts) ((k : Int) + 1)).2.1, .int .i64 (pickOf (clsOf ts) ((k : Int) + 1)).2.2.1, .int .i64 (pickOf (clsOf ts) ((k : Int) + 1)).2.2.2.1, .int .i64 (pickOf (clsOf ts) ((k : Int) + 1)).2.2.2.2] 32)
      have y0 : (w2.alloc (.cells #[.int .i64 (pickOf (clsOf ts) ((k : Int) + 1)).1, .int .i64 (pickOf (clsOf ts) ((k : Int) + 1)).2.1, .int .i64 (pickOf (clsOf ts) ((k : Int) + 1)).2.2.1, .int .i64 (pickOf (clsOf ts) ((k : Int) + 1)).2.2.2.1, .int .i64 (pickOf (clsOf ts) ((k : Int) + 1)).2.2.2.2] 32)).cell? ⟨w2.heap.size, 0, none⟩ = some (.int .i64 (pickOf (clsOf ts) ((k : Int) + 1)).1) := by simp
      have y1 : (w2.alloc (.cells #[.int .i64 (pickOf (clsOf ts) ((k : Int) + 1)).1, .int .i64 (pickOf (clsOf ts) ((k : Int) + 1)).2.1, .int .i64 (pickOf (clsOf ts) ((k : Int) + 1)).2.2.1, .int .i64 (pickOf (clsOf ts) ((k : Int) + 1)).2.2.2.1, .int .i64 (pickOf (clsOf ts) ((k : Int) + 1)).2.2.2.2] 32)).cell? ⟨w2.heap.size, 1, none⟩ = some (.int .i64 (pickOf (clsOf ts) ((k : Int) + 1)).2.1) := by simp
      have y2 : (w2.alloc (.cells #[.int .i64 (pickOf (clsOf ts) ((k : Int) + 1)).1, .int .i64 (pickOf (clsOf ts) ((k : Int) + 1)).2.1, .int .i64 (pickOf (clsOf ts) ((k : Int) + 1)).2.2.1, .int .i64 (pickOf (clsOf ts) ((k : Int) + 1)).2.2.2.1, .int .i64 (pickOf (clsOf ts) ((k : Int) + 1)).2.2.2.2] 32)).cell? ⟨w2.heap.size, 2, none⟩ = some (.int .i64 (pickOf (clsOf ts) ((k : Int) + 1)).2.2.1) := by simp
      have y3 : (w2.alloc (.cells #[.int .i64 (pickOf (clsOf ts) ((k : Int) + 1)).1, .int .i64 (pickOf (clsOf ts) ((k : Int) + 1)).2.1, .int .i64 (pickOf (clsOf ts) ((k : Int) + 1)).2.2.1, .int .i64 (pickOf (clsOf ts) ((k : Int) + 1)).2.2.2.1, .int .i64 (pickOf (clsOf ts) ((k : Int) + 1)).2.2.2.2] 32)).cell? ⟨w2.heap.size, 3, none⟩ = some (.int .i64 (pickOf (clsOf ts) ((k : Int) + 1)).2.2.2.1) := by simp
      have y4 : (w2.alloc (.cells #[.int .i64 (pickOf (clsOf ts) ((k : Int) + 1)).1, .int .i64 (pickOf (clsOf ts) ((k : Int) + 1)).2.1, .int .i64 (pickOf (clsOf ts) ((k : Int) + 1)).2.2.1, .int .i64 (pickOf (clsOf ts) ((k : Int) + 1)).2.2.2.1, .int .i64 (pickOf (clsOf ts) ((k : Int) + 1)).2.2.2.2] 32)).cell? ⟨w2.heap.size, 4, none⟩ = some (.int .i64 (pickOf (clsOf ts) ((k : Int) + 1)).2.2.2.2) := by simp
      have hlen' := hide (picksT_len ts k)
      have hsucc := hide (picksT_succ ts k)
      have hT0 := hT'
      clear hpk hA ho ho2
      go_wp2_with (at_builtin; refine wpList_app encReq_len (by omega) encReq_one rfl _ _ 25 rfl 32 _ 40 Try.underlying25 infoReq rfl w.heap.size _ (picksT ts k) rfl (ho3.alloc _) 0 _ _ [(pickOf (clsOf ts) ((k : Int) + 1))] _ _ rfl rfl (sl_arrQ2 encReq_len w2 (.cells #[.int .i64 (pickOf (clsOf ts) ((k : Int) + 1)).1, .int .i64 (pickOf (clsOf ts) ((k : Int) + 1)).2.1, .int .i64 (pickOf (clsOf ts) ((k : Int) + 1)).2.2.1, .int .i64 (pickOf (clsOf ts) ((k : Int) + 1)).2.2.2.1, .int .i64 (pickOf (clsOf ts) ((k : Int) + 1)).2.2.2.2] 32) #[.int .i64 (pickOf (clsOf ts) ((k : Int) + 1)).1, .int .i64 (pickOf (clsOf ts) ((k : Int) + 1)).2.1, .int .i64 (pickOf (clsOf ts) ((k : Int) + 1)).2.2.1, .int .i64 (pickOf (clsOf ts) ((k : Int) + 1)).2.2.2.1, .int .i64 (pickOf (clsOf ts) ((k : Int) + 1)).2.2.2.2] _ [(pickOf (clsOf ts) ((k : Int) + 1))] rfl |>.mono (Nat.zero_le _) (Nat.le_refl _)) ?h2 ?h3 ?_)
      case h2 => have := hlen'.out; simp [maxLen]; omega
      case h3 => have := hB3.size; simp; simp at this; omega
      intro v3 w3 ho4 hg3 hb3
      rw [← hsucc.out] at ho4
      go_wp2
      go_roundw
      case rel => exact ⟨k + 1, by omega, by go_num, ho4, hB3.trans (((Below.refl _ _).alloc hB3.size _).trans hb3)⟩
      case measure => simp [intOf]; omega
    · obtain rfl : k = T := by omega
      have e1 : Hid ((reachB ((k : Int) + 1) (clsOf ts) && decide (1 ≤ (k : Int) + 1)) = false) := hide (by rw [reach_iff (by omega), hT'.out]; simp; try (intros; omega))
      obtain ⟨A2, c2, rfl, h21, h22, h23⟩ := ho.form
      go_wp2_with fail
      refine hpk.out.mono ?_
      rintro e w2 ⟨rfl, hb2⟩
      rw [e1.out]
      have hB2 := hbr.trans (hb2.mono hbr.size)
      have ho2 := (ho.below hb2 (Nat.le_refl _)).clip
      have hA := (Below.refl w2.heap.size w2).alloc (Nat.le_refl _) (.cells #[.int .i64 (pickOf (clsOf ts) ((k : Int) + 1)).1, .int .i64 (pickOf (clsOf ts) ((k : Int) + 1)).2.1, .int .i64 (pickOf (clsOf ts) ((k : Int) + 1)).2.2.1, .int .i64 (pickOf (clsOf ts) ((k : Int) + 1)).2.2.2.1, .int .i64 (pickOf (clsOf ts) ((k : Int) + 1)).2.2.2.2] 32)
      have hB3 := hB2.trans (hA.mono hB2.size)
      have ho3 := ho2.alloc (.cells #[.int .i64 (pickOf (clsOf ts) ((k : Int) + 1)).1, .int .i64 (pickOf (clsOf ts) ((k : Int) + 1)).2.1, .int .i64 (pickOf (clsOf ts) ((k : Int) + 1)).2.2.1, .int .i64 (pickOf (clsOf ts) ((k : Int) + 1)).2.2.2.1, .int .i64 (pickOf (clsOf ts) ((k : Int) + 1)).2.2.2.2] 32)
      clear hpk hA
      have hcl := hide (fun W => clipReq_c A2 (picksT ts k).length c2 W h21 h22 (by
        rintro rfl
        rcases ho with ⟨h4, h5⟩ | ⟨g, cap, cur, he, _⟩
        · exact h5
        · injection he with he; cases he) (by
        intro a ha
        rcases h23 with h3 | ⟨g, h3, _⟩
        · rw [h3] at ha; cases ha
        · rw [h3] at ha; injection ha with ha; exact ⟨g, ha.symm⟩))
      clear h23 ho ho2
      go_wp2_with fail
      refine (hcl.out _).mono ?_
      rintro e w4 ⟨rfl, rfl⟩
      go_wp2
      go_ret
      exact ⟨_, rfl, by rw [hfin.out]; exact ho3, hB3⟩
theorem PickAll_c (A : Option Addr) (n c lo hi : Nat) (ts : List VoteT) (w : World) (hs : RdN 2 voteR w lo hi A n c ts) (hhi : hi ≤ w.heap.size) :
    Calls Try.prog 18 #[.slice A n c] w fun e w' => ∃ v, e = .returned v ∧ Own encReq 5 32 w' w.heap.size v (if okVs ts then picksL ts else []) ∧ Below w.heap.size w w' := by
  by_cases h : okVs ts
  · have htop := topOf_okVs h
    have e1 : decide (okVs ts) = true := decide_eq_true h
    rw [if_pos h]
    go_enter Try.func18, Try.ntmps18
    go_wp2_with fail
    refine (votesOk_c A n c lo hi ts w hs hhi).mono ?_
    rintro e w1 ⟨rfl, hb1⟩
    rw [e1]
    go_wp2_with fail
    refine (pickAll_c A n c lo hi ts w1 (hs.below vote_kept hb1 hhi) (Nat.le_trans hhi hb1.size) (by omega)).mono ?_
    rintro e w2 ⟨v, rfl, ho, hb2⟩
    go_wp2
    go_ret
    exact ⟨_, rfl, ho.mono hb1.size, hb1.trans (hb2.mono hb1.size)⟩
  · have e1 : decide (okVs ts) = false := decide_eq_false h
    rw [if_neg h]
    go_enter Try.func18, Try.ntmps18
    go_wp2_with fail
    refine (votesOk_c A n c lo hi ts w hs hhi).mono ?_
    rintro e w1 ⟨rfl, hb1⟩
    rw [e1]
    go_wp2
    go_ret
    exact ⟨_, rfl, Own.nil_ _ _ _ _ _, hb1⟩
end Go.Proofs.Ytphlnihmfgmecaa
