/-
  Numbers as text, in both packages; texts of asks, claims and letters, as lists of bytes. (Printed by gen_ma.py.)
-/
import Derived.Test.YtocifmnkohgfjaaDoorPJ
import Derived.Test.YtocifmnkohgfjaaDoorRegA
import Derived.Test.YtocifmnkohgfjaaDoorRegG
import Derived.Test.YtocifmnkohgfjaaDoorRegI
import Derived.Test.YtocifmnkohgfjaaDoorNP
import Derived.Laws.BytesArg
import Derived.Lib.ItoaLen
import Derived.Lib.LaidTab
namespace Go.Proofs.YtocifmnkohgfjaaDoor
open Go.RowKit Rg Go.Lib
set_option linter.unusedVariables false
set_option linter.unusedSimpArgs false

theorem ba_ext {a b : ByteArray} (h : a.data = b.data) : a = b := by cases a; cases b; simp at h; rw [h]
theorem run_byte (w : World) (x : Int) : (convert 73 9 (.slice (some ⟨w.heap.size, 0, none⟩) 1 1)).run Tryd.prog (w.alloc (.cells #[.int .u8 x] 5)) = .ok (.string (strOfNums [x])) (w.alloc (.cells #[.int .u8 x] 5)) := by
  refine run_convert_bytes_arg (P := Tryd.prog) _ 73 5 Tryd.underlying73 Tryd.underlying5 w.heap.size 0 1 1 [x] rfl (fun i hi => ?_) 9 Tryd.underlying9
  have h0 : i = 0 := by omega
  subst h0
  simp

def asS (l : List UInt8) : ByteArray := ⟨l.toArray⟩
theorem asS_app (a b : List UInt8) : asS a ++ asS b = asS (a ++ b) := ba_ext (by simp [asS])
theorem asS_list (l : List UInt8) : (asS l).data.toList = l := by simp [asS]
theorem asS_size (l : List UInt8) : (asS l).size = l.length := by simp [asS, ByteArray.size]
theorem asS_of (s : ByteArray) : asS s.data.toList = s := ba_ext (by simp [asS])
theorem digit_text : ∀ d : Nat, d < 10 → strOfNums [48 + (d : Int)] = asS [UInt8.ofNat (48 + d)] := by decide
theorem run_byteAt (w : World) (b : Nat) (x : Int) (h : w.heap[b]? = some (.cells #[.int .u8 x] 5 (0, 0))) : (convert 73 9 (.slice (some ⟨b, 0, none⟩) 1 1)).run Tryd.prog w = .ok (.string (strOfNums [x])) w := by
  refine run_convert_bytes_arg (P := Tryd.prog) _ 73 5 Tryd.underlying73 Tryd.underlying5 b 0 1 1 [x] rfl (fun i hi => ?_) 9 Tryd.underlying9
  have h0 : i = 0 := by omega
  subst h0
  simp [World.cell?, h]
theorem dec_len (u : Nat) (h : u ≤ 9223372036854775807) : (decDigits u).length ≤ 21 := by
  have := itoa_length_le (u : Int) (by omega) (by omega)
  rwa [itoa_nonneg] at this

set_option maxRecDepth 100000 in
set_option maxHeartbeats 1000000 in
theorem l1DecN_c (u : Nat) : ∀ (hu : u ≤ 9223372036854775807) (w : World),
    Calls Tryd.prog 30 #[.int .i64 (u : Int)] w fun e w' => e = .returned (.string (asS (decDigits u))) ∧ Below w.heap.size w w' := by
  induction u using Nat.strongRecOn with
  | _ u ih =>
    intro hu w
    have d1 : decide ((u : Int) < -9223372036854775807) = false := by simp only [decide_eq_false_iff_not]; omega
    have d2 : decide ((u : Int) < 0) = false := by simp only [decide_eq_false_iff_not]; omega
    by_cases h10 : u < 10
    · have d3 : decide ((u : Int) < 10) = true := by simp; omega
      have hcv := run_byte w (48 + (u : Int))
      have hd : Hid (strOfNums [48 + (u : Int)] = asS (decDigits u)) := hide (by rw [decDigits, dif_pos h10]; exact digit_text u h10)
      go_enter Tryd.func30, Tryd.ntmps30
      go_wp2
      go_ret
      exact ⟨congrArg (fun v => Ending.returned (.string v)) hd.out, (Below.refl _ _).alloc (Nat.le_refl _) _⟩
    · have d3 : decide ((u : Int) < 10) = false := by simp; omega
      have hih : Hid (∀ W : World, Calls Tryd.prog 30 #[.int .i64 ((u : Int) / 10)] W fun e w' => e = .returned (.string (asS (decDigits (u / 10)))) ∧ Below W.heap.size W w') := hide (fun W => by
        have := ih (u / 10) (by omega) (by omega) W
        rwa [show (((u / 10 : Nat) : Int)) = (u : Int) / 10 by omega] at this)
      clear ih
      have hd : Hid (asS (decDigits (u / 10)) ++ strOfNums [48 + (u : Int) % 10] = asS (decDigits u)) := hide (by rw [show (u : Int) % 10 = ((u % 10 : Nat) : Int) by omega, decDigits.eq_1 u, dif_neg h10, digit_text (u % 10) (by omega), asS_app])
      have hsz : ¬ 9223372036854775807 < (asS (decDigits (u / 10))).size + (strOfNums [48 + (u : Int) % 10]).size := by
        have := dec_len (u / 10) (by omega)
        rw [asS_size, strOfNums_size]; simp; omega
      have hA : Below w.heap.size w (w.alloc (.cells #[.int .u8 (48 + (u : Int) % 10)] 5)) := (Below.refl _ _).alloc (Nat.le_refl _) _
      have hblk := heap_alloc_new w (.cells #[.int .u8 (48 + (u : Int) % 10)] 5)
      have hblk' := hide hblk
      have hcvA := run_byteAt (w.alloc (.cells #[.int .u8 (48 + (u : Int) % 10)] 5)).drew w.heap.size _ hblk
      clear hblk
      go_enter Tryd.func30, Tryd.ntmps30
      go_wp2
      refine wp_region_O (fun _ => True) [] [24, 26] [19, 22, 23] (Ord.seg [0, 1, 3, 4, 5] (Ord.both 2 6 (Ord.seg [6, 7, 8, 9, 10] Ord.done) (Ord.seg [] (Ord.both 2 7 (Ord.seg [7, 8, 9, 10] Ord.done) (Ord.seg [] (Ord.both 2 8 (Ord.seg [8, 9, 10] Ord.done) (Ord.seg [2, 9, 10] Ord.done))))))) (by kernel_rfl) (by kernel_rfl) (by kernel_rfl) trivial ?_
      go_wp2_with (first
        | (go_at_call 30; refine (hih.out _).mono ?_; rintro e w1 ⟨rfl, hb1⟩; have hcv1 := run_byte w1 (48 + (u : Int) % 10); (try have hcvB := run_byteAt w1 w.heap.size (48 + (u : Int) % 10) ((hb1.block _ (by simp)).trans hblk'.out)))
        | ((with_reducible refine wpO_seg ?_); simp only [pickL, List.toList_toArray, List.getElem?_cons_succ, List.getElem?_cons_zero]) | ((with_reducible refine wpO_both ?_ ?_) <;> simp only [pickL, List.toList_toArray, List.getElem?_cons_succ, List.getElem?_cons_zero]) | ((with_reducible refine wpO_done ?_); try dsimp only) | ((with_reducible refine wpT_q0 ?_ ?_ ?_ ?_); (focus rfl); (focus rfl); (focus rfl); intro K hK) | ((with_reducible refine wpT_b ?_ ?_); (focus (exact ⟨_, _, _, _, _, _, _, _, _, rfl, rfl, rfl, rfl, rfl, rfl⟩)); intro K hK) | ((with_reducible refine wpT_x0 ?_ ?_ ?_); (focus rfl); (focus rfl); intro K hK) | ((with_reducible refine wpT_noL ?_ ?_); (focus (first | exact wanted_no _ _ _ rfl rfl rfl | exact wanted_un _ _ _ rfl rfl rfl)); simp only [setO, List.set_cons_succ, List.set_cons_zero]) | ((with_reducible refine wpT_q1 ?_ ?_ ?_ ?_); (focus exact wanted_yes _ _ _ rfl rfl rfl); (focus rfl); (focus rfl); intro K hK) | ((with_reducible refine wpT_x1 ?_ ?_ ?_); (focus exact wanted_yes _ _ _ rfl rfl rfl); (focus rfl); intro K hK) | ((with_reducible refine wpT_nil ?_); try dsimp only)
        | fail)
      all_goals go_ret
      all_goals refine ⟨congrArg (fun v => Ending.returned (.string v)) hd.out, ?_⟩
      all_goals first
        | exact Below.alloc (Below.trans (Below.drew (Below.refl w.heap.size w)) hb1) hb1.size _
        | exact hA.drew.trans (hb1.mono (by simp))
theorem itoa_min : itoa (-9223372036854775808) = [45, 57, 50, 50, 51, 51, 55, 50, 48, 51, 54, 56, 53, 52, 55, 55, 53, 56, 48, 56] := by
  unfold itoa
  rw [if_pos (by decide)]
  repeat (rw [decDigits]; simp)
set_option maxRecDepth 100000 in
set_option maxHeartbeats 1000000 in
theorem l1Dec_c (n : Int) (h0 : -9223372036854775808 ≤ n) (h1 : n ≤ 9223372036854775807) (w : World) :
    Calls Tryd.prog 30 #[.int .i64 n] w fun e w' => e = .returned (.string (asS (itoa n))) ∧ Below w.heap.size w w' := by
  by_cases hneg : n < 0
  · by_cases hmin : n < -9223372036854775807
    · obtain rfl : n = -9223372036854775808 := by omega
      go_enter Tryd.func30, Tryd.ntmps30
      go_wp2
      go_ret
      exact ⟨by rw [itoa_min]; rfl, Below.refl _ _⟩
    · obtain ⟨u, rfl⟩ : ∃ u : Nat, n = -(u : Int) := ⟨n.natAbs, by omega⟩
      have hu : 1 ≤ u := by omega
      have d1 : decide (-(u : Int) < -9223372036854775807) = false := by simp only [decide_eq_false_iff_not]; omega
      have d2 : decide (-(u : Int) < 0) = true := by simp only [decide_eq_true_eq]; omega
      have hd : Hid (asS [45] ++ asS (decDigits u) = asS (itoa (-(u : Int)))) := hide (by rw [itoa_neg u hu, asS_app]; rfl)
      have hsz : ¬ 9223372036854775807 < 1 + (asS (decDigits u)).size := by
        have := dec_len u (by omega)
        rw [asS_size]; omega
      go_enter Tryd.func30, Tryd.ntmps30
      go_wp2_with fail
      refine (l1DecN_c u (by omega) w).mono ?_
      rintro e w1 ⟨rfl, hb1⟩
      go_wp2
      go_ret
      exact ⟨congrArg (fun v => Ending.returned (.string v)) hd.out, hb1⟩
  · obtain ⟨u, rfl⟩ : ∃ u : Nat, n = (u : Int) := ⟨n.toNat, by omega⟩
    rw [itoa_nonneg]
    exact l1DecN_c u (by omega) w
/-- The library's table lies as its text lays it. -/
def Tab (w : World) : Prop := TabIs Tryd.prog w "internal/strconv.uint64pow10" .u64 pow10Tab
theorem Tab.below {w w' : World} (h : Tab w) (hb : Below w.heap.size w w') : Tab w' := by
  unfold Tab TabIs World.var? at *
  cases hg : Tryd.prog.globalNamed "internal/strconv.uint64pow10" with
  | none => simp [hg] at h
  | some g =>
    simp only [hg, Option.bind_some] at h ⊢
    have hlt : g < w.heap.size := by
      rcases Nat.lt_or_ge g w.heap.size with h' | h'
      · exact h'
      · rw [Array.getElem?_eq_none h'] at h; simp at h
    rw [hb.block g hlt]
    exact h
theorem below_grow {w : World} (k : Nat) (os : Array Obj) : Below w.heap.size w (Go.Sort.grow (w.drewN k) os) :=
  ⟨rfl, rfl, rfl, by simp, fun j hj => Go.Sort.heap_grow_old (w.drewN k) os hj⟩
theorem Itoa_c (n : Int) (h0 : -9223372036854775808 ≤ n) (h1 : n ≤ 9223372036854775807) (w : World) (ht : Tab w) :
    Calls Tryd.prog 45 #[.int .i64 n] w fun e w' => e = .returned (.string (asS (itoa n))) ∧ Below w.heap.size w w' := by
  refine (strconv_Itoa n h0 h1 w ht).mono ?_
  rintro e w' ⟨rfl, k, os, rfl⟩
  exact ⟨rfl, below_grow k os⟩
theorem ItoaS_c (i : Nat) (hi : i < 100) (w : World) :
    Calls Tryd.prog 45 #[.int .i64 (i : Int)] w fun e w' => e = .returned (.string (asS (itoa (i : Int)))) ∧ w' = w := by
  rw [itoa_nonneg]
  exact strconv_Itoa_small i hi w

theorem lenI (i : Int) (h0 : -9223372036854775808 ≤ i) (h1 : i ≤ 9223372036854775807) : (asS (itoa i)).size ≤ 21 := by rw [asS_size]; exact itoa_length_le i h0 h1

/-! ### Texts -/
def opW (k : Int) : List UInt8 := ([[], [106, 111, 105, 110], [109, 111, 118, 101], [116, 97, 107, 101], [104, 105, 116], [103, 105, 118, 101]] : List (List UInt8)).getD k.toNat []
def kindW (k : Int) : List UInt8 := ([[], [97, 115, 107], [111, 102, 102, 101, 114], [121, 101, 115], [115, 117, 114, 101], [116, 117, 114, 110], [108, 101, 97, 100]] : List (List UInt8)).getD k.toNat []
def rowB (wd : List UInt8) (xs : List Int) : List UInt8 := wd ++ xs.flatMap fun x => 32 :: itoa x
def putOk (r : ReqV) : List UInt8 := itoa r.1 ++ 32 :: (itoa r.2.1 ++ 32 :: (opW r.2.2.1 ++ 32 :: (itoa r.2.2.2.1 ++ 32 :: itoa r.2.2.2.2)))
def putR (r : ReqV) : List UInt8 := if noneR r then [110, 111, 110, 101] else if okR r then putOk r else []
def putC (c : ClaimT) : List UInt8 := [99, 108, 97, 105, 109] ++ 32 :: (itoa c.1 ++ 32 :: (itoa c.2.1 ++ 32 :: (putR c.2.2 ++ [10])))
def putCs (cs : List ClaimT) : List UInt8 := cs.flatMap putC
def putV (v : VoteT) : List UInt8 := [118, 111, 116, 101] ++ 32 :: (itoa v.1 ++ 10 :: putCs v.2)
def putVs (vs : List VoteT) : List UInt8 := vs.flatMap putV
def putM (m : MsgT) : List UInt8 := kindW m.1 ++ 32 :: (itoa m.2.1 ++ 32 :: (itoa m.2.2.1 ++ 32 :: (itoa m.2.2.2.1 ++ 32 :: (putR m.2.2.2.2.1 ++ 10 :: (putCs m.2.2.2.2.2.1 ++ putVs m.2.2.2.2.2.2)))))
theorem itoa_small {n : Int} (h0 : -1 ≤ n) (h1 : n ≤ 30) : (itoa n).length ≤ 21 := itoa_length_le n (by omega) (by omega)
theorem opW_len (k : Int) : (opW k).length ≤ 5 := by
  unfold opW
  rw [List.getD]
  rcases h : ([[], [106, 111, 105, 110], [109, 111, 118, 101], [116, 97, 107, 101], [104, 105, 116], [103, 105, 118, 101]] : List (List UInt8))[k.toNat]? with _ | x
  · simp
  · have := List.mem_of_getElem? h
    simp only [List.mem_cons, List.not_mem_nil, or_false] at this
    rcases this with rfl | rfl | rfl | rfl | rfl | rfl <;> simp
theorem kindW_len (k : Int) : (kindW k).length ≤ 5 := by
  unfold kindW
  rw [List.getD]
  rcases h : ([[], [97, 115, 107], [111, 102, 102, 101, 114], [121, 101, 115], [115, 117, 114, 101], [116, 117, 114, 110], [108, 101, 97, 100]] : List (List UInt8))[k.toNat]? with _ | x
  · simp
  · have := List.mem_of_getElem? h
    simp only [List.mem_cons, List.not_mem_nil, or_false] at this
    rcases this with rfl | rfl | rfl | rfl | rfl | rfl | rfl <;> simp
/-- The figures of an ask that is ok are small. -/
theorem okR_rng {r : ReqV} (h : okR r = true) : (1 ≤ r.1 ∧ r.1 ≤ 4) ∧ (1 ≤ r.2.1 ∧ r.2.1 ≤ 30) ∧ (1 ≤ r.2.2.1 ∧ r.2.2.1 ≤ 5) ∧ (-1 ≤ r.2.2.2.1 ∧ r.2.2.2.1 ≤ 4) ∧ (-1 ≤ r.2.2.2.2 ∧ r.2.2.2.2 ≤ 9) := by
  obtain ⟨a, b, c, x, y⟩ := r
  rw [okR_eq] at h
  simp only [inB, Bool.and_eq_true, decide_eq_true_eq] at h
  obtain ⟨h1, h2, h3⟩ := h
  refine ⟨h1, h2, ?_⟩
  split at h3
  · simp only [Bool.and_eq_true, beq_iff_eq] at h3
    simp only
    omega
  · split at h3
    · simp only [Bool.and_eq_true, decide_eq_true_eq] at h3
      simp only
      omega
    · split at h3
      · simp only [Bool.and_eq_true, decide_eq_true_eq, beq_iff_eq] at h3
        simp only
        omega
      · split at h3
        · simp only [Bool.and_eq_true, decide_eq_true_eq] at h3
          simp only
          omega
        · cases h3
theorem putOk_len {r : ReqV} (h : okR r = true) : (putOk r).length ≤ 100 := by
  obtain ⟨h1, h2, h3, h4, h5⟩ := okR_rng h
  have i1 := itoa_small (n := r.1) (by omega) (by omega)
  have i2 := itoa_small (n := r.2.1) (by omega) (by omega)
  have i4 := itoa_small (n := r.2.2.2.1) (by omega) (by omega)
  have i5 := itoa_small (n := r.2.2.2.2) (by omega) (by omega)
  have i3 := opW_len r.2.2.1
  unfold putOk
  simp only [List.length_append, List.length_cons]
  omega
theorem putR_len (r : ReqV) : (putR r).length ≤ 100 := by
  unfold putR
  split
  · simp
  · split
    · rename_i h; exact putOk_len h
    · simp
theorem okCl_rng {c : ClaimT} (h : okCl c = true) : (1 ≤ c.1 ∧ c.1 ≤ 5) ∧ (0 ≤ c.2.1 ∧ c.2.1 ≤ 6) := by
  unfold okCl inB at h
  simp only [Bool.and_eq_true, decide_eq_true_eq] at h
  exact ⟨h.1, h.2.1⟩
theorem putC_len {c : ClaimT} (h : okCl c = true) : (putC c).length ≤ 160 := by
  obtain ⟨h1, h2⟩ := okCl_rng h
  have i1 := itoa_small (n := c.1) (by omega) (by omega)
  have i2 := itoa_small (n := c.2.1) (by omega) (by omega)
  have i3 := putR_len c.2.2
  unfold putC
  simp only [List.length_append, List.length_cons, List.length_nil]
  omega
theorem putCs_len : ∀ {cs : List ClaimT}, (∀ c ∈ cs, okCl c = true) → (putCs cs).length ≤ 160 * cs.length
  | [], _ => by simp [putCs]
  | c :: cs, h => by
    have h1 := putC_len (h c (by simp))
    have h2 := putCs_len (cs := cs) (fun x hx => h x (by simp [hx]))
    unfold putCs at *
    simp only [List.flatMap_cons, List.length_append, List.length_cons]
    omega
theorem putCs_take (cs : List ClaimT) (k : Nat) (hk : k < cs.length) : putCs (cs.take (k + 1)) = putCs (cs.take k) ++ putC cs[k] := by
  unfold putCs
  rw [List.take_succ_eq_append_getElem hk, List.flatMap_append]
  simp
theorem putVs_take (vs : List VoteT) (k : Nat) (hk : k < vs.length) : putVs (vs.take (k + 1)) = putVs (vs.take k) ++ putV vs[k] := by
  unfold putVs
  rw [List.take_succ_eq_append_getElem hk, List.flatMap_append]
  simp
theorem okCls_mem {cs : List ClaimT} (h : okCls cs) : ∀ c ∈ cs, okCl c = true := by
  intro c hc
  obtain ⟨i, hi, rfl⟩ := List.getElem_of_mem hc
  obtain ⟨_, h1, _⟩ := h i hi
  exact h1
theorem okVs_mem {vs : List VoteT} (h : okVs vs) : ∀ v ∈ vs, (0 ≤ v.1 ∧ v.1 ≤ 3) ∧ ∀ c ∈ v.2, okCl c = true := by
  intro v hv
  obtain ⟨i, hi, rfl⟩ := List.getElem_of_mem hv
  obtain ⟨_, h1, h2, _⟩ := h i hi
  unfold inB at h1
  simp only [decide_eq_true_eq] at h1
  exact ⟨h1, okCls_mem h2⟩
theorem putV_len {v : VoteT} (h : (0 ≤ v.1 ∧ v.1 ≤ 3) ∧ ∀ c ∈ v.2, okCl c = true) : (putV v).length ≤ 160 + 160 * v.2.length := by
  have i1 := itoa_small (n := v.1) (by omega) (by omega)
  have i2 := putCs_len h.2
  unfold putV
  simp only [List.length_append, List.length_cons, List.length_nil]
  omega
theorem putVs_len : ∀ {vs : List VoteT}, (∀ v ∈ vs, (0 ≤ v.1 ∧ v.1 ≤ 3) ∧ ∀ c ∈ v.2, okCl c = true) → (putVs vs).length ≤ 160 * szVotes vs
  | [], _ => by simp [putVs]
  | v :: vs, h => by
    have h1 := putV_len (h v (by simp))
    have h2 := putVs_len (vs := vs) (fun x hx => h x (by simp [hx]))
    unfold putVs szVotes szVote at *
    simp only [List.flatMap_cons, List.length_append, List.length_cons, List.map_cons, List.sum_cons]
    omega
/-- What a letter that is ok has in it. -/
structure MsgFit (m : MsgT) : Prop where
  kind : 1 ≤ m.1 ∧ m.1 ≤ 6
  from_ : 0 ≤ m.2.1 ∧ m.2.1 ≤ 3
  view : 0 ≤ m.2.2.1 ∧ m.2.2.1 ≤ 6
  seq : 0 ≤ m.2.2.2.1 ∧ m.2.2.2.1 ≤ 5
  cls : ∀ c ∈ m.2.2.2.2.2.1, okCl c = true
  vs : ∀ v ∈ m.2.2.2.2.2.2, (0 ≤ v.1 ∧ v.1 ≤ 3) ∧ ∀ c ∈ v.2, okCl c = true
theorem okMsg_fit {m : MsgT} (h : okMsg m = true) : MsgFit m := by
  obtain ⟨a, b, c, d, r, cs, vs⟩ := m
  have nil2 : ∀ {α β : Type} {xs : List α} {ys : List β}, xs.length + ys.length = 0 → xs = [] ∧ ys = [] := fun h => ⟨List.eq_nil_of_length_eq_zero (by omega), List.eq_nil_of_length_eq_zero (by omega)⟩
  unfold okMsg at h
  simp only at h
  split at h
  · simp only [Bool.and_eq_true, beq_iff_eq, decide_eq_true_eq] at h
    obtain ⟨h1, h2, h3, _, h5⟩ := h
    obtain ⟨rfl, rfl⟩ := nil2 h5
    exact ⟨by simp only; omega, by simp only; omega, by simp only; omega, by simp only; omega, by simp, by simp⟩
  · split at h
    · cases h
    · rename_i h0 hb
      simp only [inB, Bool.or_eq_true, Bool.not_eq_true', decide_eq_false_iff_not, not_or, Classical.not_not] at hb
      split at h
      · simp only [inB, Bool.and_eq_true, decide_eq_true_eq] at h
        obtain ⟨h1, _, h5⟩ := h
        obtain ⟨rfl, rfl⟩ := nil2 h5
        exact ⟨by simp only; omega, hb.1, hb.2, by simp only; omega, by simp, by simp⟩
      · split at h
        · simp only [inB, Bool.and_eq_true, decide_eq_true_eq] at h
          obtain ⟨h1, _, h5⟩ := h
          obtain ⟨rfl, rfl⟩ := nil2 h5
          exact ⟨by simp only; omega, hb.1, hb.2, by simp only; omega, by simp, by simp⟩
        · split at h
          · simp only [Bool.and_eq_true, beq_iff_eq, decide_eq_true_eq] at h
            obtain ⟨h1, _, h3, h5⟩ := h
            obtain rfl : vs = [] := List.eq_nil_of_length_eq_zero h5
            exact ⟨by simp only; omega, hb.1, hb.2, by simp only; omega, okCls_mem h3, by simp⟩
          · split at h
            · simp only [Bool.and_eq_true, beq_iff_eq, decide_eq_true_eq] at h
              obtain ⟨h1, _, h3, h5⟩ := h
              obtain rfl : cs = [] := List.eq_nil_of_length_eq_zero h3
              exact ⟨by simp only; omega, hb.1, hb.2, by simp only; omega, by simp, okVs_mem h5⟩
            · cases h
end Go.Proofs.YtocifmnkohgfjaaDoor
