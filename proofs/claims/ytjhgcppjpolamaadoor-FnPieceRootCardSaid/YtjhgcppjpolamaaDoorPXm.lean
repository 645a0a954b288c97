/-
  What the drawn laws on pieces draw. (Printed by gen_pxm.py.)
-/
import Derived.Test.YtjhgcppjpolamaaDoorPXj
import Derived.Test.YtjhgcppjpolamaaDoorPL
namespace Go.Proofs.YtjhgcppjpolamaaDoor
open Go.RowKit Rg
set_option linter.unusedVariables false
set_option linter.unusedSimpArgs false

theorem DrawPieceRoot_c (A : Option Addr) (n c : Nat) (bs : List Int) (w : World) (hn : n = bs.length) (hc : n ≤ c) (hcm : c ≤ maxLen) (hs : Sl encU 1 w 0 w.heap.size A bs) (hb : ∀ b ∈ bs, 0 ≤ b ∧ b < 256) :
    Calls Tryd.prog 21 #[.slice A n c] w fun e w' => ∃ (v : Value) (xs : List ByteArray), e = .returned v ∧ xs.length ≤ 300 ∧ sumS xs ≤ 1000 ∧ Own encS 1 9 w' w.heap.size v xs ∧ Below w.heap.size w w' := by
  have hn' := hide hn
  have hb' := hide hb
  clear hn hb
  go_enter Tryd.func21, Tryd.ntmps21
  go_wp2_with fail
  refine (l20Open_c A n c bs w hn'.out hc hcm hs hb'.out).mono ?_
  rintro e w1 ⟨rfl, hr1, hb1⟩
  have hl1 : w.heap.size < w1.heap.size := hr1.lt
  go_wp2_with fail
  refine (l20Pieces_c _ 0 w1 hr1 (by omega)).mono ?_
  rintro e w2 ⟨v, xs, rfl, hl, hsum, hv, hr2, h2⟩
  have hb2 := hb1.trans (h2.toBelow hb1.size (fun k hk => by injection hk with hk; omega))
  go_wp2
  go_ret
  exact ⟨v, xs, rfl, hl, hsum, hv.mono hb1.size, hb2⟩
/-- What 'DrawPieceProof' leaves. -/
def ProofPost (w : World) (e : Ending) (w' : World) : Prop := ∃ (v : Value) (xs : List ByteArray) (at_ : Int), e = .returned (.tuple #[v, .int .i64 at_]) ∧ xs.length ≤ 300 ∧ sumS xs ≤ 1000 ∧ Own encS 1 9 w' w.heap.size v xs ∧ Below w.heap.size w w'
set_option maxHeartbeats 1000000 in
theorem DrawPieceProof_c (A : Option Addr) (n c : Nat) (bs : List Int) (w : World) (hn : n = bs.length) (hc : n ≤ c) (hcm : c ≤ maxLen) (hs : Sl encU 1 w 0 w.heap.size A bs) (hb : ∀ b ∈ bs, 0 ≤ b ∧ b < 256) :
    Calls Tryd.prog 28 #[.slice A n c] w fun e w' => ProofPost w e w' := by
  have hn' := hide hn
  have hb' := hide hb
  clear hn hb
  go_enter Tryd.func28, Tryd.ntmps28
  go_wp2_with fail
  refine (l20Open_c A n c bs w hn'.out hc hcm hs hb'.out).mono ?_
  rintro e w1 ⟨rfl, hr1, hb1⟩
  have hl1 : w.heap.size < w1.heap.size := hr1.lt
  go_wp2_with fail
  refine (l20Pieces_c _ 0 w1 hr1 (by omega)).mono ?_
  rintro e w2 ⟨v, xs, rfl, hl, hsum, hv', hr2, h2⟩
  have hv := hv'.mono hb1.size
  have hb2 := hb1.trans (h2.toBelow hb1.size (fun k hk => by injection hk with hk; omega))
  have hne : ∀ b, v.ownBlock = some b → some w.heap.size ≠ some b := fun b hb e => by injection e with e; have := (hv'.lt b hb).1; omega
  obtain ⟨A2, n2, c2, rfl, hn2⟩ := hv.shape
  have hcap := hv.cap
  have hn3 : n2 ≤ 300 := by have := hn2.out; omega
  unfold maxLen at hcap
  clear hv' h2
  go_wp2_with fail
  refine (pick_c w.heap.size _ ((n2 : Int) + 1) w2 hr2 (by omega) (by omega)).mono ?_
  rintro e w3 ⟨k3, rfl, hk3, hr3, h3⟩
  have hv3 := hv.only h3 (Nat.le_refl _) hne
  have hb3 := hb2.trans (h3.toBelow hb2.size (fun k hk => by injection hk with hk; omega))
  have hk3' : (k3 : Int) ≤ 1000 := by have := hk3.1 (by omega); omega
  clear hk3 h3 hv
  go_wp2_with fail
  refine (pick_c w.heap.size _ 2 w3 hr3 (by omega) (by omega)).mono ?_
  rintro e w4 ⟨k4, rfl, hk4, hr4, h4⟩
  have hv4 := hv3.only h4 (Nat.le_refl _) hne
  have hb4 := hb3.trans (h4.toBelow hb3.size (fun k hk => by injection hk with hk; omega))
  have hk4' : (k4 : Int) ≤ 1 := by have := hk4.1 (by omega); omega
  clear hk4 h4 hv3
  go_wp2
  exact bodyPost_ret (v := .tuple #[.slice A2 n2 c2, .int .i64 ((k3 : Int) - (k4 : Int))]) (by simp [results, Tryd.results28, go_sem]) rfl ⟨_, xs, _, rfl, hl, hsum, hv4, hb4⟩
/-- What 'DrawPieceCheck' leaves. -/
def CheckPost (w : World) (e : Ending) (w' : World) : Prop := ∃ (root many at_ : Int) (s : ByteArray) (v : Value) (p : List Int), e = .returned (.tuple #[.int .i64 root, .int .i64 many, .int .i64 at_, .string s, v]) ∧ s.size ≤ 2000 ∧ p.length ≤ 20 ∧ (∀ x ∈ p, I64 x) ∧ Own encI 1 3 w' w.heap.size v p ∧ Below w.heap.size w w'
theorem pieces_small (s : ByteArray) (h : s.size ≤ 1000) (i : Nat) (hi : i < (pieces s).length) : (pieces s)[i].size ≤ 1000 := by
  have h1 := sum_pieces s
  have h2 := sumS_take (pieces s) i hi
  have h3 := sumS_le (pieces s) (i + 1)
  omega
theorem proofR_i64 (xs : List ByteArray) (i : Int) : ∀ x ∈ proofR xs i, I64 x := by
  intro x hx
  unfold proofR at hx
  split at hx
  · exact (besides_sum _ (lvs xs) i.toNat rfl (lvs_sum xs) x hx).i64
  · simp at hx
theorem wants_le : ∀ (n i : Nat), wants n i ≤ n := by
  intro n
  induction n using Nat.strongRecOn with
  | _ n ih =>
    intro i
    by_cases h : n ≤ 1
    · rw [wants_one h]; omega
    · have := ih ((n + 1) / 2) (by omega) (i / 2)
      rw [wants_up h]
      split <;> omega
theorem proofR_len (xs : List ByteArray) (i : Int) : (proofR xs i).length ≤ 16 := by
  unfold proofR
  split
  · rename_i h
    rw [besides_len _ (lvs xs) i.toNat rfl]
    have := wants_le (lvs xs).length i.toNat
    have := lvs_len xs
    have := (okP_small h.1).1
    omega
  · simp
set_option maxRecDepth 100000 in
set_option maxHeartbeats 2000000 in
theorem DrawPieceCheck_c (A : Option Addr) (n c : Nat) (bs : List Int) (w : World) (hn : n = bs.length) (hc : n ≤ c) (hcm : c ≤ maxLen) (hs : Sl encU 1 w 0 w.heap.size A bs) (hb : ∀ b ∈ bs, 0 ≤ b ∧ b < 256) :
    Calls Tryd.prog 15 #[.slice A n c] w fun e w' => CheckPost w e w' := by
  have hn' := hide hn
  have hb' := hide hb
  clear hn hb
  go_enter Tryd.func15, Tryd.ntmps15
  go_wp2_with fail
  refine (l20Open_c A n c bs w hn'.out hc hcm hs hb'.out).mono ?_
  rintro e w1 ⟨rfl, hr1, hb1⟩
  have hl1 : w.heap.size < w1.heap.size := hr1.lt
  go_wp2_with fail
  refine (l20Long_c w.heap.size 0 w1 hr1 (by omega)).mono ?_
  rintro e w2 ⟨s, rfl, hsz, hr2, h2⟩
  have hb2 := hb1.trans (h2.toBelow hb1.size (fun k hk => by injection hk with hk; omega))
  have hz2 := h2.size
  have hpl := hide (pieces_len2 s)
  have hps := hide (pieces_small s (by omega))
  have hsz' : s.size ≤ 1000 := by omega
  clear h2
  go_wp2_with fail
  refine (specPieceOf_c s w2 (by omega)).mono ?_
  rintro e w3 ⟨v3, rfl, hv3, hb3'⟩
  have hr3 := hr2.keep hb3'
  have hb3 := hb2.trans (hb3'.mono hb2.size)
  have hne : ∀ b, v3.ownBlock = some b → some w.heap.size ≠ some b := fun b hb e => by injection e with e; have := (hv3.lt b hb).1; omega
  have hz3 := hb3'.size
  clear hb3'
  generalize pieces s = xs at *
  obtain ⟨A3, n3, c3, rfl, hn3⟩ := hv3.shape
  have hcap3 := hv3.cap
  have hn3' : n3 ≤ 1001 := by have := hn3.out; have := hpl.out; omega
  unfold maxLen at hcap3
  by_cases h0 : n3 = 0
  · subst h0
    have hA4 := (Below.refl w3.heap.size w3).alloc (Nat.le_refl _) (.cells #[.int .i64 0, .int .i64 1, .int .i64 17] 3)
    have hs4 := sl_arr encI_len w3 #[.int .i64 0, .int .i64 1, .int .i64 17] 3 [0, 1, 17] rfl
    have hr4 := hr3.keep hA4
    have hb4 := hb3.trans (hA4.mono hb3.size)
    go_wp2_with fail
    refine (one_c w.heap.size _ _ _ _ 3 3 [0, 1, 17] _ hr4 (by omega) rfl (by omega) (by omega) hs4 hr3.lt (by simp)).mono ?_
    rintro e w5 ⟨x, hx, rfl, hr5, h5⟩
    have hb5 := hb4.trans (h5.toBelow hb4.size (fun k hk => by injection hk with hk; omega))
    go_wp2
    exact bodyPost_ret (v := .tuple #[.int .i64 0, .int .i64 x, .int .i64 0, .string ⟨#[120]⟩, .slice none 0 0]) (by simp [results, Tryd.results15, go_sem]) rfl ⟨_, _, _, _, _, [], rfl, by decide, by simp, by simp, Own.nil_ _ _ _ _ _, hb5⟩
  · have d0 : ((n3 : Int) == 0) = false := by simp only [beq_eq_false_iff_ne, ne_eq]; omega
    go_wp2_with fail
    refine (pick_c w.heap.size _ (n3 : Int) w3 hr3 (by omega) (by omega)).mono ?_
    rintro e w4 ⟨k, rfl, hk, hr4, h4⟩
    have hkn : k < n3 := by have := hk.1 (by omega); omega
    have hv4 := hv3.only h4 (Nat.le_refl _) hne
    have hb4 := hb3.trans (h4.toBelow hb3.size (fun k hk => by injection hk with hk; omega))
    have hz4 := h4.size
    have hs4 := (hv4.slAt encS_len).2.2
    have hlx : k < xs.length := by have := hn3.out; omega
    have hxk := hps.out k hlx
    have hpi := hide (proofR_i64 xs (k : Int))
    have hpn := hide (proofR_len xs (k : Int))
    clear hk h4 hv3
    go_wp2_with fail
    refine (specPieceProof_c A3 n3 c3 _ _ xs (k : Int) w4 hn3.out (by omega) hs4 (Nat.le_refl _)).mono ?_
    rintro e w5 ⟨v5, rfl, ho5, hb5'⟩
    have hb5 := hb4.trans (hb5'.mono hb4.size)
    have hr5 := hr4.keep hb5'
    have hv5 := hv4.below hb5' (Nat.le_refl _)
    have hne5 : ∀ b, v5.ownBlock = some b → some w.heap.size ≠ some b := fun b hb e => by injection e with e; have := (ho5.lt b hb).1; omega
    generalize proofR xs (k : Int) = pr at *
    obtain ⟨A5, n5, c5, rfl, hn5⟩ := ho5.shape
    have hcap5 := ho5.cap
    unfold maxLen at hcap5
    obtain ⟨b, rfl, hbl, hbh⟩ := hv5.addrAt hkn
    have a5 := (hv5.slAt encS_len).2.2.str hlx
    simp only [Nat.zero_add] at a5
    have hz5 := hb5'.size
    have hlp := hide (ho5.mono (lo' := w4.heap.size) (Nat.le_refl _))
    clear hv4 hr4
    go_wp2_with fail
    refine (pick_c w.heap.size _ 6 w5 hr5 (by omega) (by omega)).mono ?_
    rintro e w6 ⟨k6, rfl, hk6, hr6, h6⟩
    have hv6 := hv5.only h6 (Nat.le_refl _) hne
    have ho6 := ho5.only h6 (Nat.le_refl _) hne5
    have hb6 := hb5.trans (h6.toBelow hb5.size (fun k hk => by injection hk with hk; omega))
    have hs6 : Sl encS 1 w6 w2.heap.size w4.heap.size (some ⟨b, 0, none⟩) xs := (hs4.below hb5' (Nat.le_refl _)).keep (fun b h1 h2 => h6.block b (by omega) (fun e => by injection e; omega))
    have hz6 := h6.size
    have ho6g := hide (ho6.mono (lo' := w.heap.size) (by have := hb1.size; omega))
    clear hk6 h6 hv5 ho5 hb5' hs4 hlp
    have root : ∀ (W : World) (hW : Below w4.heap.size w6 W), Calls Tryd.prog 17 #[.slice (some ⟨b, 0, none⟩) n3 c3] W fun e w' => e = .returned (.int .i64 (rootR xs)) ∧ Below W.heap.size W w' := fun W hW =>
      specPieceRoot_c _ n3 c3 _ _ xs W hn3.out (by omega) (hs6.below hW (Nat.le_refl _)) (by have := hW.size; omega)
    have root' := hide root
    have hb6' := hide hb6
    clear root hb6
    rcases (show k6 = 0 ∨ k6 = 1 ∨ k6 = 2 ∨ k6 = 3 ∨ 4 ≤ k6 by omega) with h0 | h0 | h0 | h0 | h0
    · have e0 : ((k6 : Int) == 0) = true := by rw [h0]; decide
      have z1 : ¬ 9223372036854775807 < xs[k].size + 1 := by omega
      have hz7 : Hid ((xs[k] ++ (⟨#[120]⟩ : ByteArray)).size ≤ 2000) := hide (by rw [ByteArray.size_append]; show _ + 1 ≤ 2000; omega)
      clear h0
      go_wp2_with fail
      refine (root'.out w6 (Below.refl _ _)).mono ?_
      rintro e w7 ⟨rfl, hb7⟩
      go_wp2
      exact bodyPost_ret (v := .tuple #[.int .i64 (rootR xs), .int .i64 (n3 : Int), .int .i64 (k : Int), .string (xs[k] ++ ⟨#[120]⟩), .slice A5 n5 c5]) (by simp [results, Tryd.results15, go_sem]) rfl ⟨_, _, _, _, _, pr, rfl, hz7.out, by have := hpn.out; omega, hpi.out, ho6g.out.below hb7 (Nat.le_refl _), hb6'.out.trans (hb7.mono hb6'.out.size)⟩
    · have e0 : ((k6 : Int) == 0) = false := by rw [h0]; decide
      have e1 : ((k6 : Int) == 1) = true := by rw [h0]; decide
      have hsl7 := sl_oneI w6 5
      clear h0
      go_wp2_with (at_builtin; refine wpList_appG encI_len (by omega) encI_one rfl _ _ 22 rfl 3 _ 8 Tryd.underlying22 infoI rfl w4.heap.size _ pr rfl (ho6.alloc _) 0 _ _ [5] _ _ rfl rfl hsl7 ?h2 ?h3 ?_)
      case h2 => have := hpn.out; simp only [List.length_singleton, maxLen]; omega
      case h3 => simp; omega
      intro v8 w8 ho8 hg8 hb8 hloc8
      have hb68 : Below w4.heap.size w6 w8 := ((Below.refl w6.heap.size w6).alloc (Nat.le_refl _) _ |>.mono (by omega)).trans hb8
      obtain ⟨A8, n8, c8, rfl, hn8⟩ := ho8.shape
      have ho8g := hide (ho8.mono (lo' := w.heap.size) (by have := hb1.size; omega))
      go_wp2_with fail
      refine (root'.out w8 hb68).mono ?_
      rintro e w9 ⟨rfl, hb9⟩
      have hb8' := hide (hb6'.out.trans (hb68.mono (by have := hb1.size; omega)))
      have hi8 : Hid (∀ x ∈ pr ++ [5], I64 x) := hide (fun x hx => by
        rcases List.mem_append.1 hx with hx | hx
        · exact hpi.out x hx
        · simp at hx; subst hx; unfold I64; omega)
      go_wp2
      exact bodyPost_ret (v := .tuple #[.int .i64 (rootR xs), .int .i64 (n3 : Int), .int .i64 (k : Int), .string xs[k], .slice A8 n8 c8]) (by simp [results, Tryd.results15, go_sem]) rfl ⟨_, _, _, _, _, pr ++ [5], rfl, by omega, by have := hpn.out; simp; omega, hi8.out, ho8g.out.below hb9 (Nat.le_refl _), hb8'.out.trans (hb9.mono hb8'.out.size)⟩
    · have e0 : ((k6 : Int) == 0) = false := by rw [h0]; decide
      have e1 : ((k6 : Int) == 1) = false := by rw [h0]; decide
      have e2 : ((k6 : Int) == 2) = true := by rw [h0]; decide
      clear h0
      go_wp2_with fail
      refine (root'.out w6 (Below.refl _ _)).mono ?_
      rintro e w7 ⟨rfl, hb7⟩
      go_wp2
      exact bodyPost_ret (v := .tuple #[.int .i64 (rootR xs), .int .i64 ((n3 : Int) + 1), .int .i64 (k : Int), .string xs[k], .slice A5 n5 c5]) (by simp [results, Tryd.results15, go_sem]) rfl ⟨_, _, _, _, _, pr, rfl, by omega, by have := hpn.out; omega, hpi.out, ho6g.out.below hb7 (Nat.le_refl _), hb6'.out.trans (hb7.mono hb6'.out.size)⟩
    · have e0 : ((k6 : Int) == 0) = false := by rw [h0]; decide
      have e1 : ((k6 : Int) == 1) = false := by rw [h0]; decide
      have e2 : ((k6 : Int) == 2) = false := by rw [h0]; decide
      have e3 : ((k6 : Int) == 3) = true := by rw [h0]; decide
      clear h0
      go_wp2_with fail
      refine (root'.out w6 (Below.refl _ _)).mono ?_
      rintro e w7 ⟨rfl, hb7⟩
      have hr7 := hr6.keep hb7
      have hb7' := hb6'.out.trans (hb7.mono hb6'.out.size)
      have ho7 := ho6g.out.below hb7 (Nat.le_refl _)
      have hne7 := hide hne5
      go_wp2_with fail
      refine (pick_c w.heap.size _ (n3 : Int) w7 hr7 (by omega) (by omega)).mono ?_
      rintro e w8 ⟨k8, rfl, hk8, hr8, h8⟩
      have ho8 := ho7.only h8 (Nat.le_refl _) hne7.out
      have hb8 := hb7'.trans (h8.toBelow hb7'.size (fun k hk => by injection hk with hk; omega))
      go_wp2
      exact bodyPost_ret (v := .tuple #[.int .i64 (rootR xs), .int .i64 (n3 : Int), .int .i64 (k8 : Int), .string xs[k], .slice A5 n5 c5]) (by simp [results, Tryd.results15, go_sem]) rfl ⟨_, _, _, _, _, pr, rfl, by omega, by have := hpn.out; omega, hpi.out, ho8, hb8⟩
    · have e0 : ((k6 : Int) == 0) = false := by simp only [beq_eq_false_iff_ne, ne_eq]; omega
      have e1 : ((k6 : Int) == 1) = false := by simp only [beq_eq_false_iff_ne, ne_eq]; omega
      have e2 : ((k6 : Int) == 2) = false := by simp only [beq_eq_false_iff_ne, ne_eq]; omega
      have e3 : ((k6 : Int) == 3) = false := by simp only [beq_eq_false_iff_ne, ne_eq]; omega
      clear h0
      go_wp2_with fail
      refine (root'.out w6 (Below.refl _ _)).mono ?_
      rintro e w7 ⟨rfl, hb7⟩
      go_wp2
      exact bodyPost_ret (v := .tuple #[.int .i64 (rootR xs), .int .i64 (n3 : Int), .int .i64 (k : Int), .string xs[k], .slice A5 n5 c5]) (by simp [results, Tryd.results15, go_sem]) rfl ⟨_, _, _, _, _, pr, rfl, by omega, by have := hpn.out; omega, hpi.out, ho6g.out.below hb7 (Nat.le_refl _), hb6'.out.trans (hb7.mono hb6'.out.size)⟩
end Go.Proofs.YtjhgcppjpolamaaDoor
