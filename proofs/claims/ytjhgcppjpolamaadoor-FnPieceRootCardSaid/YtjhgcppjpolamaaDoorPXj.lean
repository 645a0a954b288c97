/-
  'PieceRoot' and 'PieceProof' in the program. (Printed by gen_pxj.py.)
  Conditions: the library's table of powers of ten ('Tab').
-/
import Derived.Test.YtjhgcppjpolamaaDoorPXi
namespace Go.Proofs.YtjhgcppjpolamaaDoor
open Go.RowKit Rg
set_option linter.unusedVariables false
set_option linter.unusedSimpArgs false

theorem lev_facts' : ∀ (n : Nat) (L : List Int), L.length = n → 1 ≤ n → ∀ M : List (List Int), M = lev L → M.length ≤ n ∧ 1 ≤ M.length ∧ (∀ (j : Nat) (h : j < M.length), 1 ≤ M[j].length ∧ M[j].length ≤ n) ∧
    (∀ (h : 0 < M.length), M[0] = L) ∧ (∀ (j : Nat) (h : j + 1 < M.length), ¬ M[j].length ≤ 1 ∧ M[j + 1] = up M[j]) ∧
    (∀ (j : Nat) (h : j < M.length), j + 1 = M.length → M[j].length ≤ 1 ∧ M[j].headD 0 = rootS L) := by
  intro n
  induction n using Nat.strongRecOn with
  | _ n ih =>
    intro L hn h1 M hM
    subst hn
    by_cases h : L.length ≤ 1
    · rw [lev_one h] at hM
      subst hM
      refine ⟨by simp; omega, by simp, fun j hj => ?_, fun _ => rfl, fun j hj => by simp at hj, fun j hj he => ?_⟩
      · have : j = 0 := by simp at hj; omega
        subst this
        exact ⟨h1, Nat.le_refl _⟩
      · have : j = 0 := by simp at hj; omega
        subst this
        exact ⟨h, (rootS_one h).symm⟩
    · have hs := up_short h
      have hu := up_length L
      obtain ⟨a, b, c, d, e, f⟩ := ih _ hs (up L) rfl (by omega) _ rfl
      rw [lev_up h] at hM
      subst hM
      refine ⟨by simp; omega, by simp, fun j hj => ?_, fun _ => rfl, fun j hj => ?_, fun j hj he => ?_⟩
      · cases j with
        | zero => exact ⟨h1, Nat.le_refl _⟩
        | succ j =>
          have := c j (by simpa using hj)
          simp only [List.getElem_cons_succ]
          exact ⟨this.1, by omega⟩
      · cases j with
        | zero =>
          simp only [List.getElem_cons_succ, List.getElem_cons_zero]
          exact ⟨h, d (by omega)⟩
        | succ j =>
          simp only [List.getElem_cons_succ]
          exact e j (by simpa using hj)
      · cases j with
        | zero => exfalso; have e9 : (L :: lev (up L)).length = (lev (up L)).length + 1 := rfl; omega
        | succ j =>
          simp only [List.getElem_cons_succ]
          have := f j (by simpa using hj) (by simpa using he)
          rw [rootS_up h]
          exact this
theorem lev_facts (n : Nat) (L : List Int) (hn : L.length = n) (h1 : 1 ≤ n) : (lev L).length ≤ n ∧ 1 ≤ (lev L).length ∧ (∀ (j : Nat) (h : j < (lev L).length), 1 ≤ (lev L)[j].length ∧ (lev L)[j].length ≤ n) ∧
    (∀ (h : 0 < (lev L).length), (lev L)[0] = L) ∧ (∀ (j : Nat) (h : j + 1 < (lev L).length), ¬ (lev L)[j].length ≤ 1 ∧ (lev L)[j + 1] = up (lev L)[j]) ∧
    (∀ (j : Nat) (h : j < (lev L).length), j + 1 = (lev L).length → (lev L)[j].length ≤ 1 ∧ (lev L)[j].headD 0 = rootS L) := lev_facts' n L hn h1 (lev L) rfl
theorem rowAt {w : World} {lo hi b off n c k : Nat} {ts : List (List Int)} (h : RdN 1 rowR w lo hi (some ⟨b, off, none⟩) n c ts) (hk : k < ts.length) :
    ∃ A1 n1 c1, w.cell? ⟨b, off + k, none⟩ = some (.slice A1 n1 c1) ∧ Hid (n1 = ts[k].length) ∧ n1 ≤ c1 ∧ Hid (c1 ≤ maxLen) ∧ Sl encI 1 w lo hi A1 ts[k] := by
  obtain ⟨cs, hlen, hat, A1, n1, c1, rfl, h1, h2, h3, h4⟩ := h.at_ hk
  refine ⟨A1, n1, c1, ?_, hide h1, h2, hide h3, h4⟩
  have := hat 0 (.slice A1 n1 c1) rfl
  simpa using this
theorem clipI_c (A : Option Addr) (n c : Nat) (w : World) (h0 : n ≤ c) (h1 : c ≤ maxLen) (hA : A = none → n = 0) (hA2 : ∀ a, A = some a → ∃ g, a = ⟨g, 0, none⟩) :
    Calls Tryd.prog 53 #[.slice A n c] w fun e w' => e = .returned (.slice A n n) ∧ w = w' := by
  unfold maxLen at h1
  cases A with
  | none =>
    obtain rfl := hA rfl
    go_enter Tryd.func53, Tryd.ntmps53
    go_wp2
    go_ret
    exact ⟨rfl, rfl⟩
  | some a =>
    obtain ⟨g, rfl⟩ := hA2 a rfl
    clear hA hA2
    go_enter Tryd.func53, Tryd.ntmps53
    go_wp2
    go_ret
    exact ⟨rfl, rfl⟩

set_option maxHeartbeats 1000000 in
theorem PieceRoot_c (A : Option Addr) (n c lo hi : Nat) (xs : List ByteArray) (w : World) (hn : n = xs.length) (hb : n + sumS xs ≤ 1048576) (hc : n ≤ c) (hs : Sl encS 1 w lo hi A xs) (hhi : hi ≤ w.heap.size) (ht : Tab w) :
    Calls Tryd.prog 19 #[.slice A n c] w fun e w' => e = .returned (.int .i64 (rootR xs)) ∧ Below w.heap.size w w' := by
  have hn' := hide hn
  clear hn
  go_enter Tryd.func19, Tryd.ntmps19
  go_wp2_with fail
  refine (formed_c A n c lo hi xs w hn'.out hb hc hs hhi).mono ?_
  rintro e w1 ⟨rfl, hB1⟩
  cases e1 : decide (okP xs)
  · have hno : Hid (rootR xs = -1) := hide (by simp at e1; simp [rootR, e1])
    go_wp2
    go_ret
    exact ⟨by rw [hno.out]; rfl, hB1⟩
  · have hok : Hid (okP xs) := hide (of_decide_eq_true e1)
    have hy : Hid (rootR xs = rootS (lvs xs)) := hide (by simp [rootR, hok.out])
    have h16 := okP_small hok.out
    have hlf := hide (lev_facts _ (lvs xs) rfl (by rw [lvs_len]; omega))
    clear h16
    go_wp2_with fail
    refine (levels_c A n c lo hi xs w1 hn'.out hok.out (hs.below hB1 hhi) (Nat.le_trans hhi hB1.size) (ht.below hB1)).mono ?_
    rintro e w2 ⟨v2, rfl, hg2, hb2⟩
    obtain ⟨A2, n2, c2, rfl, hn2⟩ := hg2.shape
    have hrd := hg2.rdn row_kept
    obtain ⟨k, rfl⟩ : ∃ k, n2 = k + 1 := ⟨n2 - 1, by have := hn2.out; have := hlf.out.2.1; omega⟩
    have hkl : k < (lev (lvs xs)).length := by have := hn2.out; omega
    obtain ⟨b, off, rfl, hlo, hbh⟩ := hrd.addr hkl
    obtain ⟨A1, n1, c1, x0, hn1, hc1, hcm, hsl⟩ := rowAt hrd hkl
    have hcap2 := hrd.cap
    have hmax2 := hrd.max
    unfold maxLen at hmax2 hcm
    have hcm' := hcm.out
    obtain ⟨hle1, hroot⟩ := hlf.out.2.2.2.2.2 k hkl (by have := hn2.out; omega)
    have hpos := (hlf.out.2.2.1 k hkl).1
    generalize (lev (lvs xs))[k] = LL at *
    have hlx : 0 < LL.length := by omega
    obtain ⟨b1, off1, rfl, _, _⟩ := hsl.addr hlx
    have a1 := hsl.i64 hlx
    simp only [Nat.add_zero] at a1
    have hf : Hid (rootR xs = LL[0]) := hide (by
      rw [hy.out, ← hroot]
      cases LL with
      | nil => simp at hlx
      | cons a L => rfl)
    have hn1p : 0 < n1 := by have := hn1.out; omega
    have hrd' := hide hrd
    have hbb := hB1.trans (hb2.mono hB1.size)
    clear hroot hpos hle1 hrd hg2 hsl
    go_wp2
    go_ret
    exact ⟨by rw [hf.out]; rfl, hbb⟩
set_option maxRecDepth 100000 in
set_option maxHeartbeats 2000000 in
theorem PieceProof_c (A : Option Addr) (n c lo hi : Nat) (xs : List ByteArray) (at_ : Int) (w : World) (hn : n = xs.length) (hb : n + sumS xs ≤ 1048576) (hc : n ≤ c) (hs : Sl encS 1 w lo hi A xs) (hhi : hi ≤ w.heap.size) (ht : Tab w) :
    Calls Tryd.prog 22 #[.slice A n c, .int .i64 at_] w fun e w' => ∃ v, e = .returned v ∧ Own encI 1 3 w' w.heap.size v (proofR xs at_) ∧ Below w.heap.size w w' := by
  have hn' := hide hn
  clear hn
  go_enter Tryd.func22, Tryd.ntmps22
  go_wp2_with fail
  refine (formed_c A n c lo hi xs w hn'.out hb hc hs hhi).mono ?_
  rintro e w1 ⟨rfl, hB1⟩
  cases e1 : decide (okP xs)
  · have hno : Hid (proofR xs at_ = []) := hide (by simp at e1; simp [proofR, e1])
    go_wp2
    go_ret
    exact ⟨_, rfl, by rw [hno.out]; exact Own.nil_ _ _ _ _ _, hB1⟩
  · have hok : Hid (okP xs) := hide (of_decide_eq_true e1)
    cases e2 : inB at_ 0 ((n : Int) - 1)
    · have hno : Hid (proofR xs at_ = []) := hide (by rw [hn'.out] at e2; simp [proofR, e2])
      go_wp2_with (go_at_call 39; refine (in_c _ _ _ _).mono ?_; rintro e _ ⟨rfl, rfl⟩)
      go_ret
      exact ⟨_, rfl, by rw [hno.out]; exact Own.nil_ _ _ _ _ _, hB1⟩
    · have hi2 : 0 ≤ at_ ∧ at_ ≤ (n : Int) - 1 := by simpa [inB] using e2
      obtain ⟨i, rfl⟩ : ∃ i : Nat, at_ = (i : Int) := ⟨at_.toNat, by omega⟩
      have hy : Hid (proofR xs (i : Int) = besides (lvs xs) i) := hide (by rw [hn'.out] at e2; simp [proofR, e2, hok.out])
      have h16 := okP_small hok.out
      have hlf := hide (lev_facts _ (lvs xs) rfl (by rw [lvs_len]; omega))
      have hl0 : Hid ((lvs xs).length = n ∧ n ≤ 16) := hide (by have := lvs_len xs; have := hn'.out; omega)
      have hin : i < n := by omega
      clear h16
      go_wp2_with (go_at_call 39; refine (in_c _ _ _ _).mono ?_; rintro e _ ⟨rfl, rfl⟩)
      refine (levels_c A n c lo hi xs w1 hn'.out hok.out (hs.below hB1 hhi) (Nat.le_trans hhi hB1.size) (ht.below hB1)).mono ?_
      rintro e w2 ⟨v2, rfl, hg2, hb2⟩
      obtain ⟨A2, n2, c2, rfl, hn2⟩ := hg2.shape
      have hrd := hg2.rdn row_kept
      obtain ⟨N, rfl⟩ : ∃ k, n2 = k + 1 := ⟨n2 - 1, by have := hn2.out; have := hlf.out.2.1; omega⟩
      have hN : N < (lev (lvs xs)).length := by have := hn2.out; omega
      have hN16 : N + 1 ≤ 16 := by have := hn2.out; have := hlf.out.1; have := hl0.out; omega
      obtain ⟨b, off, rfl, hlo, hbh⟩ := hrd.addr hN
      have hcap2 := hrd.cap
      have hmax2 := hrd.max
      unfold maxLen at hmax2
      have hB2 := hB1.trans (hb2.mono hB1.size)
      have hrd' := hide hrd
      have hN' := hide hN
      clear hrd hg2 hN
      go_wp2
      go_loopw [1, 5, 28] (fun iv ov jv wr => ∃ (j i' : Nat) (acc : List Int) (hj : j < (lev (lvs xs)).length), j ≤ N ∧ jv = .int .i64 (j : Int) ∧ iv = .int .i64 (i' : Int) ∧ Hid (i' < (lev (lvs xs))[j].length) ∧ i' ≤ 16 ∧ Own encI 1 3 wr w2.heap.size ov acc ∧ Hid (besides (lvs xs) i = acc ++ besides (lev (lvs xs))[j] i') ∧ Hid (acc.length ≤ j) ∧ Below w2.heap.size w2 wr) (fun _ _ jv _ => N - (intOf jv).toNat)
      case atStart => exact ⟨0, i, [], by have := hN'.out; omega, Nat.zero_le _, rfl, rfl, hide (by rw [hlf.out.2.2.2.1]; have := hl0.out; omega), by have := hl0.out; omega, Own.nil_ _ _ _ _ _, hide (by rw [hlf.out.2.2.2.1]; rfl), hide (by simp), Below.refl _ _⟩
      case round =>
        obtain ⟨j, i', acc, hj, hjN, rfl, rfl, hi', hi16, ho, hR, hal, hbr⟩ := hrel
        obtain ⟨Ao, no, co, rfl, hno⟩ := ho.shape
        by_cases hlt : j < N
        · have g1 : decide ((j : Int) < (N : Int)) = true := by simp only [decide_eq_true_eq]; omega
          obtain ⟨A1, n1, c1, x0, hn1, hc1, hcm, hsl⟩ := rowAt (hrd'.out.below row_kept hbr (Nat.le_refl _)) hj
          unfold maxLen at hcm
          have hcm' := hcm.out
          have hbnd := hide (hlf.out.2.2.1 j hj)
          have hjn : j + 1 < (lev (lvs xs)).length := by have := hN'.out; omega
          have hsucc := hide (hlf.out.2.2.2.2.1 j hjn)
          have hx := xor1 i' (by omega)
          have hul := hide (up_length (lev (lvs xs))[j])
          have hR2 := hR.out.trans (congrArg (acc ++ ·) (besides_up (i := i') hsucc.out.1))
          by_cases hoth : oth i' < n1
          · have g2 : decide ((oth i' : Int) < (n1 : Int)) = true := by simp only [decide_eq_true_eq]; omega
            have hlx : oth i' < (lev (lvs xs))[j].length := by have := hn1.out; omega
            obtain ⟨b1, off1, rfl, _, hbb1⟩ := hsl.addr hlx
            have a1 := hsl.i64 hlx
            have hsl1 := sl_oneI wr (lev (lvs xs))[j][oth i']
            have hR3 : Hid (besides (lvs xs) i = (acc ++ [(lev (lvs xs))[j][oth i']]) ++ besides (lev (lvs xs))[j + 1] (i' / 2)) := hide (by rw [hR2, hsucc.out.2]; simp [hlx])
            have hi2' : Hid (i' / 2 < (lev (lvs xs))[j + 1].length) := hide (by rw [hsucc.out.2, hul.out]; have := hi'.out; omega)
            clear hR2
            generalize (lev (lvs xs))[j][oth i'] = X at *
            go_wp2_with (at_builtin; refine wpList_appG encI_len (by omega) encI_one rfl _ _ 22 rfl 3 _ 8 Tryd.underlying22 infoI rfl w2.heap.size _ acc rfl (ho.alloc _) 0 _ _ [X] _ _ rfl rfl hsl1 ?h2 ?h3 ?_)
            case h2 => have := hal.out; simp only [List.length_singleton, maxLen]; omega
            case h3 => have := hbr.size; simp; omega
            intro v4 w4 ho4 hg4 hb4 hloc
            have hb4' : Below w2.heap.size w2 w4 := hbr.trans (((Below.refl wr.heap.size wr).alloc (Nat.le_refl _) _ |>.mono hbr.size).trans hb4)
            obtain ⟨A4, n4, c4, rfl, hn4⟩ := ho4.shape
            go_wp2
            go_roundw
            case rel => exact ⟨j + 1, i' / 2, acc ++ [X], hjn, by omega, by go_num, by go_num, hi2', by omega, ho4, hR3, hide (by have := hal.out; simp; omega), hb4'⟩
            case measure => simp [intOf]; omega
          · have g2 : decide ((oth i' : Int) < (n1 : Int)) = false := by simp only [decide_eq_false_iff_not]; omega
            have hR3 : Hid (besides (lvs xs) i = acc ++ besides (lev (lvs xs))[j + 1] (i' / 2)) := hide (by rw [hR2, hsucc.out.2, dif_neg (by have := hn1.out; omega)]; rfl)
            have hi2' : Hid (i' / 2 < (lev (lvs xs))[j + 1].length) := hide (by rw [hsucc.out.2, hul.out]; have := hi'.out; omega)
            clear hR2
            go_wp2
            go_roundw
            case rel => exact ⟨j + 1, i' / 2, acc, hjn, by omega, by go_num, by go_num, hi2', by omega, ho, hR3, hide (by have := hal.out; omega), hbr⟩
            case measure => simp [intOf]; omega
        · have g1 : decide ((j : Int) < (N : Int)) = false := by simp only [decide_eq_false_iff_not]; omega
          have hend := hlf.out.2.2.2.2.2 j hj (by have := hn2.out; omega)
          have hf : Hid (proofR xs (i : Int) = acc) := hide (by rw [hy.out, hR.out, besides_one hend.1, List.append_nil])
          have hcap := ho.cap
          have hcap2' := hcap.2
          obtain ⟨Af, cf, hff, _, _, hAf⟩ := ho.form
          injection hff with f1 f2 f3
          have hclip := clipI_c Ao no co wr hcap.1 hcap.2 (fun h => by
            rcases hAf with h2 | ⟨g, h2, _⟩
            · rcases ho with ⟨h3, h4⟩ | ⟨g, _, _, h3, _⟩
              · injection h3
              · injection h3 with h3 _; rw [h3] at h; cases h
            · rw [f1, h2] at h; cases h) (fun a h => by
            rcases hAf with h2 | ⟨g, h2, _⟩
            · rw [f1, h2] at h; cases h
            · rw [f1, h2] at h; injection h with h; exact ⟨g, h.symm⟩)
          have hclip' := hide hclip
          have hocl := hide (ho.clip)
          clear hclip hend f1 f2 f3 hAf hcap2'
          go_wp2_with fail
          refine hclip'.out.mono ?_
          rintro e w5 ⟨rfl, rfl⟩
          go_wp2
          go_ret
          exact ⟨_, rfl, by rw [hf.out]; exact hocl.out.mono hB2.size, hB2.trans (hbr.mono hB2.size)⟩
end Go.Proofs.YtjhgcppjpolamaaDoor
