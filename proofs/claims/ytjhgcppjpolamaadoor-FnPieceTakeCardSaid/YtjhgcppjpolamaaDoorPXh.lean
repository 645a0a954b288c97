/-
  'PieceRoot' and 'PieceProof' in the reference. (Printed by gen_pxh.py.)
-/
import Derived.Test.YtjhgcppjpolamaaDoorPXe
namespace Go.Proofs.YtjhgcppjpolamaaDoor
open Go.RowKit Rg
set_option linter.unusedVariables false
set_option linter.unusedSimpArgs false

def lenV : Value → Nat
  | .slice _ n _ => n
  | _ => 0
/-- What 'PieceRoot' answers. -/
def rootR (xs : List ByteArray) : Int := if okP xs then rootS (lvs xs) else -1
set_option maxHeartbeats 1000000 in
theorem specPieceRoot_c (A : Option Addr) (n c lo hi : Nat) (xs : List ByteArray) (w : World) (hn : n = xs.length) (hb : n ≤ 1048576) (hs : Sl encS 1 w lo hi A xs) (hhi : hi ≤ w.heap.size) :
    Calls Tryd.prog 17 #[.slice A n c] w fun e w' => e = .returned (.int .i64 (rootR xs)) ∧ Below w.heap.size w w' := by
  have hn' := hide hn
  clear hn
  go_enter Tryd.func17, Tryd.ntmps17
  go_wp2_with fail
  refine (l12Ok_c A n c lo hi xs w hn'.out hb hs hhi).mono ?_
  rintro e w1 ⟨rfl, rfl⟩
  cases e1 : decide (okP xs)
  · have hno : Hid (rootR xs = -1) := hide (by simp at e1; simp [rootR, e1])
    go_wp2
    go_ret
    exact ⟨by rw [hno.out]; rfl, Below.refl _ _⟩
  · have hok : Hid (okP xs) := hide (of_decide_eq_true e1)
    have hy : Hid (rootR xs = rootS (lvs xs)) := hide (by simp [rootR, hok.out])
    have hlen := hide (lvs_len xs)
    have h16 := hide (okP_small hok.out)
    go_wp2_with fail
    refine (l12Leaves_c A n c lo hi xs w hn'.out hok.out hs hhi).mono ?_
    rintro e w2 ⟨v2, rfl, ho2, hb2⟩
    obtain ⟨A2, n2, c2, rfl, hn2⟩ := ho2.shape
    have hs2 := (ho2.slAt encI_len).2.2
    go_wp2
    go_loopw [3] (fun sv wr => ∃ (L : List Int) (A' : Option Addr) (n' c' q : Nat), sv = .slice A' n' c' ∧ Hid (n' = L.length) ∧ 1 ≤ n' ∧ n' ≤ 16 ∧ Sl encI 1 wr q wr.heap.size A' L ∧ Hid (∀ a ∈ L, Sum a) ∧ Hid (rootS (lvs xs) = rootS L) ∧ Below w.heap.size w wr) (fun sv _ => lenV sv)
    case atStart => exact ⟨lvs xs, A2, n2, c2, _, rfl, hn2, by have := hn2.out; have := hlen.out; have := h16.out.2.1; omega, by have := hn2.out; have := hlen.out; have := h16.out.1; omega, hs2, hide (lvs_sum xs), hide rfl, hb2⟩
    case round =>
      obtain ⟨L, A', n', c', q, rfl, hn1, h1, hle, hsr, hS, hR, hbr⟩ := hrel
      by_cases hlt : 1 < n'
      · have g1 : decide (1 < (n' : Int)) = true := by simp only [decide_eq_true_eq]; omega
        have hR2 := hide (hR.out.trans (rootS_up (by have := hn1.out; omega)))
        have hul := hide (up_length L)
        go_wp2_with fail
        refine (l12Up_c A' n' c' q _ L wr hn1.out hle hsr (Nat.le_refl _) hS.out).mono ?_
        rintro e w3 ⟨v3, rfl, ho3, hb3⟩
        obtain ⟨A3, n3, c3, rfl, hn3⟩ := ho3.shape
        have hs3 := (ho3.slAt encI_len).2.2
        have hn3h : Hid (n3 = (n' + 1) / 2) := hide (by have := hn3.out; have := hul.out; have := hn1.out; omega)
        go_wp2
        go_roundw
        case rel => exact ⟨up L, A3, n3, c3, _, rfl, hn3, by have := hn3h.out; omega, by have := hn3h.out; omega, hs3, hide (up_sum hS.out), hR2, hbr.trans (hb3.mono hbr.size)⟩
        case measure => simp [lenV]; have := hn3h.out; omega
      · have g1 : decide (1 < (n' : Int)) = false := by simp only [decide_eq_false_iff_not]; omega
        have hlx : 0 < L.length := by have := hn1.out; omega
        obtain ⟨b, off, rfl, hlo, hbh⟩ := hsr.addr hlx
        have a1 := hsr.i64 hlx
        simp only [Nat.add_zero] at a1
        have hf : Hid (rootR xs = L[0]) := hide (by
          rw [hy.out, hR.out, rootS_one (by have := hn1.out; omega)]
          cases L with
          | nil => simp at hlx
          | cons a L => rfl)
        go_wp2
        go_ret
        exact ⟨by rw [hf.out]; rfl, hbr⟩

/-- What 'PieceProof' answers. -/
def proofR (xs : List ByteArray) (i : Int) : List Int := if okP xs ∧ inB i 0 ((xs.length : Int) - 1) = true then besides (lvs xs) i.toNat else []
set_option maxRecDepth 100000 in
set_option maxHeartbeats 2000000 in
theorem specPieceProof_c (A : Option Addr) (n c lo hi : Nat) (xs : List ByteArray) (at_ : Int) (w : World) (hn : n = xs.length) (hb : n ≤ 1048576) (hs : Sl encS 1 w lo hi A xs) (hhi : hi ≤ w.heap.size) :
    Calls Tryd.prog 24 #[.slice A n c, .int .i64 at_] w fun e w' => ∃ v, e = .returned v ∧ Own encI 1 3 w' w.heap.size v (proofR xs at_) ∧ Below w.heap.size w w' := by
  have hn' := hide hn
  clear hn
  have ho0 := own_empty encI 1 3 w
  have hb0 : Below w.heap.size w (w.alloc (.cells #[] 3)) := (Below.refl _ _).alloc (Nat.le_refl _) _
  have hs0 := hs.below hb0 hhi
  have hhi0 : hi ≤ (w.alloc (.cells #[] 3)).heap.size := by simp; omega
  have hz0 : Hid ((w.alloc (.cells #[] 3)).heap.size = w.heap.size + 1) := hide (by simp)
  go_enter Tryd.func24, Tryd.ntmps24
  go_wp2_with fail
  generalize w.alloc (.cells #[] 3) = w0 at *
  refine (l12Ok_c A n c lo hi xs w0 hn'.out hb hs0 hhi0).mono ?_
  rintro e w1 ⟨rfl, rfl⟩
  cases e1 : decide (okP xs)
  · have hno : Hid (proofR xs at_ = []) := hide (by simp at e1; simp [proofR, e1])
    go_wp2
    go_ret
    exact ⟨_, rfl, by rw [hno.out]; exact ho0, hb0⟩
  · have hok : Hid (okP xs) := hide (of_decide_eq_true e1)
    cases e2 : inB at_ 0 ((n : Int) - 1)
    · have hno : Hid (proofR xs at_ = []) := hide (by rw [hn'.out] at e2; simp [proofR, e2])
      go_wp2_with (go_at_call 37; refine (l1In_c _ _ _ _).mono ?_; rintro e _ ⟨rfl, rfl⟩)
      go_ret
      exact ⟨_, rfl, by rw [hno.out]; exact ho0, hb0⟩
    · have hi2 : 0 ≤ at_ ∧ at_ ≤ (n : Int) - 1 := by simpa [inB] using e2
      obtain ⟨i, rfl⟩ : ∃ i : Nat, at_ = (i : Int) := ⟨at_.toNat, by omega⟩
      have hy : Hid (proofR xs (i : Int) = besides (lvs xs) i) := hide (by rw [hn'.out] at e2; simp [proofR, e2, hok.out])
      have hlen := hide (lvs_len xs)
      have h16 := hide (okP_small hok.out)
      have hin : i < n := by omega
      have hn16 : n ≤ 16 := by have := h16.out.1; have := hn'.out; omega
      go_wp2_with (go_at_call 37; refine (l1In_c _ _ _ _).mono ?_; rintro e _ ⟨rfl, rfl⟩)
      refine (l12Leaves_c A n c lo hi xs w0 hn'.out hok.out hs0 hhi0).mono ?_
      rintro e w2 ⟨v2, rfl, ho2, hb2⟩
      obtain ⟨A2, n2, c2, rfl, hn2⟩ := ho2.shape
      have hs2 := (ho2.slAt encI_len).2.2
      have ho02 := ho0.below hb2 (Nat.le_refl _)
      have hB2 := hb0.trans (hb2.mono hb0.size)
      have hn2' : n2 = n := by have := hn2.out; have := hlen.out; have := hn'.out; omega
      have hn2h := hide hn2'
      have hz02 := hb2.size
      clear hn2'
      go_wp2
      go_loopw [1, 5, 6] (fun iv ov sv wr => ∃ (L acc : List Int) (i' : Nat) (A' : Option Addr) (n' c' q hq : Nat), iv = .int .i64 (i' : Int) ∧ sv = .slice A' n' c' ∧ Hid (n' = L.length) ∧ i' < n' ∧ n' ≤ 16 ∧ Sl encI 1 wr q hq A' L ∧ hq ≤ wr.heap.size ∧ Own encI 1 3 wr w.heap.size ov acc ∧ Hid (∀ k, ov.ownBlock = some k → k < q ∨ hq ≤ k) ∧ acc.length + n' ≤ 16 ∧ Hid (∀ a ∈ L, Sum a) ∧ Hid (besides (lvs xs) i = acc ++ besides L i') ∧ Below w.heap.size w wr) (fun _ _ sv _ => lenV sv)
      case atStart => exact ⟨lvs xs, [], i, A2, n2, c2, _, _, rfl, rfl, hn2, by have := hn2h.out; omega, by have := hn2h.out; omega, hs2, Nat.le_refl _, ho02, hide (fun k hk => by have := (ho0.lt k hk).2; omega), by have := hn2h.out; simp; omega, hide (lvs_sum xs), hide rfl, hB2⟩
      case round =>
        obtain ⟨L, acc, i', A', n', c', q, hq, rfl, rfl, hn1, hi', hle, hsr, hqr, ho, hne, hal, hS, hR, hbr⟩ := hrel
        obtain ⟨Ao, no, co, rfl, hno⟩ := ho.shape
        by_cases hlt : 1 < n'
        · have g1 : decide (1 < (n' : Int)) = true := by simp only [decide_eq_true_eq]; omega
          have hR2 := hR.out.trans (congrArg (acc ++ ·) (besides_up (i := i') (by have := hn1.out; omega)))
          have hul := hide (up_length L)
          have hx := xor1 i' (by omega)
          by_cases hoth : oth i' < n'
          · have g2 : decide ((oth i' : Int) < (n' : Int)) = true := by simp only [decide_eq_true_eq]; omega
            have hlx : oth i' < L.length := by have := hn1.out; omega
            obtain ⟨b, off, rfl, hlo, hbh⟩ := hsr.addr hlx
            have a1 := hsr.i64 hlx
            have hsl1 := sl_oneI wr L[oth i']
            have hR3 : Hid (besides (lvs xs) i = (acc ++ [L[oth i']]) ++ besides (up L) (i' / 2)) := hide (by rw [hR2]; simp [hlx])
            clear hR2
            go_wp2_with (at_builtin; refine wpList_appG encI_len (by omega) encI_one rfl _ _ 22 rfl 3 _ 8 Tryd.underlying22 infoI rfl w.heap.size _ acc rfl (ho.alloc _) 0 _ _ [L[oth i']] _ _ rfl rfl hsl1 ?h2 ?h3 ?_)
            case h2 => simp only [List.length_singleton, maxLen]; omega
            case h3 => have := hbr.size; simp; omega
            intro v4 w4 ho4 hg4 hb4 hloc
            have hb4' : Below w.heap.size wr w4 := ((Below.refl wr.heap.size wr).alloc (Nat.le_refl _) _ |>.mono hbr.size).trans hb4
            have hsr4 : Sl encI 1 w4 q hq (some ⟨b, off, none⟩) L := (hsr.below ((Below.refl wr.heap.size wr).alloc (Nat.le_refl _) (.cells #[.int .i64 L[oth i']] 3)) hqr).keep (fun k h1 h2 => hg4.block k (by simp; omega) (fun e => by have := hne.out k e.symm; omega))
            have hw4 : wr.heap.size + 1 ≤ w4.heap.size := by simpa using hg4.size
            obtain ⟨A4, n4, c4, rfl, hn4⟩ := ho4.shape
            go_wp2_with fail
            refine (l12Up_c _ n' c' q hq L w4 hn1.out hle hsr4 (by omega) hS.out).mono ?_
            rintro e w5 ⟨v5, rfl, ho5, hb5⟩
            obtain ⟨A5, n5, c5, rfl, hn5⟩ := ho5.shape
            have hs5 := (ho5.slAt encI_len).2.2
            have hn5h : Hid (n5 = (n' + 1) / 2) := hide (by have := hn5.out; have := hul.out; have := hn1.out; omega)
            have ho45 := ho4.below hb5 (Nat.le_refl _)
            have hlt4 := hide ho4.lt
            go_wp2
            go_roundw
            case rel => exact ⟨up L, acc ++ [L[oth i']], i' / 2, A5, n5, c5, _, _, by go_num, rfl, hn5, by have := hn5h.out; omega, by have := hn5h.out; omega, hs5, Nat.le_refl _, ho45, hide (fun k hk => .inl (hlt4.out k hk).2), by have := hn5h.out; simp; omega, hide (up_sum hS.out), hR3, (hbr.trans (hb4'.mono (Nat.le_refl _))).trans (hb5.mono (Nat.le_trans hbr.size hb4'.size))⟩
            case measure => simp [lenV]; have := hn5h.out; omega
          · have g2 : decide ((oth i' : Int) < (n' : Int)) = false := by simp only [decide_eq_false_iff_not]; omega
            have hR3 : Hid (besides (lvs xs) i = acc ++ besides (up L) (i' / 2)) := hide (by rw [hR2, dif_neg (by have := hn1.out; omega)]; rfl)
            clear hR2
            have heven : i' / 2 < (n' + 1) / 2 := by omega
            go_wp2_with fail
            refine (l12Up_c A' n' c' q hq L wr hn1.out hle hsr hqr hS.out).mono ?_
            rintro e w5 ⟨v5, rfl, ho5, hb5⟩
            obtain ⟨A5, n5, c5, rfl, hn5⟩ := ho5.shape
            have hs5 := (ho5.slAt encI_len).2.2
            have hn5h : Hid (n5 = (n' + 1) / 2) := hide (by have := hn5.out; have := hul.out; have := hn1.out; omega)
            have ho45 := ho.below hb5 (Nat.le_refl _)
            have hlt4 := hide ho.lt
            go_wp2
            go_roundw
            case rel => exact ⟨up L, acc, i' / 2, A5, n5, c5, _, _, by go_num, rfl, hn5, by have := hn5h.out; omega, by have := hn5h.out; omega, hs5, Nat.le_refl _, ho45, hide (fun k hk => .inl (hlt4.out k hk).2), by have := hn5h.out; omega, hide (up_sum hS.out), hR3, hbr.trans (hb5.mono hbr.size)⟩
            case measure => simp [lenV]; have := hn5h.out; omega
        · have g1 : decide (1 < (n' : Int)) = false := by simp only [decide_eq_false_iff_not]; omega
          have hf : Hid (proofR xs (i : Int) = acc) := hide (by rw [hy.out, hR.out, besides_one (by have := hn1.out; omega), List.append_nil])
          go_wp2
          go_ret
          exact ⟨_, rfl, by rw [hf.out]; exact ho, hbr⟩
end Go.Proofs.YtjhgcppjpolamaaDoor
