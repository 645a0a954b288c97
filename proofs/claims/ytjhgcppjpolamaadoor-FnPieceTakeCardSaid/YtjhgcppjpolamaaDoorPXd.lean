/-
  'PieceCheck' in both packages. (Printed by gen_pxd.py.)
  Conditions: the program's reads the library's table of powers of ten ('Tab').
-/
import Derived.Test.YtjhgcppjpolamaaDoorPXc
import Derived.Test.YtjhgcppjpolamaaDoorPI
namespace Go.Proofs.YtjhgcppjpolamaaDoor
open Go.RowKit Rg
set_option linter.unusedVariables false
set_option linter.unusedSimpArgs false

def inB (n lo hi : Int) : Bool := decide (lo ≤ n ∧ n ≤ hi)
theorem in_c (n lo hi : Int) (w : World) : Calls Tryd.prog 39 #[.int .i64 n, .int .i64 lo, .int .i64 hi] w fun e w' => e = .returned (.bool (inB n lo hi)) ∧ w = w' := by
  by_cases h1 : lo ≤ n
  · by_cases h2 : n ≤ hi
    · go_enter Tryd.func39, Tryd.ntmps39
      go_wp2
      go_ret
      exact ⟨by simp [inB, h1, h2], rfl⟩
    · go_enter Tryd.func39, Tryd.ntmps39
      go_wp2
      go_ret
      exact ⟨by simp [inB, h2], rfl⟩
  · go_enter Tryd.func39, Tryd.ntmps39
    go_wp2
    go_ret
    exact ⟨by simp [inB]; omega, rfl⟩
theorem l1In_c (n lo hi : Int) (w : World) : Calls Tryd.prog 37 #[.int .i64 n, .int .i64 lo, .int .i64 hi] w fun e w' => e = .returned (.bool (inB n lo hi)) ∧ w = w' := by
  by_cases h1 : lo ≤ n
  · by_cases h2 : n ≤ hi
    · go_enter Tryd.func37, Tryd.ntmps37
      go_wp2
      go_ret
      exact ⟨by simp [inB, h1, h2], rfl⟩
    · go_enter Tryd.func37, Tryd.ntmps37
      go_wp2
      go_ret
      exact ⟨by simp [inB, h2], rfl⟩
  · go_enter Tryd.func37, Tryd.ntmps37
    go_wp2
    go_ret
    exact ⟨by simp [inB]; omega, rfl⟩
/-- Numbers that an int holds. -/
def I64 (n : Int) : Prop := -9223372036854775808 ≤ n ∧ n ≤ 9223372036854775807
theorem Sum.i64 {a : Int} (h : Sum a) : I64 a := by unfold Sum at h; unfold I64; omega
theorem xor1 (i : Nat) (h : i < 1000000) : bits .xor .i64 (i : Int) 1 = (oth i : Int) := by
  rw [xor_i64 (i : Int) 1 (by omega) (by omega) (by omega) (by omega)]
  show ((i ^^^ 1 : Nat) : Int) = _
  rw [oth_xor]
theorem oth_le (i : Nat) : oth i ≤ i + 1 := by unfold oth; split <;> omega
theorem Sl.tail {w : World} {lo hi b off : Nat} {x : Int} {q : List Int} (h : Sl encI 1 w lo hi (some ⟨b, off, none⟩) (x :: q)) : Sl encI 1 w lo hi (some ⟨b, off + 1, none⟩) q := by
  have := h.part 1 q.length
  simpa using this
theorem Sl.tailc {w : World} {lo hi b off c : Nat} {x : Int} {q : List Int} (h : Sl encI 1 w lo hi (some ⟨b, off, none⟩) (x :: q)) (hc : q.length + 1 ≤ c) : Sl encI 1 w lo hi (if c = 1 then some ⟨b, off, none⟩ else some ⟨b, off + 1, none⟩) q := by
  split
  · have : q = [] := List.eq_nil_of_length_eq_zero (by omega)
    subst this
    exact Sl.nil_
  · exact h.tail
/-- Which arguments 'PieceCheck' looks at. -/
def chkIn (many at_ : Int) (s : ByteArray) : Prop := inB many 1 16 = true ∧ inB at_ 0 (many - 1) = true ∧ s.size ≤ 12
instance (many at_ : Int) (s : ByteArray) : Decidable (chkIn many at_ s) := by unfold chkIn; infer_instance
/-- What it answers. -/
def chkR (root many at_ : Int) (s : ByteArray) (p : List Int) : Bool := decide (chkIn many at_ s ∧ chk many.toNat at_.toNat (leafS at_ s.data.toList) p = some root)
theorem chkR_no {root many at_ : Int} {s : ByteArray} {p : List Int} (h : ¬ chkIn many at_ s) : chkR root many at_ s p = false := by simp [chkR, h]
theorem chkR_is {root : Int} {m i : Nat} {s : ByteArray} {p : List Int} (h : chkIn (m : Int) (i : Int) s) {o : Option Int} (ho : chk m i (leafS (i : Int) s.data.toList) p = o) : chkR root (m : Int) (i : Int) s p = decide (o = some root) := by
  subst ho; simp [chkR, h]
set_option maxRecDepth 100000 in
set_option maxHeartbeats 2000000 in
theorem PieceCheck_c (root many at_ : Int) (s : ByteArray) (A : Option Addr) (n c lo hi : Nat) (p : List Int) (w : World) (hn : n = p.length) (hc : n ≤ c) (hcm : c ≤ maxLen) (hb : n ≤ 1048576) (hs : Sl encI 1 w lo hi A p) (hhi : hi ≤ w.heap.size) (hp : ∀ x ∈ p, I64 x) (ht : Tab w) :
    Calls Tryd.prog 13 #[.int .i64 root, .int .i64 many, .int .i64 at_, .string s, .slice A n c] w fun e w' => e = .returned (.bool (chkR root many at_ s p)) ∧ Below w.heap.size w w' := by
  unfold maxLen at hcm
  by_cases hin : chkIn many at_ s
  case neg =>
    have hno := hide (chkR_no (root := root) (p := p) hin)
    cases e1 : inB many 1 16
    · go_enter Tryd.func13, Tryd.ntmps13
      go_wp2_with (go_at_call 39; refine (in_c _ _ _ _).mono ?_; rintro e _ ⟨rfl, rfl⟩)
      go_ret
      exact ⟨by rw [hno.out]; rfl, Below.refl _ _⟩
    · have hm : 1 ≤ many ∧ many ≤ 16 := by simpa [inB] using e1
      cases e2 : inB at_ 0 (many - 1)
      · go_enter Tryd.func13, Tryd.ntmps13
        go_wp2_with (go_at_call 39; refine (in_c _ _ _ _).mono ?_; rintro e _ ⟨rfl, rfl⟩)
        go_ret
        exact ⟨by rw [hno.out]; rfl, Below.refl _ _⟩
      · have hs12 : 12 < s.size := by
          rcases Nat.lt_or_ge 12 s.size with h | h
          · exact h
          · exact absurd ⟨e1, e2, h⟩ hin
        have d1 : decide (12 < (s.size : Int)) = true := by simp only [decide_eq_true_eq]; omega
        go_enter Tryd.func13, Tryd.ntmps13
        go_wp2_with (go_at_call 39; refine (in_c _ _ _ _).mono ?_; rintro e _ ⟨rfl, rfl⟩)
        go_ret
        exact ⟨by rw [hno.out]; rfl, Below.refl _ _⟩
  case pos =>
    obtain ⟨e1, e2, hs12⟩ := hin
    have hm : 1 ≤ many ∧ many ≤ 16 := by simpa [inB] using e1
    have hib : 0 ≤ at_ ∧ at_ ≤ many - 1 := by simpa [inB] using e2
    obtain ⟨m, rfl⟩ : ∃ m : Nat, many = (m : Int) := ⟨many.toNat, by omega⟩
    obtain ⟨i, rfl⟩ : ∃ i : Nat, at_ = (i : Int) := ⟨at_.toNat, by omega⟩
    have him : i < m := by omega
    have hm16 : m ≤ 16 := by omega
    have d1 : decide (12 < (s.size : Int)) = false := by simp only [decide_eq_false_iff_not]; omega
    have hR : Hid (∀ o, chk m i (leafS (i : Int) s.data.toList) p = o → chkR root (m : Int) (i : Int) s p = decide (o = some root)) := hide (fun o ho => chkR_is ⟨e1, e2, hs12⟩ ho)
    have hS0 := hide (leafS_sum (i : Int) s.data.toList)
    have hn' := hide hn
    clear hn
    go_enter Tryd.func13, Tryd.ntmps13
    go_wp2_with (first
      | (go_at_call 39; refine (in_c _ _ _ _).mono ?_; rintro e _ ⟨rfl, rfl⟩)
      | (go_at_call 40; refine (leaf_c i (by omega) s (by omega) _).mono ?_; rintro e w1 ⟨rfl, rfl⟩))
    go_loopw [1, 2, 4, 11] (fun mv iv pv sv wr => ∃ (m' i' : Nat) (q : List Int) (A' : Option Addr) (n' c' : Nat) (S : Int), mv = .int .i64 (m' : Int) ∧ iv = .int .i64 (i' : Int) ∧ pv = .slice A' n' c' ∧ sv = .int .i64 S ∧ m' ≤ 16 ∧ i' < m' ∧ I64 S ∧ Hid (n' = q.length) ∧ n' ≤ c' ∧ c' ≤ 9223372036854775807 ∧ n' ≤ 1048576 ∧ Sl encI 1 wr lo hi A' q ∧ Hid (∀ x ∈ q, I64 x) ∧ Hid (chk m i (leafS (i : Int) s.data.toList) p = chk m' i' S q) ∧ Below w.heap.size w wr ∧ Tab wr) (fun mv _ _ _ _ => (intOf mv).toNat)
    case atStart => exact ⟨m, i, p, A, n, c, _, rfl, rfl, rfl, rfl, hm16, him, hS0.out.i64, hn', hc, hcm, hb, hs, hide hp, hide rfl, Below.refl _ _, ht⟩
    case round =>
      obtain ⟨m', i', q, A', n', c', S, rfl, rfl, rfl, rfl, hm', hi', hS, hn1, hc1, hcm1, hb1, hs1, hp1, hk1, hbr, htr⟩ := hrel
      by_cases h1 : 1 < m'
      · have g1 : decide (1 < (m' : Int)) = true := by simp only [decide_eq_true_eq]; omega
        have hx := xor1 i' (by omega)
        by_cases ho : oth i' < m'
        · have g2 : decide ((m' : Int) ≤ (oth i' : Int)) = false := by simp only [decide_eq_false_iff_not]; omega
          cases q with
          | nil =>
            have hn0 : n' = 0 := hn1.out
            subst hn0
            have hf : Hid (chkR root (m : Int) (i : Int) s p = false) := hide (by rw [hR.out none (by rw [hk1.out]; exact chk_nil (by omega) ho)]; rfl)
            go_wp2
            go_ret
            exact ⟨by rw [hf.out]; rfl, hbr⟩
          | cons x q =>
            have hn2 : n' = q.length + 1 := hn1.out
            obtain ⟨b, off, rfl, hlo, hbh⟩ := hs1.addr (k := 0) (by simp)
            have a1 := hs1.i64 (k := 0) (by simp)
            simp only [List.getElem_cons_zero, Nat.add_zero] at a1
            have hst := hide (hs1.tailc (c := c') (by have := hn2; omega))
            have hX : I64 x := hp1.out x (by simp)
            have hp2 : Hid (∀ y ∈ q, I64 y) := hide (fun y hy => hp1.out y (by simp [hy]))
            have g3 : ((n' : Int) == 0) = false := by simp only [beq_eq_false_iff_ne, ne_eq]; omega
            have hbl : b < wr.heap.size := by have := hbr.size; omega
            obtain ⟨n2, rfl⟩ : ∃ n2, n' = n2 + 1 := ⟨q.length, hn2⟩
            have hn3 : Hid (n2 = q.length) := hide (by omega)
            clear hn1 hn2
            by_cases he : i' % 2 = 0
            · have g4 : ((i' : Int) % 2 == 0) = true := by simp only [beq_iff_eq]; omega
              have hk2 := hk1.out.trans (chk_cons (by omega) ho)
              rw [if_pos he] at hk2
              have hk3 := hide hk2
              clear hk2
              go_wp2_with (go_at_call 41; refine (node_c S x hS.1 hS.2 hX.1 hX.2 wr htr).mono ?_; rintro e w1 ⟨rfl, hb2⟩)
              go_roundw
              case rel => exact ⟨(m' + 1) / 2, i' / 2, q, _, n2, _, _, by go_num, by go_num, rfl, rfl, by omega, by omega, (nodeS_sum S x).i64, hn3, by omega, by omega, by omega, hst.out.below hb2 (by have := hhi; have := hbr.size; omega), hp2, hk3, hbr.trans (hb2.mono hbr.size), htr.below hb2⟩
              case measure => simp [intOf]; omega
            · have g4 : ((i' : Int) % 2 == 0) = false := by simp only [beq_eq_false_iff_ne, ne_eq]; omega
              have hk2 := hk1.out.trans (chk_cons (by omega) ho)
              rw [if_neg he] at hk2
              have hk3 := hide hk2
              clear hk2
              go_wp2_with (go_at_call 41; refine (node_c x S hX.1 hX.2 hS.1 hS.2 wr htr).mono ?_; rintro e w1 ⟨rfl, hb2⟩)
              go_roundw
              case rel => exact ⟨(m' + 1) / 2, i' / 2, q, _, n2, _, _, by go_num, by go_num, rfl, rfl, by omega, by omega, (nodeS_sum x S).i64, hn3, by omega, by omega, by omega, hst.out.below hb2 (by have := hhi; have := hbr.size; omega), hp2, hk3, hbr.trans (hb2.mono hbr.size), htr.below hb2⟩
              case measure => simp [intOf]; omega
        · have g2 : decide ((m' : Int) ≤ (oth i' : Int)) = true := by simp only [decide_eq_true_eq]; omega
          have hk2 := hk1.out.trans (chk_pass (by omega) ho)
          have hk3 := hide hk2
          clear hk2
          go_wp2
          go_roundw
          case rel => exact ⟨(m' + 1) / 2, i' / 2, q, A', n', c', S, by go_num, by go_num, rfl, rfl, by omega, by omega, hS, hn1, hc1, hcm1, hb1, hs1, hp1, hk3, hbr, htr⟩
          case measure => simp [intOf]; omega
      · have g1 : decide (1 < (m' : Int)) = false := by simp only [decide_eq_false_iff_not]; omega
        have hk2 := hk1.out.trans (chk_one (by omega))
        by_cases hq : q = []
        · subst hq
          have hn0 : n' = 0 := hn1.out
          subst hn0
          rw [if_pos rfl] at hk2
          by_cases hr : S = root
          · subst hr
            have hf : Hid (chkR S (m : Int) (i : Int) s p = true) := hide (by rw [hR.out _ hk2]; simp)
            clear hk2
            go_wp2
            go_ret
            exact ⟨by rw [hf.out]; rfl, hbr⟩
          · have g5 : (S == root) = false := by simpa using hr
            have hf : Hid (chkR root (m : Int) (i : Int) s p = false) := hide (by rw [hR.out _ hk2]; simp [hr])
            clear hk2
            go_wp2
            go_ret
            exact ⟨by rw [hf.out]; rfl, hbr⟩
        · rw [if_neg hq] at hk2
          have hf : Hid (chkR root (m : Int) (i : Int) s p = false) := hide (by rw [hR.out _ hk2]; rfl)
          have hpos : 0 < q.length := List.length_pos_iff.2 hq
          have g3 : ((n' : Int) == 0) = false := by have := hn1.out; simp only [beq_eq_false_iff_ne, ne_eq]; omega
          clear hk2
          by_cases hr : S = root
          · have g5 : (S == root) = true := by simpa using hr
            have hr' := hide hr
            clear hr
            go_wp2
            go_ret
            exact ⟨by rw [hf.out]; rfl, hbr⟩
          · have g5 : (S == root) = false := by simpa using hr
            go_wp2
            go_ret
            exact ⟨by rw [hf.out]; rfl, hbr⟩

set_option maxRecDepth 100000 in
set_option maxHeartbeats 2000000 in
theorem l12Check_c (m i : Nat) (s : ByteArray) (A : Option Addr) (n c lo hi : Nat) (p : List Int) (w : World) (hn : n = p.length) (hb : n ≤ 1048576) (hs : Sl encI 1 w lo hi A p) (hhi : hi ≤ w.heap.size) (hp : ∀ x ∈ p, I64 x) (him : i < m) (hm16 : m ≤ 16) (hs12 : s.size ≤ 12) :
    Calls Tryd.prog 38 #[.int .i64 (i : Int), .int .i64 (m : Int), .string s, .slice A n c] w fun e w' => ∃ (v : Int) (b : Bool), e = .returned (.tuple #[.int .i64 v, .bool b]) ∧ chk m i (leafS (i : Int) s.data.toList) p = (if b then some v else none) ∧ Below w.heap.size w w' := by
  have hn' := hide hn
  have hp' := hide hp
  have hS0 := hide (leafS_sum (i : Int) s.data.toList)
  clear hn hp
  go_enter Tryd.func38, Tryd.ntmps38
  go_wp2_with (go_at_call 61; refine (l12Leaf_c i (by omega) s (by omega) _).mono ?_; rintro e w1 ⟨rfl, hb1⟩)
  go_loopw [0, 1, 10, 11] (fun iv mv sv uv wr => ∃ (m' i' u : Nat) (S : Int), mv = .int .i64 (m' : Int) ∧ iv = .int .i64 (i' : Int) ∧ sv = .int .i64 S ∧ uv = .int .i64 (u : Int) ∧ m' ≤ 16 ∧ i' < m' ∧ I64 S ∧ u ≤ n ∧ Hid (chk m i (leafS (i : Int) s.data.toList) p = chk m' i' S (p.drop u)) ∧ Below w.heap.size w wr) (fun _ mv _ _ _ => (intOf mv).toNat)
  case atStart => exact ⟨m, i, 0, _, rfl, rfl, rfl, rfl, hm16, him, hS0.out.i64, Nat.zero_le _, hide rfl, hb1⟩
  case round =>
    obtain ⟨m', i', u, S, rfl, rfl, rfl, rfl, hm', hi', hS, hun, hk1, hbr⟩ := hrel
    by_cases h1 : 1 < m'
    · have g1 : decide (1 < (m' : Int)) = true := by simp only [decide_eq_true_eq]; omega
      have hx := xor1 i' (by omega)
      by_cases ho : oth i' < m'
      · have g2 : decide ((oth i' : Int) < (m' : Int)) = true := by simp only [decide_eq_true_eq]; omega
        by_cases hu : u < n
        · have g3 : decide ((n : Int) ≤ (u : Int)) = false := by simp only [decide_eq_false_iff_not]; omega
          have hlx : u < p.length := by have := hn'.out; omega
          obtain ⟨b, off, rfl, hlo, hbh⟩ := hs.addr hlx
          have a1 := (hs.below hbr hhi).i64 hlx
          have hX : I64 p[u] := hp'.out _ (List.getElem_mem _)
          have hk2 := hk1.out
          rw [List.drop_eq_getElem_cons hlx] at hk2
          have hk2 := hk2.trans (chk_cons (by omega) ho)
          by_cases he : i' % 2 = 0
          · have g4 : ((i' : Int) % 2 == 0) = true := by simp only [beq_iff_eq]; omega
            rw [if_pos he] at hk2
            have hk3 := hide hk2
            clear hk2
            go_wp2_with (go_at_call 62; refine (l12Node_c S p[u] hS.1 hS.2 hX.1 hX.2 wr).mono ?_; rintro e w1 ⟨rfl, hb2⟩)
            go_roundw
            case rel => exact ⟨(m' + 1) / 2, i' / 2, u + 1, _, by go_num, by go_num, rfl, by go_num, by omega, by omega, (nodeS_sum S p[u]).i64, by omega, hk3, hbr.trans (hb2.mono hbr.size)⟩
            case measure => simp [intOf]; omega
          · have g4 : ((i' : Int) % 2 == 0) = false := by simp only [beq_eq_false_iff_ne, ne_eq]; omega
            rw [if_neg he] at hk2
            have hk3 := hide hk2
            clear hk2
            go_wp2_with (go_at_call 62; refine (l12Node_c p[u] S hX.1 hX.2 hS.1 hS.2 wr).mono ?_; rintro e w1 ⟨rfl, hb2⟩)
            go_roundw
            case rel => exact ⟨(m' + 1) / 2, i' / 2, u + 1, _, by go_num, by go_num, rfl, by go_num, by omega, by omega, (nodeS_sum p[u] S).i64, by omega, hk3, hbr.trans (hb2.mono hbr.size)⟩
            case measure => simp [intOf]; omega
        · have g3 : decide ((n : Int) ≤ (u : Int)) = true := by simp only [decide_eq_true_eq]; omega
          have hk2 := hk1.out
          rw [List.drop_of_length_le (by have := hn'.out; omega)] at hk2
          have hk3 := hide (hk2.trans (chk_nil (by omega) ho))
          clear hk2
          go_wp2
          exact bodyPost_ret (v := .tuple #[.int .i64 0, .bool false]) (by simp [results, Tryd.results38, go_sem]) rfl ⟨0, false, rfl, hk3.out, hbr⟩
      · have g2 : decide ((oth i' : Int) < (m' : Int)) = false := by simp only [decide_eq_false_iff_not]; omega
        have hk3 := hide (hk1.out.trans (chk_pass (by omega) ho))
        go_wp2
        go_roundw
        case rel => exact ⟨(m' + 1) / 2, i' / 2, u, S, by go_num, by go_num, rfl, rfl, by omega, by omega, hS, hun, hk3, hbr⟩
        case measure => simp [intOf]; omega
    · have g1 : decide (1 < (m' : Int)) = false := by simp only [decide_eq_false_iff_not]; omega
      have hk2 := hk1.out.trans (chk_one (by omega))
      by_cases hu : u = n
      · have g5 : ((u : Int) == (n : Int)) = true := by simp only [beq_iff_eq]; omega
        rw [List.drop_of_length_le (by have := hn'.out; omega), if_pos rfl] at hk2
        have hk3 := hide hk2
        clear hk2
        go_wp2
        exact bodyPost_ret (v := .tuple #[.int .i64 S, .bool true]) (by simp [results, Tryd.results38, go_sem]) rfl ⟨S, true, rfl, hk3.out, hbr⟩
      · have g5 : ((u : Int) == (n : Int)) = false := by simp only [beq_eq_false_iff_ne, ne_eq]; omega
        have hne : p.drop u ≠ [] := by
          intro h
          have := congrArg List.length h
          simp at this
          have := hn'.out; omega
        rw [if_neg hne] at hk2
        have hk3 := hide hk2
        clear hk2 hne
        go_wp2
        exact bodyPost_ret (v := .tuple #[.int .i64 S, .bool false]) (by simp [results, Tryd.results38, go_sem]) rfl ⟨S, false, rfl, hk3.out, hbr⟩
end Go.Proofs.YtjhgcppjpolamaaDoor
