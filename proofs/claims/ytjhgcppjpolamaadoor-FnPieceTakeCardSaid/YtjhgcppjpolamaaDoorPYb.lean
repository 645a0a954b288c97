/-
  'Piece': a place, a text, sums: read, fresh; package laws' sizes, comparisons, deep copies. (Printed by gen_pyb.py.)
-/
import Derived.Test.YtjhgcppjpolamaaDoorPYa
import Derived.Test.YtjhgcppjpolamaaDoorPXe
namespace Go.Proofs.YtjhgcppjpolamaaDoor
open Go Go.RowKit Rg Go.WideShapes Go.ChangeShapes Go.Deep
set_option linter.unusedVariables false
set_option linter.unusedSimpArgs false

abbrev PieceT := Int × ByteArray × List Int
/-- What a given piece always is: its numbers are numbers of the machine, its text is not longer than memory. -/
def PieceG (t : PieceT) : Prop := I64 t.1 ∧ t.2.1.size ≤ maxLen ∧ ∀ x ∈ t.2.2, I64 x
def pieceR : ElR PieceT := fun w lo hi cs t => ∃ A n c, cs = [.int .i64 t.1, .string t.2.1, .slice A n c] ∧ RdN 1 (flatR encI) w lo hi A n c t.2.2 ∧ PieceG t
theorem piece_kept : Kept pieceR := ⟨fun ⟨A, n, c, h1, h2, h3⟩ hk => ⟨A, n, c, h1, h2.keep (flat_kept _) hk, h3⟩, fun ⟨A, n, c, h1, h2, h3⟩ hl hh => ⟨A, n, c, h1, h2.mono (flat_kept _) hl hh, h3⟩⟩
abbrev tP : TypeId := 54
def pieceF : ElR PieceT := fun w lo hi cs t => ∃ A n c, cs = [.int .i64 t.1, .string t.2.1, .slice A n c] ∧ OwnB encI 1 3 w lo hi A n c t.2.2 ∧ PieceG t
theorem pieceF_kept : Kept pieceF := ⟨fun ⟨A, n, c, h1, h2, h3⟩ hk => ⟨A, n, c, h1, h2.keep hk, h3⟩, fun ⟨A, n, c, h1, h2, h3⟩ hl hh => ⟨A, n, c, h1, h2.mono hl hh, h3⟩⟩
theorem pieceF_R {w : World} {lo hi : Nat} {cs : List Value} {t : PieceT} : pieceF w lo hi cs t → pieceR w lo hi cs t := fun ⟨A, n, c, h1, h2, h3⟩ => ⟨A, n, c, h1, h2.rdn encI_len, h3⟩
abbrev FrP (w : World) (lo hi : Nat) (A : Option Addr) (n c : Nat) (ts : List PieceT) : Prop := Fr 3 tP pieceF w lo hi A n c ts
theorem FrP.rd {w : World} {lo hi n c : Nat} {A : Option Addr} {ts : List PieceT} (h : FrP w lo hi A n c ts) : RdN 3 pieceR w lo hi A n c ts := Fr.rdn pieceF_kept piece_kept pieceF_R h
theorem RdN.piece {w : World} {lo hi b off n c k : Nat} {ts : List PieceT} (h : RdN 3 pieceR w lo hi (some ⟨b, off, none⟩) n c ts) (hk : k < ts.length) :
    ∃ A n' c', w.cell? ⟨b, off + k * 3, none⟩ = some (.int .i64 ts[k].1) ∧ w.cell? ⟨b, off + k * 3 + 1, none⟩ = some (.string ts[k].2.1) ∧ w.cell? ⟨b, off + k * 3 + 2, none⟩ = some (.slice A n' c') ∧ RdN 1 (flatR encI) w lo hi A n' c' ts[k].2.2 ∧ PieceG ts[k] := by
  obtain ⟨cs, _, h5, A, n', c', rfl, h6, h7⟩ := h.at_ hk
  exact ⟨A, n', c', h5 0 _ rfl, h5 1 _ rfl, h5 2 _ rfl, h6, h7⟩
def szPiece (t : PieceT) : Nat := t.2.1.size + t.2.2.length
def szPieces (ts : List PieceT) : Nat := ts.length + (ts.map szPiece).sum

theorem eqIntS_same {A B : Option Addr} {n m c d lo hi lo' hi' : Nat} {ts : List Int} {w : World} (hs : RdN 1 (flatR encI) w lo hi A n c ts) (hs' : RdN 1 (flatR encI) w lo' hi' B m d ts) (hhi : hi ≤ w.heap.size) (hhi' : hi' ≤ w.heap.size) (hb : ts.length ≤ 1048576) :
    Calls Tryd.prog 14 #[.slice A n c, .slice B m d] w fun e w' => e = .returned (.bool true) ∧ Below w.heap.size w w' := by
  have := eqIntS_c A B n m c d lo hi lo' hi' ts ts w hs.len hs'.len (by rw [hs.len]; exact hb) (by rw [hs'.len]; exact hb) hs.sl hs'.sl hhi hhi'
  simpa using this
theorem toIntN_c {A : Option Addr} {n c lo hi : Nat} {ts : List Int} {w : World} (hs : RdN 1 (flatR encI) w lo hi A n c ts) (hb : ts.length ≤ 1048576) (hhi : hi ≤ w.heap.size) :
    Calls Tryd.prog 12 #[.slice A n c] w fun e w' => ∃ (A' : Option Addr) (n' c' : Nat), e = .returned (.slice A' n' c') ∧ OwnB encI 1 3 w' w.heap.size w'.heap.size A' n' c' ts ∧ Below w.heap.size w w' := by
  refine (toIntS_c A n c lo hi ts w hs.len (by rw [hs.len]; exact hb) hs.sl hhi).mono ?_
  rintro e w' ⟨v, rfl, ho, hB⟩
  obtain ⟨A', n', c', rfl, _⟩ := ho.shape
  exact ⟨A', n', c', rfl, ho.ownB, hB⟩

theorem szIntS_c (A : Option Addr) (n c left : Nat) (w : World) (hn : n ≤ maxLen) (hl : left ≤ 1048576) : Calls Tryd.prog 68 #[.slice A n c, .int .i64 (left : Int)] w fun e w' => e = .returned (.int .i64 (szO left n)) ∧ w = w' := by
  unfold maxLen at hn
  by_cases h : n ≤ left
  · have hz := hide (szO_yes h)
    have d1 : decide ((left : Int) - (n : Int) < 0) = false := by simp; omega
    go_enter Tryd.func68, Tryd.ntmps68
    go_wp2
    go_ret
    exact ⟨by rw [hz.out, Int.ofNat_sub h]; rfl, rfl⟩
  · have hz := hide (szO_no (show left < n by omega))
    have d1 : decide ((left : Int) - (n : Int) < 0) = true := by simp; omega
    go_enter Tryd.func68, Tryd.ntmps68
    go_wp2
    go_ret
    exact ⟨by rw [hz.out]; rfl, rfl⟩

set_option maxHeartbeats 1000000 in
theorem eqPiece_same (t : PieceT) (A : Option Addr) (n c : Nat) (Au : Option Addr) (nu cu : Nat) (lo hi lo' hi' : Nat) (w : World) (h0 : RdN 1 (flatR encI) w lo hi A n c t.2.2) (h0u : RdN 1 (flatR encI) w lo' hi' Au nu cu t.2.2) (hhi : hi ≤ w.heap.size) (hhi' : hi' ≤ w.heap.size) (hb : t.2.2.length ≤ 1048576) :
    Calls Tryd.prog 59 #[.agg #[.int .i64 t.1, .string t.2.1, .slice A n c], .agg #[.int .i64 t.1, .string t.2.1, .slice Au nu cu]] w fun e w' => e = .returned (.bool true) ∧ Below w.heap.size w w' := by
  have hB : Below w.heap.size w ((w.alloc (.cells #[.int .i64 t.1, .string t.2.1, .slice A n c] 54)).alloc (.cells #[.int .i64 t.1, .string t.2.1, .slice Au nu cu] 54)) := ((Below.refl _ _).alloc (Nat.le_refl _) _).alloc (by simp) _
  have e_1 : (t.1 != t.1) = false := by simp
  have e_2_1 : (t.2.1.toList != t.2.1.toList) = false := by simp
  have x2 : ((w.alloc (.cells #[.int .i64 t.1, .string t.2.1, .slice A n c] 54)).alloc (.cells #[.int .i64 t.1, .string t.2.1, .slice Au nu cu] 54)).cell? ⟨w.heap.size, 2, none⟩ = some (.slice A n c) := by simp
  have y2 : ((w.alloc (.cells #[.int .i64 t.1, .string t.2.1, .slice A n c] 54)).alloc (.cells #[.int .i64 t.1, .string t.2.1, .slice Au nu cu] 54)).cell? ⟨w.heap.size + 1, 2, none⟩ = some (.slice Au nu cu) := by simp
  go_enter Tryd.func59, Tryd.ntmps59
  go_wp2_with fail
  generalize ((w.alloc (.cells #[.int .i64 t.1, .string t.2.1, .slice A n c] 54)).alloc (.cells #[.int .i64 t.1, .string t.2.1, .slice Au nu cu] 54)) = w0 at *
  refine (eqIntS_same (h0.below (flat_kept encI) hB hhi) (h0u.below (flat_kept encI) hB hhi') (Nat.le_trans hhi hB.size) (Nat.le_trans hhi' hB.size) hb).mono ?_
  rintro e w1 ⟨rfl, hb1⟩
  have x2 := keepc hb1 x2
  have y2 := keepc hb1 y2
  have hB := hB.trans (hb1.mono hB.size)
  go_wp2
  go_ret
  exact ⟨rfl, hB⟩

theorem eqPieceS_same {A B : Option Addr} {n m c d lo hi lo' hi' : Nat} {ts : List PieceT} {w : World} (hs : RdN 3 pieceR w lo hi A n c ts) (hs' : RdN 3 pieceR w lo' hi' B m d ts) (hhi : hi ≤ w.heap.size) (hhi' : hi' ≤ w.heap.size) (hb : ∀ t ∈ ts, t.2.2.length ≤ 1048576) :
    Calls Tryd.prog 33 #[.slice A n c, .slice B m d] w fun e w' => e = .returned (.bool true) ∧ Below w.heap.size w w' := by
  obtain rfl : n = m := by rw [hs.len, hs'.len]
  have hn' := hide hs.len
  have hc1 := hs.cap
  have hc2 := hs.max
  unfold maxLen at hc2
  go_enter Tryd.func33, Tryd.ntmps33
  go_wp2
  go_loopw [5] (fun i wr => ∃ k : Nat, k ≤ n ∧ i = .int .i64 k ∧ Below w.heap.size w wr) (fun i _ => n - (intOf i).toNat)
  case atStart => exact ⟨0, Nat.zero_le _, rfl, Below.refl _ _⟩
  case round =>
    obtain ⟨k, hk, rfl, hbr⟩ := hrel
    have hzr := hbr.size
    by_cases hlt : k < n
    · have hlx : k < ts.length := by have := hn'.out; omega
      obtain ⟨b, off, rfl, hlo, hbh⟩ := hs.addr hlx
      obtain ⟨b', off', rfl, hlo', hbh'⟩ := hs'.addr hlx
      obtain ⟨A1, n1, c1, a0, a1, a2, r0, pg0⟩ := (hs.below piece_kept hbr hhi).piece hlx
      obtain ⟨A2, n2, c2, b0, b1, b2, u0, pg1⟩ := (hs'.below piece_kept hbr hhi').piece hlx
      have heq := hide (fun W (h : Below wr.heap.size wr W) => eqPiece_same ts[k] A1 n1 c1 A2 n2 c2 lo hi lo' hi' W (r0.below (flat_kept encI) h (by omega)) (u0.below (flat_kept encI) h (by omega)) (by have := h.size; omega) (by have := h.size; omega) (hb _ (List.getElem_mem _)))
      go_wp2
      refine wp_region_T (fun _ => True) [] [] [] [0, 1, 2, 3, 4, 5, 6, 7, 8, 9] (by kernel_rfl) (by kernel_rfl) (by kernel_rfl) trivial ?_; simp only [pickL, List.getElem?_cons_succ, List.getElem?_cons_zero]
      go_wp2_with (first
        | ((with_reducible refine wpT_q0 ?_ ?_ ?_ ?_); (focus rfl); (focus rfl); (focus rfl); intro K hK) | ((with_reducible refine wpT_x0 ?_ ?_ ?_); (focus rfl); (focus rfl); intro K hK) | ((with_reducible refine wpT_noL ?_ ?_); (focus (first | exact wanted_no _ _ _ rfl rfl rfl | exact wanted_un _ _ _ rfl rfl rfl)); simp only [setO, List.set_cons_succ, List.set_cons_zero]) | ((with_reducible refine wpT_q1 ?_ ?_ ?_ ?_); (focus exact wanted_yes _ _ _ rfl rfl rfl); (focus rfl); (focus rfl); intro K hK) | ((with_reducible refine wpT_x1 ?_ ?_ ?_); (focus exact wanted_yes _ _ _ rfl rfl rfl); (focus rfl); intro K hK) | ((with_reducible refine wpT_nil ?_); try dsimp only)
        | (go_at_call 59; refine (heq.out _ (below_drewN wr 1)).mono ?_; rintro e w1 ⟨rfl, hb1⟩)
        | fail)
      go_roundw
      case rel => exact ⟨k + 1, by omega, by go_num, hbr.drew.trans (hb1.mono hzr)⟩
      case measure => simp [intOf]; omega
    · obtain rfl : k = n := by omega
      go_wp2
      go_ret
      exact ⟨rfl, hbr⟩

set_option maxHeartbeats 1000000 in
theorem szPiece_c (t : PieceT) (A : Option Addr) (n c : Nat) (lo hi left : Nat) (w : World) (h0 : RdN 1 (flatR encI) w lo hi A n c t.2.2) (hhi : hi ≤ w.heap.size) (hl : left ≤ 1048576) (hg : t.2.1.size ≤ maxLen) :
    Calls Tryd.prog 55 #[.agg #[.int .i64 t.1, .string t.2.1, .slice A n c], .int .i64 (left : Int)] w fun e w' => e = .returned (.int .i64 (szO left (szPiece t))) ∧ Below w.heap.size w w' := by
  have hB : Below w.heap.size w (w.alloc (.cells #[.int .i64 t.1, .string t.2.1, .slice A n c] 72)) := (Below.refl _ _).alloc (Nat.le_refl _) _
  have hsz : Hid (szPiece t = t.2.1.size + t.2.2.length) := hide rfl
  have l0 := hide h0.len
  have m0 : n ≤ maxLen := Nat.le_trans h0.cap h0.max
  unfold maxLen at hg
  have x2 : (w.alloc (.cells #[.int .i64 t.1, .string t.2.1, .slice A n c] 72)).cell? ⟨w.heap.size, 2, none⟩ = some (.slice A n c) := by simp
  by_cases k1 : t.2.1.size ≤ left
  · have d1 : decide ((left : Int) - (t.2.1.size : Int) < 0) = false := by simp; omega
    have hca : Hid ((left : Int) - (t.2.1.size : Int) = ((left - t.2.1.size : Nat) : Int)) := hide (by omega)
    have hlL : left - t.2.1.size ≤ 1048576 := by omega
    by_cases k0 : t.2.2.length ≤ left - t.2.1.size
    · have g0 : n = t.2.2.length := l0.out
      have y0 := hide (szO_yes (show n ≤ left - t.2.1.size from by omega))
      clear g0
      go_enter Tryd.func55, Tryd.ntmps55
      go_wp2_with fail
      rw [hca.out]
      refine (szIntS_c A n c (left - t.2.1.size) _ m0 hlL).mono ?_
      rintro e w1 ⟨rfl, rfl⟩
      rw [y0.out]
      have d0 : decide ((((left - t.2.1.size) - n : Nat) : Int) < 0) = false := by simp
      go_wp2
      go_ret
      exact ⟨congrArg (fun b => Ending.returned (.int .i64 b)) (by have h9 := hsz.out; have q0 := l0.out; rw [szO_yes (by omega)]; omega), hB⟩
    · have g0 : n = t.2.2.length := l0.out
      have y0 := hide (szO_no (show left - t.2.1.size < n from by omega))
      clear g0
      go_enter Tryd.func55, Tryd.ntmps55
      go_wp2_with fail
      rw [hca.out]
      refine (szIntS_c A n c (left - t.2.1.size) _ m0 hlL).mono ?_
      rintro e w1 ⟨rfl, rfl⟩
      rw [y0.out]
      go_wp2
      go_ret
      exact ⟨congrArg (fun b => Ending.returned (.int .i64 b)) (by have h9 := hsz.out; have q0 := l0.out; rw [szO_no (by omega)]), hB⟩
  · have d1 : decide ((left : Int) - (t.2.1.size : Int) < 0) = true := by simp; omega
    go_enter Tryd.func55, Tryd.ntmps55
    go_wp2
    go_ret
    exact ⟨congrArg (fun b => Ending.returned (.int .i64 b)) (by have h9 := hsz.out; rw [szO_no (by omega)]), hB⟩

set_option maxHeartbeats 1000000 in
theorem szPieceS_c (A : Option Addr) (n c lo hi left : Nat) {ts : List PieceT} (w : World) (hs : RdN 3 pieceR w lo hi A n c ts) (hhi : hi ≤ w.heap.size) (hl : left ≤ 1048576) :
    Calls Tryd.prog 29 #[.slice A n c, .int .i64 (left : Int)] w fun e w' => e = .returned (.int .i64 (szO left (szPieces ts))) ∧ Below w.heap.size w w' := by
  have hn' := hide hs.len
  have hc1 := hs.cap
  have hc2 := hs.max
  unfold maxLen at hc2
  have hsz : Hid (szPieces ts = n + (ts.map szPiece).sum) := hide (by unfold szPieces; rw [hn'.out])
  by_cases h0 : n ≤ left
  · have d1 : decide ((left : Int) - (n : Int) < 0) = false := by simp; omega
    go_enter Tryd.func29, Tryd.ntmps29
    go_wp2
    go_loopw [1, 5] (fun l i wr => ∃ k : Nat, k ≤ n ∧ i = .int .i64 k ∧ n + ((ts.take k).map szPiece).sum ≤ left ∧ l = .int .i64 ((left - (n + ((ts.take k).map szPiece).sum) : Nat) : Int) ∧ Below w.heap.size w wr) (fun _ i _ => n - (intOf i).toNat)
    case atStart => exact ⟨0, Nat.zero_le _, rfl, by simpa using h0, by simp; omega, Below.refl _ _⟩
    case round =>
      obtain ⟨k, hk, rfl, hle, rfl, hbr⟩ := hrel
      have hzr := hbr.size
      by_cases hlt : k < n
      · have hlx : k < ts.length := by have := hn'.out; omega
        obtain ⟨b, off, rfl, hlo, hbh⟩ := hs.addr hlx
        obtain ⟨A1, n1, c1, a0, a1, a2, r0, pg0⟩ := (hs.below piece_kept hbr hhi).piece hlx
        have hst := hide (sum_take_succ szPiece ts k hlx)
        have hto := hide (sum_take_le szPiece ts (k + 1))
        generalize hL : left - (n + ((ts.take k).map szPiece).sum) = L at *
        have hL' := hide hL
        clear hL
        have hLb : L ≤ 1048576 := by have := hL'.out; omega
        by_cases h1 : szPiece ts[k] ≤ L
        · have y := hide (szO_yes h1)
          go_wp2_with fail
          refine (szPiece_c ts[k] A1 n1 c1 lo hi L wr r0 (by omega) hLb pg0.2.1).mono ?_
          rintro e w1 ⟨rfl, hb1⟩
          rw [y.out]
          have d2 : decide (((L - szPiece ts[k] : Nat) : Int) < 0) = false := by simp
          go_wp2
          go_roundw
          case rel => exact ⟨k + 1, by omega, by go_num, by have h2 := hL'.out; have h3 := hst.out; rw [h3]; omega, congrArg (fun z : Nat => Value.int .i64 (z : Int)) (by have h2 := hL'.out; have h3 := hst.out; rw [h3]; omega), hbr.trans (hb1.mono hzr)⟩
          case measure => simp [intOf]; omega
        · have y := hide (szO_no (show L < szPiece ts[k] by omega))
          go_wp2_with fail
          refine (szPiece_c ts[k] A1 n1 c1 lo hi L wr r0 (by omega) hLb pg0.2.1).mono ?_
          rintro e w1 ⟨rfl, hb1⟩
          rw [y.out]
          go_wp2
          go_ret
          exact ⟨congrArg (fun b => Ending.returned (.int .i64 b)) (by have h2 := hL'.out; have h3 := hst.out; have h4 := hto.out; have h5 := hsz.out; rw [szO_no (by omega)]), hbr.trans (hb1.mono hzr)⟩
      · obtain rfl : k = n := by omega
        have hfin : Hid ((ts.take k).map szPiece = ts.map szPiece) := hide (by rw [List.take_of_length_le (by rw [hn'.out]; omega)])
        rw [hfin.out] at hle
        have hres := hide (congrArg (fun z : Nat => (z : Int)) (show left - (k + ((ts.take k).map szPiece).sum) = left - szPieces ts from by rw [hfin.out, hsz.out]))
        have hres2 := hide (szO_yes (show szPieces ts ≤ left from by rw [hsz.out]; exact hle))
        go_wp2
        go_ret
        exact ⟨congrArg (fun b => Ending.returned (.int .i64 b)) (by rw [hres2.out]; exact hres.out), hbr⟩
  · have d1 : decide ((left : Int) - (n : Int) < 0) = true := by simp; omega
    have y := hide (szO_no (show left < szPieces ts from by have := hsz.out; omega))
    go_enter Tryd.func29, Tryd.ntmps29
    go_wp2
    go_ret
    exact ⟨congrArg (fun b => Ending.returned (.int .i64 b)) y.out.symm, Below.refl _ _⟩

set_option maxRecDepth 100000 in
set_option maxHeartbeats 4000000 in
theorem toPiece_c (t : PieceT) (A : Option Addr) (n c : Nat) (lo hi : Nat) (w : World) (h0 : RdN 1 (flatR encI) w lo hi A n c t.2.2) (hhi : hi ≤ w.heap.size) (hz0 : t.2.2.length ≤ 1048576) (hg : PieceG t) :
    Calls Tryd.prog 57 #[.agg #[.int .i64 t.1, .string t.2.1, .slice A n c]] w fun e w' => ∃ (Ar : Option Addr) (nr cr : Nat), e = .returned (.agg #[.int .i64 t.1, .string t.2.1, .slice Ar nr cr]) ∧ pieceF w' w.heap.size w'.heap.size [.int .i64 t.1, .string t.2.1, .slice Ar nr cr] t ∧ Below w.heap.size w w' := by
  have hB : Below w.heap.size w (((w.alloc (.cells #[.int .i64 t.1, .string t.2.1, .slice A n c] 72)).alloc (.cells #[.int .i64 0, .string ⟨#[]⟩, .slice none 0 0] 54)).alloc (.cells #[.int .i64 t.1, .string t.2.1, .slice none 0 0] 54)) := ((Below.refl _ _).alloc (Nat.le_refl _) _ |>.alloc (by simp) _).alloc (by simp; omega) _
  obtain ⟨t1, t2, t3, t4⟩ := heap3 w (.cells #[.int .i64 t.1, .string t.2.1, .slice A n c] 72) (.cells #[.int .i64 0, .string ⟨#[]⟩, .slice none 0 0] 54) (.cells #[.int .i64 t.1, .string t.2.1, .slice none 0 0] 54)
  have x2 : (((w.alloc (.cells #[.int .i64 t.1, .string t.2.1, .slice A n c] 72)).alloc (.cells #[.int .i64 0, .string ⟨#[]⟩, .slice none 0 0] 54)).alloc (.cells #[.int .i64 t.1, .string t.2.1, .slice none 0 0] 54)).cell? ⟨w.heap.size, 2, none⟩ = some (.slice A n c) := by simp only [World.cell?, t1]; rfl
  have z0 : (((w.alloc (.cells #[.int .i64 t.1, .string t.2.1, .slice A n c] 72)).alloc (.cells #[.int .i64 0, .string ⟨#[]⟩, .slice none 0 0] 54)).alloc (.cells #[.int .i64 t.1, .string t.2.1, .slice none 0 0] 54)).cell? ⟨w.heap.size + 1, 0, none⟩ = some (.int .i64 0) := by simp only [World.cell?, t2]; rfl
  have z1 : (((w.alloc (.cells #[.int .i64 t.1, .string t.2.1, .slice A n c] 72)).alloc (.cells #[.int .i64 0, .string ⟨#[]⟩, .slice none 0 0] 54)).alloc (.cells #[.int .i64 t.1, .string t.2.1, .slice none 0 0] 54)).cell? ⟨w.heap.size + 1, 1, none⟩ = some (.string ⟨#[]⟩) := by simp only [World.cell?, t2]; rfl
  have z2 : (((w.alloc (.cells #[.int .i64 t.1, .string t.2.1, .slice A n c] 72)).alloc (.cells #[.int .i64 0, .string ⟨#[]⟩, .slice none 0 0] 54)).alloc (.cells #[.int .i64 t.1, .string t.2.1, .slice none 0 0] 54)).cell? ⟨w.heap.size + 1, 2, none⟩ = some (.slice none 0 0) := by simp only [World.cell?, t2]; rfl
  have zf0 : (((w.alloc (.cells #[.int .i64 t.1, .string t.2.1, .slice A n c] 72)).alloc (.cells #[.int .i64 0, .string ⟨#[]⟩, .slice none 0 0] 54)).alloc (.cells #[.int .i64 t.1, .string t.2.1, .slice none 0 0] 54)).frozen? ⟨w.heap.size + 1, 0, none⟩ = false := by simp only [World.frozen?, t2]; simp
  have zf1 : (((w.alloc (.cells #[.int .i64 t.1, .string t.2.1, .slice A n c] 72)).alloc (.cells #[.int .i64 0, .string ⟨#[]⟩, .slice none 0 0] 54)).alloc (.cells #[.int .i64 t.1, .string t.2.1, .slice none 0 0] 54)).frozen? ⟨w.heap.size + 1, 1, none⟩ = false := by simp only [World.frozen?, t2]; simp
  have zf2 : (((w.alloc (.cells #[.int .i64 t.1, .string t.2.1, .slice A n c] 72)).alloc (.cells #[.int .i64 0, .string ⟨#[]⟩, .slice none 0 0] 54)).alloc (.cells #[.int .i64 t.1, .string t.2.1, .slice none 0 0] 54)).frozen? ⟨w.heap.size + 1, 2, none⟩ = false := by simp only [World.frozen?, t2]; simp
  have y0 : (((w.alloc (.cells #[.int .i64 t.1, .string t.2.1, .slice A n c] 72)).alloc (.cells #[.int .i64 0, .string ⟨#[]⟩, .slice none 0 0] 54)).alloc (.cells #[.int .i64 t.1, .string t.2.1, .slice none 0 0] 54)).cell? ⟨w.heap.size + 1 + 1, 0, none⟩ = some (.int .i64 t.1) := by simp only [World.cell?, t3]; rfl
  have y1 : (((w.alloc (.cells #[.int .i64 t.1, .string t.2.1, .slice A n c] 72)).alloc (.cells #[.int .i64 0, .string ⟨#[]⟩, .slice none 0 0] 54)).alloc (.cells #[.int .i64 t.1, .string t.2.1, .slice none 0 0] 54)).cell? ⟨w.heap.size + 1 + 1, 1, none⟩ = some (.string t.2.1) := by simp only [World.cell?, t3]; rfl
  have y2 : (((w.alloc (.cells #[.int .i64 t.1, .string t.2.1, .slice A n c] 72)).alloc (.cells #[.int .i64 0, .string ⟨#[]⟩, .slice none 0 0] 54)).alloc (.cells #[.int .i64 t.1, .string t.2.1, .slice none 0 0] 54)).cell? ⟨w.heap.size + 1 + 1, 2, none⟩ = some (.slice none 0 0) := by simp only [World.cell?, t3]; rfl
  have yf0 : (((w.alloc (.cells #[.int .i64 t.1, .string t.2.1, .slice A n c] 72)).alloc (.cells #[.int .i64 0, .string ⟨#[]⟩, .slice none 0 0] 54)).alloc (.cells #[.int .i64 t.1, .string t.2.1, .slice none 0 0] 54)).frozen? ⟨w.heap.size + 1 + 1, 0, none⟩ = false := by simp only [World.frozen?, t3]; simp
  have yf1 : (((w.alloc (.cells #[.int .i64 t.1, .string t.2.1, .slice A n c] 72)).alloc (.cells #[.int .i64 0, .string ⟨#[]⟩, .slice none 0 0] 54)).alloc (.cells #[.int .i64 t.1, .string t.2.1, .slice none 0 0] 54)).frozen? ⟨w.heap.size + 1 + 1, 1, none⟩ = false := by simp only [World.frozen?, t3]; simp
  have yf2 : (((w.alloc (.cells #[.int .i64 t.1, .string t.2.1, .slice A n c] 72)).alloc (.cells #[.int .i64 0, .string ⟨#[]⟩, .slice none 0 0] 54)).alloc (.cells #[.int .i64 t.1, .string t.2.1, .slice none 0 0] 54)).frozen? ⟨w.heap.size + 1 + 1, 2, none⟩ = false := by simp only [World.frozen?, t3]; simp
  have hl : w.heap.size + 1 + 1 < (((w.alloc (.cells #[.int .i64 t.1, .string t.2.1, .slice A n c] 72)).alloc (.cells #[.int .i64 0, .string ⟨#[]⟩, .slice none 0 0] 54)).alloc (.cells #[.int .i64 t.1, .string t.2.1, .slice none 0 0] 54)).heap.size := by rw [t4]; omega
  clear t1 t2 t3 t4
  have k0 := hide (fun W (h : Below w.heap.size w W) => toIntN_c (h0.below (flat_kept encI) h hhi) hz0 (Nat.le_trans hhi h.size))
  go_enter Tryd.func57, Tryd.ntmps57
  go_wp2_with fail
  generalize (((w.alloc (.cells #[.int .i64 t.1, .string t.2.1, .slice A n c] 72)).alloc (.cells #[.int .i64 0, .string ⟨#[]⟩, .slice none 0 0] 54)).alloc (.cells #[.int .i64 t.1, .string t.2.1, .slice none 0 0] 54)) = v0 at *
  refine (k0.out _ hB).mono ?_
  rintro e u0 ⟨Ar, nr, cr, rfl, g0, hb0⟩
  have hB := hB.trans (hb0.mono hB.size)
  have hzhb0 := hb0.size
  have z0 := keepc hb0 z0
  have zf0 := keepf hb0 (by omega) zf0
  have z1 := keepc hb0 z1
  have zf1 := keepf hb0 (by omega) zf1
  have z2 := keepc hb0 z2
  have zf2 := keepf hb0 (by omega) zf2
  have y0 := keepc hb0 y0
  have yf0 := keepf hb0 (by omega) yf0
  have y1 := keepc hb0 y1
  have yf1 := keepf hb0 (by omega) yf1
  have y2 := keepc hb0 y2
  have yf2 := keepf hb0 (by omega) yf2
  have hl := Nat.lt_of_lt_of_le hl hb0.size
  go_wp2
  refine bodyPost_ret (v := .agg #[.int .i64 t.1, .string t.2.1, .slice Ar nr cr]) (by simp [results, Tryd.results57, go_sem, y0, y1, y2, z0, z1, z2]) rfl ⟨Ar, nr, cr, rfl, ?_, ?_⟩
  rotate_left
  · repeat (first | (with_reducible exact hB) | (with_reducible refine Below.drew ?_) | ((with_reducible refine Below.setCell ?_ ?_ _); rotate_left; (focus (first | (simp; done) | (simp; omega)))))
  · generalize hwf : (World.setCell _ _ _) = wf
    have hA : Above (w.heap.size + 1 + 1 + 1) u0 wf := by
      rw [← hwf]
      repeat (first | (with_reducible exact Above.refl _ _) | (with_reducible refine Above.drew ?_) | ((with_reducible refine Above.setCell ?_ ?_ _); rotate_left; (focus (first | (simp; done) | (simp; omega)))))
    have hws : wf.heap.size = u0.heap.size := by rw [← hwf]; simp
    clear hwf
    have g0 := g0.above hA (by omega)
    exact ⟨_, _, _, rfl, g0.mono (by omega) (by omega), hg⟩

theorem infoPiece : (Tryd.prog.info? 54).map (fun i => (i.zero, i.size, i.bytes)) = some (some (.agg #[.int .i64 0, .string ⟨#[]⟩, .slice none 0 0]), 3, 48) := by kernel_rfl
set_option maxHeartbeats 1000000 in
theorem toPieceS_c {A : Option Addr} {n c lo hi : Nat} {ts : List PieceT} {w : World} (hs : RdN 3 pieceR w lo hi A n c ts) (hb : szPieces ts ≤ 1048576) (hhi : hi ≤ w.heap.size) :
    Calls Tryd.prog 31 #[.slice A n c] w fun e w' => ∃ (A' : Option Addr) (n' c' : Nat), e = .returned (.slice A' n' c') ∧ FrP w' w.heap.size w'.heap.size A' n' c' ts ∧ Below w.heap.size w w' := by
  have hn' := hide hs.len
  have hbs := hide hb
  have hbn : n ≤ 1048576 := by rw [hs.len]; have h1 := hb; unfold szPieces at h1; omega
  have hmk := fun W => run_make_n (P := Tryd.prog) 47 54 (info_parts infoPiece).choose _ Tryd.underlying47 (info_parts infoPiece).choose_spec.1 (info_parts infoPiece).choose_spec.2.1 .i64 .i64 n (by rw [(info_parts infoPiece).choose_spec.2.2.2]; omega) (by omega) W
  rw [(info_parts infoPiece).choose_spec.2.2.1] at hmk
  obtain ⟨zx, hzx⟩ : ∃ zx : Cs 3, zx.val = [.int .i64 0, .string ⟨#[]⟩, .slice none 0 0] := ⟨⟨[.int .i64 0, .string ⟨#[]⟩, .slice none 0 0], rfl, by intro u hu; simp at hu; (rcases hu with rfl | rfl | rfl <;> rfl)⟩, rfl⟩
  have hown : Own Cs.val 3 tP (w.alloc (.cells (madeCells (Value.agg #[.int .i64 0, .string ⟨#[]⟩, .slice none 0 0]).cells (n * 3)) 54)) w.heap.size (.slice (some ⟨w.heap.size, 0, none⟩) n n) (List.replicate n zx) :=
    own_madeC (by omega) _ w _ n zx (Value.agg #[.int .i64 0, .string ⟨#[]⟩, .slice none 0 0]) hzx.symm (Nat.le_refl _) (by unfold maxLen; omega)
  have hbel : Below w.heap.size w (w.alloc (.cells (madeCells (Value.agg #[.int .i64 0, .string ⟨#[]⟩, .slice none 0 0]).cells (n * 3)) 54)) := (Below.refl _ _).alloc (Nat.le_refl _) _
  have hw1 : w.heap.size + 1 = (w.alloc (.cells (madeCells (Value.agg #[.int .i64 0, .string ⟨#[]⟩, .slice none 0 0]).cells (n * 3)) 54)).heap.size := by simp
  go_enter Tryd.func31, Tryd.ntmps31
  go_wp2
  go_loopw [4] (fun i wr => ∃ (k : Nat) (ls : List (Cs 3)), k ≤ n ∧ i = .int .i64 k ∧ Hid (ls.length = k) ∧ Own Cs.val 3 tP wr w.heap.size (.slice (some ⟨w.heap.size, 0, none⟩) n n) (ls ++ List.replicate (n - k) zx) ∧ FL pieceF wr (w.heap.size + 1) wr.heap.size ls (ts.take k) ∧ Below w.heap.size w wr) (fun i _ => n - (intOf i).toNat)
  case atStart => exact ⟨0, [], Nat.zero_le _, rfl, rfl, by rw [List.nil_append, Nat.sub_zero]; exact hown, by rw [List.take_zero]; exact Nat.le_of_eq hw1, hbel⟩
  case round =>
    obtain ⟨k, ls, hk, rfl, hls, ho, hfl, hbr⟩ := hrel
    have hzr := hbr.size
    by_cases hlt : k < n
    · have hlx : k < ts.length := by have := hn'.out; omega
      obtain ⟨b, off, rfl, hlo, hbh⟩ := hs.addr hlx
      obtain ⟨A1, n1, c1, a0, a1, a2, r0, pg0⟩ := (hs.below piece_kept hbr hhi).piece hlx
      have hzk : Hid (szPiece ts[k] ≤ 1048576) := hide (by have h1 := sum_at szPiece ts k hlx; have h2 := hbs.out; unfold szPieces at h2; omega)
      have hgl := (ho.addrAt hlt)
      have hgs : w.heap.size < wr.heap.size := by obtain ⟨g, hg, _, h3⟩ := hgl; injection hg with hg; injection hg with hg; omega
      clear hgl
      go_wp2_with fail
      refine (toPiece_c ts[k] A1 n1 c1 lo hi wr r0 (by omega) (by have := hzk.out; unfold szPiece at this; omega) pg0).mono ?_
      rintro e w1 ⟨Ar, nr, cr, rfl, hF, hb1⟩
      have hz1 := hb1.size
      have ho1 := ho.below hb1 (Nat.le_refl _)
      obtain ⟨p0, q0⟩ := ho1.cellAt0 Cs.len hlt (by omega)
      have f0 := ho1.frozen (k * 3)
      obtain ⟨p1, q1⟩ := ho1.cellAt Cs.len hlt 1 (by omega)
      have f1 := ho1.frozen (k * 3 + 1)
      obtain ⟨p2, q2⟩ := ho1.cellAt Cs.len hlt 2 (by omega)
      have f2 := ho1.frozen (k * 3 + 2)
      obtain ⟨x1, hx1⟩ : ∃ x1 : Cs 3, x1.val = [.int .i64 ts[k].1, .string ts[k].2.1, .slice Ar nr cr] := ⟨⟨[.int .i64 ts[k].1, .string ts[k].2.1, .slice Ar nr cr], rfl, by intro u hu; simp at hu; (rcases hu with rfl | rfl | rfl <;> rfl)⟩, rfl⟩
      have hput := ho1.put_ Cs.len hlt x1
      rw [set_at_len ls zx x1 k n hls.out hlt, hx1] at hput
      have hfl1 := (hfl.keep pieceF_kept (fun b _ hb => hb1.block b hb)).snoc (c := x1) (t := ts[k]) pieceF_kept hz1 (by rw [hx1]; exact hF)
      rw [← List.take_succ_eq_append_getElem hlx] at hfl1
      have hBz := hbr.trans (hb1.mono hzr)
      have hput' := hide hput
      have hfl' := hide hfl1
      clear hput hfl1 hF ho hfl
      go_wp2
      go_roundw
      case rel =>
        refine ⟨k + 1, ls ++ [x1], by omega, by go_num, hide (by rw [List.length_append, hls.out]; rfl), hput'.out, ?_, (((hBz).setCell (by simp) _).setCell (by simp) _).setCell (by simp) _⟩
        have hA : Above (w.heap.size + 1) w1 (putCells w1 w.heap.size (k * 3) [.int .i64 ts[k].1, .string ts[k].2.1, .slice Ar nr cr]) := Above.put (by omega) _ (Above.refl _ _)
        have h7 := (hfl'.out.above pieceF_kept hA (Nat.le_refl _)).hi_mono (Nat.le_of_eq (size_putCells [.int .i64 ts[k].1, .string ts[k].2.1, .slice Ar nr cr] w1 w.heap.size (k * 3)).symm)
        exact h7
      case measure => simp [intOf]; omega
    · obtain rfl : k = n := by omega
      go_wp2
      go_ret
      rw [Nat.sub_self, List.replicate_zero, List.append_nil] at ho
      rw [List.take_of_length_le (by rw [hn'.out]; omega)] at hfl
      have hgs : w.heap.size < wr.heap.size := by have := hfl.le; omega
      exact ⟨_, _, _, rfl, ⟨w.heap.size, ls, rfl, Nat.le_refl _, hgs, ho, hfl⟩, hbr⟩

section
variable {H : Type} {enc : TypeId × Value → H} {w : World} {base : Nat} {spare : Nat → Bool} {held : Bool}
set_option maxRecDepth 100000 in
theorem open_Piece {fuel : Nat} {cs : List Value} {y : DataW H × List MemPlace} (h : DataW.trod enc Tryd.prog w base spare held fuel 72 cs = some y) : cs.length = 3 ∧ ∃ t : PieceT, pieceR w 0 w.heap.size cs t := by
  obtain ⟨hl, hf⟩ := trod_fields Tryd.underlying72 h
  rw [show Tryd.prog.cellsOf 72 = 3 by kernel_rfl] at hl
  have c0 : Tryd.prog.cellsOf 3 = 1 := by kernel_rfl
  have c1 : Tryd.prog.cellsOf 9 = 1 := by kernel_rfl
  have c2 : Tryd.prog.cellsOf 22 = 1 := by kernel_rfl
  obtain ⟨n0, y0, h0⟩ := hf 0 _ rfl
  change DataW.trod enc Tryd.prog w base spare held n0 3 ((cs.drop 0).take (Tryd.prog.cellsOf 3)) = _ at h0
  rw [c0] at h0
  obtain ⟨a0, e0, _, g0⟩ := DataW.trod_int Tryd.underlying3 h0
  obtain ⟨n1, y1, h1⟩ := hf 1 _ rfl
  change DataW.trod enc Tryd.prog w base spare held n1 9 ((cs.drop 1).take (Tryd.prog.cellsOf 9)) = _ at h1
  rw [c1] at h1
  obtain ⟨a1, e1, _, g1⟩ := DataW.trod_string Tryd.underlying9 h1
  obtain ⟨n2, y2, h2⟩ := hf 2 _ rfl
  change DataW.trod enc Tryd.prog w base spare held n2 22 ((cs.drop 2).take (Tryd.prog.cellsOf 22)) = _ at h2
  rw [c2] at h2
  obtain ⟨v2, e2⟩ := one_of_take (k := 2) hl (by omega)
  rw [e2] at h2
  obtain ⟨A2, m2, c2', a2, rfl, hn2, hc2, hm2, r2, g2⟩ := trod_sl (encA := encI) (sz := 1) (Good := I64) Tryd.underlying22 (by kernel_rfl) (by omega) encI_len h2 (fun n cs y hy => (by obtain ⟨k, h1, _, h2⟩ := DataW.trod_int Tryd.underlying3 hy; exact ⟨k, h1, i64_wf h2⟩))
  have hcs : cs = (cs.drop 0).take 1 ++ (cs.drop 1).take 1 ++ (cs.drop 2).take 1 := by
    match cs, hl with
    | [v0, v1, v2], _ => rfl
  rw [e0, e1, e2] at hcs
  exact ⟨hl, (a0, a1, a2), A2, m2, c2', hcs, r2.rdn encI_len hn2 hc2 hm2, i64_wf g0, g1, g2⟩
end
end Go.Proofs.YtjhgcppjpolamaaDoor
