/-
  'PieceTake' in both packages. (Printed by gen_pyc.py.)
  Conditions: the program's reads the library's table of powers of ten ('Tab').
-/
import Derived.Test.YtjhgcppjpolamaaDoorPYb
import Derived.Test.YtjhgcppjpolamaaDoorPXf
import Derived.Test.YtjhgcppjpolamaaDoorPG
import Derived.Test.YtjhgcppjpolamaaDoorDR
import Derived.Test.YtjhgcppjpolamaaDoorRegG
namespace Go.Proofs.YtjhgcppjpolamaaDoor
open Go.RowKit Rg
set_option linter.unusedVariables false
set_option linter.unusedSimpArgs false

def txts (ts : List PieceT) : List ByteArray := ts.map (fun t => t.2.1)
def takeOk (root many : Int) (ts : List PieceT) : Prop := inB many 1 16 = true ∧ (ts.length : Int) = many ∧ ∀ (i : Nat) (h : i < ts.length), ts[i].1 = (i : Int) ∧ chkR root many (i : Int) ts[i].2.1 ts[i].2.2 = true
open Classical in
/-- What 'PieceTake' answers. -/
noncomputable def takeR (root many : Int) (ts : List PieceT) : ByteArray × Bool := if takeOk root many ts then joinR (txts ts) else (⟨#[]⟩, false)
theorem takeR_no {root many : Int} {ts : List PieceT} (h : ¬ takeOk root many ts) : takeR root many ts = (⟨#[]⟩, false) := by unfold takeR; rw [if_neg h]
theorem takeR_yes {root many : Int} {ts : List PieceT} (h : takeOk root many ts) : takeR root many ts = joinR (txts ts) := by unfold takeR; rw [if_pos h]
theorem txts_take (ts : List PieceT) (k : Nat) (h : k < ts.length) : txts (ts.take (k + 1)) = txts (ts.take k) ++ [ts[k].2.1] := by
  unfold txts
  rw [List.take_succ_eq_append_getElem h, List.map_append]
  rfl
theorem txts_len (ts : List PieceT) : (txts ts).length = ts.length := by simp [txts]
theorem txts_sum : ∀ (ts : List PieceT), sumS (txts ts) ≤ (ts.map szPiece).sum
  | [] => by simp [txts, sumS]
  | t :: ts => by
    have := txts_sum ts
    simp only [txts, List.map_cons, sumS, List.sum_cons, szPiece] at this ⊢
    omega
theorem sumS_get (xs : List ByteArray) (k : Nat) (h : k < xs.length) : xs[k].size ≤ sumS xs := by
  have h1 := sumS_take xs k h
  have h2 := sumS_le xs (k + 1)
  omega
set_option maxRecDepth 100000 in
set_option maxHeartbeats 2000000 in
theorem PieceTake_c (root many : Int) (A : Option Addr) (n c lo hi : Nat) (ts : List PieceT) (w : World) (hs : RdN 3 pieceR w lo hi A n c ts) (hhi : hi ≤ w.heap.size) (hb : szPieces ts ≤ 1048576) (ht : Tab w) :
    Calls Tryd.prog 32 #[.int .i64 root, .int .i64 many, .slice A n c] w fun e w' => e = .returned (.tuple #[.string (takeR root many ts).1, .bool (takeR root many ts).2]) ∧ Below w.heap.size w w' := by
  have hn' := hide hs.len
  have hcap := hs.cap
  have hmax := hs.max
  unfold maxLen at hmax
  have hn16 : n ≤ 1048576 := by have := hs.len; unfold szPieces at hb; omega
  have hb' := hide hb
  have hBz : Below w.heap.size w w := Below.refl _ _
  cases e1 : inB many 1 16
  · have hno := hide (takeR_no (root := root) (many := many) (ts := ts) (fun h => by have := h.1; rw [e1] at this; cases this))
    go_enter Tryd.func32, Tryd.ntmps32
    go_wp2_with (go_at_call 39; refine (in_c _ _ _ _).mono ?_; rintro e _ ⟨rfl, rfl⟩)
    exact bodyPost_ret (v := .tuple #[.string ⟨#[]⟩, .bool false]) (by simp [results, Tryd.results32, go_sem]) rfl ⟨by rw [hno.out], hBz⟩
  · have hm : 1 ≤ many ∧ many ≤ 16 := by simpa [inB] using e1
    by_cases hnm : (n : Int) = many
    case neg =>
      have d1 : ((n : Int) != many) = true := by simpa using hnm
      have hno := hide (takeR_no (root := root) (many := many) (ts := ts) (fun h => hnm (by have := h.2.1; rw [hn'.out]; exact this)))
      go_enter Tryd.func32, Tryd.ntmps32
      go_wp2_with (go_at_call 39; refine (in_c _ _ _ _).mono ?_; rintro e _ ⟨rfl, rfl⟩)
      exact bodyPost_ret (v := .tuple #[.string ⟨#[]⟩, .bool false]) (by simp [results, Tryd.results32, go_sem]) rfl ⟨by rw [hno.out], hBz⟩
    case pos =>
      subst hnm
      have d1 : ((n : Int) != (n : Int)) = false := by simp
      go_enter Tryd.func32, Tryd.ntmps32
      go_wp2_with (go_at_call 39; refine (in_c _ _ _ _).mono ?_; rintro e _ ⟨rfl, rfl⟩)
      go_loopw [8, 22] (fun tv iv wr => ∃ (k : Nat) (v : Value), k ≤ n ∧ iv = .int .i64 (k : Int) ∧ tv = v ∧ Own encS 1 9 wr w.heap.size v (txts (ts.take k)) ∧ Hid (∀ (i : Nat) (h : i < ts.length), i < k → ts[i].1 = (i : Int) ∧ chkR root (n : Int) (i : Int) ts[i].2.1 ts[i].2.2 = true) ∧ Below w.heap.size w wr) (fun _ iv _ => n - (intOf iv).toNat)
      case atStart => exact ⟨0, _, Nat.zero_le _, rfl, rfl, by rw [List.take_zero]; exact Own.nil_ _ _ _ _ _, hide (fun i h h2 => absurd h2 (by omega)), Below.refl _ _⟩
      case round =>
        obtain ⟨k, v, hk, rfl, rfl, ho, hgo, hbr⟩ := hrel
        have htr := ht.below hbr
        have hzr := hbr.size
        by_cases hlt : k < n
        · have hlx : k < ts.length := by have := hn'.out; omega
          obtain ⟨b, off, rfl, hlo, hbh⟩ := hs.addr hlx
          obtain ⟨A1, n1, c1, a0, a1, a2, r0, pg0⟩ := (hs.below piece_kept hbr hhi).piece hlx
          have hA := (Below.refl wr.heap.size wr).alloc (Nat.le_refl _) (.cells #[.int .i64 ts[k].1, .string ts[k].2.1, .slice A1 n1 c1] tP)
          have hsum := hide (sum_at szPiece ts k hlx)
          have hl1 : n1 ≤ 1048576 := by have h1 := r0.len; have h2 := hsum.out; have h3 := hb'.out; have h4 : szPiece ts[k] = ts[k].2.1.size + ts[k].2.2.length := rfl; unfold szPieces at h3; omega
          have x1 : (wr.alloc (.cells #[.int .i64 ts[k].1, .string ts[k].2.1, .slice A1 n1 c1] tP)).cell? ⟨wr.heap.size, 1, none⟩ = some (.string ts[k].2.1) := by simp
          have hxl : wr.heap.size < (wr.alloc (.cells #[.int .i64 ts[k].1, .string ts[k].2.1, .slice A1 n1 c1] tP)).heap.size := by simp
          have hcall := hide (PieceCheck_c root (n : Int) (k : Int) ts[k].2.1 A1 n1 c1 lo hi ts[k].2.2 _ r0.len r0.cap r0.max hl1 (r0.sl.below hA (Nat.le_trans hhi hzr)) (Nat.le_trans (Nat.le_trans hhi hzr) hA.size) pg0.2.2 (htr.below hA))
          have hbA : Below w.heap.size w (wr.alloc (.cells #[.int .i64 ts[k].1, .string ts[k].2.1, .slice A1 n1 c1] tP)) := hbr.trans (hA.mono hzr)
          have hoA := ho.below hA (Nat.le_refl _)
          have htA := htr.below hA
          have hxs := hide (txts_take ts k hlx)
          have hxn := hide (txts_len (ts.take k))
          have hxk : (ts.take k).length = k := by simp; omega
          cases e2 : (ts[k].1 != (k : Int))
          · have heq : Hid (ts[k].1 = (k : Int)) := hide (by simpa using e2)
            cases e3 : chkR root (n : Int) (k : Int) ts[k].2.1 ts[k].2.2
            · have hno := hide (takeR_no (root := root) (many := (n : Int)) (ts := ts) (fun h => by have := (h.2.2 k hlx).2; rw [e3] at this; cases this))
              go_wp2_with fail
              refine hcall.out.mono ?_
              rintro e w1 ⟨rfl, hb1⟩
              rw [e3]
              go_wp2
              exact bodyPost_ret (v := .tuple #[.string ⟨#[]⟩, .bool false]) (by simp [results, Tryd.results32, go_sem]) rfl ⟨by rw [hno.out], hbA.trans (hb1.mono hbA.size)⟩
            · have hyes := hide e3
              go_wp2_with fail
              generalize wr.alloc (.cells #[.int .i64 ts[k].1, .string ts[k].2.1, .slice A1 n1 c1] tP) = wv at *
              refine hcall.out.mono ?_
              rintro e w1 ⟨rfl, hb1⟩
              rw [e3]
              have x1 := keepc hb1 x1
              have hbB := hbA.trans (hb1.mono hbA.size)
              have hoB := hoA.below hb1 (Nat.le_refl _)
              have htB := htA.below hb1
              have hxl := Nat.lt_of_lt_of_le hxl hb1.size
              go_wp2_with (at_builtin; refine wpList_app encS_len (by omega) encS_one rfl _ _ 30 rfl 9 _ 16 Tryd.underlying30 infoS rfl w.heap.size _ (txts (ts.take k)) rfl (hoB.alloc _) 0 _ _ [ts[k].2.1] _ _ rfl rfl (sl_arr encS_len w1 #[.string ts[k].2.1] 9 [ts[k].2.1] rfl |>.mono (Nat.zero_le _) (Nat.le_refl _)) ?h2 ?h3 ?_)
              case h2 => have := hxn.out; simp [maxLen]; omega
              case h3 => have := hbB.size; simp; omega
              intro v3 w3 ho4 hg3 hb3
              have hb3' : Below w.heap.size w1 w3 := ((Below.refl w1.heap.size w1).alloc (Nat.le_refl _) _ |>.mono hbB.size).trans hb3
              rw [← hxs.out] at ho4
              go_wp2
              go_roundw
              case rel => exact ⟨k + 1, v3, by omega, by go_num, rfl, ho4, hide (fun i h h2 => by
                by_cases h9 : i < k
                · exact hgo.out i h h9
                · obtain rfl : i = k := by omega
                  exact ⟨heq.out, hyes.out⟩), hbB.trans hb3'⟩
              case measure => simp [intOf]; omega
          · have hno := hide (takeR_no (root := root) (many := (n : Int)) (ts := ts) (fun h => by have := (h.2.2 k hlx).1; rw [this] at e2; simp at e2))
            go_wp2
            exact bodyPost_ret (v := .tuple #[.string ⟨#[]⟩, .bool false]) (by simp [results, Tryd.results32, go_sem]) rfl ⟨by rw [hno.out], hbA⟩
        · obtain rfl : k = n := by omega
          have hfull : Hid (txts (ts.take k) = txts ts) := hide (by rw [List.take_of_length_le (by rw [hn'.out]; omega)])
          rw [hfull.out] at ho
          have hyes := hide (takeR_yes (root := root) (many := (k : Int)) (ts := ts) ⟨e1, by rw [hn'.out], fun i h => hgo.out i h (by have := hn'.out; omega)⟩)
          obtain ⟨A', n', c', rfl, hn2⟩ := ho.shape
          have hcap' := ho.cap
          have hsl := (ho.slAt encS_len).2.2
          have hbnd : n' + sumS (txts ts) ≤ 1048576 := by have h1 := hn2.out; have h2 := txts_len ts; have h3 := txts_sum ts; have h4 := hb'.out; unfold szPieces at h4; omega
          go_wp2_with fail
          refine (PieceJoin_c A' n' c' w.heap.size wr.heap.size (txts ts) wr hn2.out hbnd hcap'.1 hsl (Nat.le_refl _)).mono ?_
          rintro e w4 ⟨rfl, hb4⟩
          go_wp2
          exact bodyPost_ret (v := .tuple #[.string (joinR (txts ts)).1, .bool (joinR (txts ts)).2]) (by simp [results, Tryd.results32, go_sem]) rfl ⟨by rw [hyes.out], hbr.trans (hb4.mono hzr)⟩
set_option maxRecDepth 100000 in
set_option maxHeartbeats 2000000 in
theorem specPieceTake_c (root many : Int) (A : Option Addr) (n c lo hi : Nat) (ts : List PieceT) (w : World) (hs : RdN 3 pieceR w lo hi A n c ts) (hhi : hi ≤ w.heap.size) (hb : szPieces ts ≤ 1048576) :
    Calls Tryd.prog 30 #[.int .i64 root, .int .i64 many, .slice A n c] w fun e w' => e = .returned (.tuple #[.string (takeR root many ts).1, .bool (takeR root many ts).2]) ∧ Below w.heap.size w w' := by
  have hn' := hide hs.len
  have hcap := hs.cap
  have hmax := hs.max
  unfold maxLen at hmax
  have hn16 : n ≤ 1048576 := by have := hs.len; unfold szPieces at hb; omega
  have hb' := hide hb
  have hBz : Below w.heap.size w (w.alloc (.cells #[] 9)) := (Below.refl _ _).alloc (Nat.le_refl _) _
  have hoz := own_empty encS 1 9 w
  cases e1 : inB many 1 16
  · have hno := hide (takeR_no (root := root) (many := many) (ts := ts) (fun h => by have := h.1; rw [e1] at this; cases this))
    go_enter Tryd.func30, Tryd.ntmps30
    go_wp2_with (go_at_call 37; refine (l1In_c _ _ _ _).mono ?_; rintro e _ ⟨rfl, rfl⟩)
    exact bodyPost_ret (v := .tuple #[.string ⟨#[]⟩, .bool false]) (by simp [results, Tryd.results30, go_sem]) rfl ⟨by rw [hno.out], hBz⟩
  · have hm : 1 ≤ many ∧ many ≤ 16 := by simpa [inB] using e1
    by_cases hnm : (n : Int) = many
    case neg =>
      have d1 : ((n : Int) != many) = true := by simpa using hnm
      have hno := hide (takeR_no (root := root) (many := many) (ts := ts) (fun h => hnm (by have := h.2.1; rw [hn'.out]; exact this)))
      go_enter Tryd.func30, Tryd.ntmps30
      go_wp2_with (go_at_call 37; refine (l1In_c _ _ _ _).mono ?_; rintro e _ ⟨rfl, rfl⟩)
      exact bodyPost_ret (v := .tuple #[.string ⟨#[]⟩, .bool false]) (by simp [results, Tryd.results30, go_sem]) rfl ⟨by rw [hno.out], hBz⟩
    case pos =>
      subst hnm
      have d1 : ((n : Int) != (n : Int)) = false := by simp
      go_enter Tryd.func30, Tryd.ntmps30
      go_wp2_with (go_at_call 37; refine (l1In_c _ _ _ _).mono ?_; rintro e _ ⟨rfl, rfl⟩)
      go_loopw [8, 9] (fun tv iv wr => ∃ (k : Nat) (v : Value), k ≤ n ∧ iv = .int .i64 (k : Int) ∧ tv = v ∧ Own encS 1 9 wr w.heap.size v (txts (ts.take k)) ∧ Hid (∀ (i : Nat) (h : i < ts.length), i < k → ts[i].1 = (i : Int) ∧ chkR root (n : Int) (i : Int) ts[i].2.1 ts[i].2.2 = true) ∧ Below w.heap.size w wr) (fun _ iv _ => n - (intOf iv).toNat)
      case atStart => exact ⟨0, _, Nat.zero_le _, rfl, rfl, by rw [List.take_zero]; exact hoz, hide (fun i h h2 => absurd h2 (by omega)), hBz⟩
      case round =>
        obtain ⟨k, v, hk, rfl, rfl, ho, hgo, hbr⟩ := hrel
        have hzr := hbr.size
        by_cases hlt : k < n
        · have hlx : k < ts.length := by have := hn'.out; omega
          obtain ⟨b, off, rfl, hlo, hbh⟩ := hs.addr hlx
          obtain ⟨A1, n1, c1, a0, a1, a2, r0, pg0⟩ := (hs.below piece_kept hbr hhi).piece hlx
          have hsum := hide (sum_at szPiece ts k hlx)
          have hl1 : n1 ≤ 1048576 := by have h1 := r0.len; have h2 := hsum.out; have h3 := hb'.out; have h4 : szPiece ts[k] = ts[k].2.1.size + ts[k].2.2.length := rfl; unfold szPieces at h3; omega
          have hcall := hide (fun W (h : Below wr.heap.size wr W) => specPieceCheck_c root (n : Int) (k : Int) ts[k].2.1 A1 n1 c1 lo hi ts[k].2.2 W r0.len r0.cap r0.max hl1 (r0.sl.below h (Nat.le_trans hhi hzr)) (Nat.le_trans (Nat.le_trans hhi hzr) h.size) pg0.2.2)
          have hxs := hide (txts_take ts k hlx)
          have hxn := hide (txts_len (ts.take k))
          have hxk : (ts.take k).length = k := by simp; omega
          have hbl : b < wr.heap.size := by omega
          have hD := (Below.refl wr.heap.size wr).drew
          have hS : Since wr wr.drew := Since.drew _
          cases e2 : (ts[k].1 != (k : Int))
          · have heq : Hid (ts[k].1 = (k : Int)) := hide (by simpa using e2)
            cases e3 : chkR root (n : Int) (k : Int) ts[k].2.1 ts[k].2.2
            · have hno := hide (takeR_no (root := root) (many := (n : Int)) (ts := ts) (fun h => by have := (h.2.2 k hlx).2; rw [e3] at this; cases this))
              go_wp2
              refine wp_region_T (fun _ => True) [] [] [] [0, 1, 2, 3, 4, 5, 6, 7, 8, 9, 10, 11, 12, 13, 14, 15, 16, 17, 18, 19, 20, 21, 22, 23] (by kernel_rfl) (by kernel_rfl) (by kernel_rfl) trivial ?_; simp only [pickL, List.getElem?_cons_succ, List.getElem?_cons_zero]
              go_wp2_with (first
                | (go_at_call 11; refine (hcall.out _ hD).mono ?_; rintro e w1 ⟨rfl, hb1⟩; rw [e3])
                | ((with_reducible refine wpT_q0 ?_ ?_ ?_ ?_); (focus rfl); (focus rfl); (focus rfl); intro K hK) | ((with_reducible refine wpT_x0 ?_ ?_ ?_); (focus rfl); (focus rfl); intro K hK) | ((with_reducible refine wpT_noL ?_ ?_); (focus (first | exact wanted_no _ _ _ rfl rfl rfl | exact wanted_un _ _ _ rfl rfl rfl)); simp only [setO, List.set_cons_succ, List.set_cons_zero]) | ((with_reducible refine wpT_q1 ?_ ?_ ?_ ?_); (focus exact wanted_yes _ _ _ rfl rfl rfl); (focus rfl); (focus rfl); intro K hK) | ((with_reducible refine wpT_x1 ?_ ?_ ?_); (focus exact wanted_yes _ _ _ rfl rfl rfl); (focus rfl); intro K hK) | ((with_reducible refine wpT_nil ?_); try dsimp only)
                | fail)
              exact bodyPost_ret (v := .tuple #[.string ⟨#[]⟩, .bool false]) (by simp [results, Tryd.results30, go_sem]) rfl ⟨by rw [hno.out], hbr.trans ((hD.trans hb1).mono hzr)⟩
            · have hyes := hide e3
              go_wp2
              refine wp_region_T (fun _ => True) [] [] [] [0, 1, 2, 3, 4, 5, 6, 7, 8, 9, 10, 11, 12, 13, 14, 15, 16, 17, 18, 19, 20, 21, 22, 23] (by kernel_rfl) (by kernel_rfl) (by kernel_rfl) trivial ?_; simp only [pickL, List.getElem?_cons_succ, List.getElem?_cons_zero]
              go_wp2_with (first
                | (go_at_call 11; refine (hcall.out _ hD).mono ?_; rintro e w1 ⟨rfl, hb1⟩; rw [e3]; have hb1' := hD.trans hb1; have a1 := keepc hb1' a1; have hbB := hbr.trans (hb1'.mono hzr); have hoB := ho.below hb1' (Nat.le_refl _); have hbl := Nat.lt_of_lt_of_le hbl hb1'.size)
                | ((with_reducible refine wpT_q0 ?_ ?_ ?_ ?_); (focus rfl); (focus rfl); (focus rfl); intro K hK) | ((with_reducible refine wpT_x0 ?_ ?_ ?_); (focus rfl); (focus rfl); intro K hK) | ((with_reducible refine wpT_noL ?_ ?_); (focus (first | exact wanted_no _ _ _ rfl rfl rfl | exact wanted_un _ _ _ rfl rfl rfl)); simp only [setO, List.set_cons_succ, List.set_cons_zero]) | ((with_reducible refine wpT_q1 ?_ ?_ ?_ ?_); (focus exact wanted_yes _ _ _ rfl rfl rfl); (focus rfl); (focus rfl); intro K hK) | ((with_reducible refine wpT_x1 ?_ ?_ ?_); (focus exact wanted_yes _ _ _ rfl rfl rfl); (focus rfl); intro K hK) | ((with_reducible refine wpT_nil ?_); try dsimp only)
                | (at_builtin; refine wpList_app encS_len (by omega) encS_one rfl _ _ 30 rfl 9 _ 16 Tryd.underlying30 infoS rfl w.heap.size _ (txts (ts.take k)) rfl (hoB.alloc _) 0 _ _ [ts[k].2.1] _ _ rfl rfl (sl_arr encS_len w1 #[.string ts[k].2.1] 9 [ts[k].2.1] rfl |>.mono (Nat.zero_le _) (Nat.le_refl _)) ?h2 ?h3 ?_)
                | fail)
              case h2 => have := hxn.out; simp [maxLen]; omega
              case h3 => have := hbB.size; simp; omega
              intro v3 w3 ho4 hg3 hb3
              have hb3' : Below w.heap.size w1 w3 := ((Below.refl w1.heap.size w1).alloc (Nat.le_refl _) _ |>.mono hbB.size).trans hb3
              rw [← hxs.out] at ho4
              go_wp2
              go_roundw
              case rel => exact ⟨k + 1, v3, by omega, by go_num, rfl, ho4, hide (fun i h h2 => by
                by_cases h9 : i < k
                · exact hgo.out i h h9
                · obtain rfl : i = k := by omega
                  exact ⟨heq.out, hyes.out⟩), hbB.trans hb3'⟩
              case measure => simp [intOf]; omega
          · have hno := hide (takeR_no (root := root) (many := (n : Int)) (ts := ts) (fun h => by have := (h.2.2 k hlx).1; rw [this] at e2; simp at e2))
            go_wp2
            refine wp_region_T (fun _ => True) [] [] [] [0, 1, 2, 3, 4, 5, 6, 7, 8, 9, 10, 11, 12, 13, 14, 15, 16, 17, 18, 19, 20, 21, 22, 23] (by kernel_rfl) (by kernel_rfl) (by kernel_rfl) trivial ?_; simp only [pickL, List.getElem?_cons_succ, List.getElem?_cons_zero]
            go_wp2_with (first
              | ((with_reducible refine wpT_q0 ?_ ?_ ?_ ?_); (focus rfl); (focus rfl); (focus rfl); intro K hK) | ((with_reducible refine wpT_x0 ?_ ?_ ?_); (focus rfl); (focus rfl); intro K hK) | ((with_reducible refine wpT_noL ?_ ?_); (focus (first | exact wanted_no _ _ _ rfl rfl rfl | exact wanted_un _ _ _ rfl rfl rfl)); simp only [setO, List.set_cons_succ, List.set_cons_zero]) | ((with_reducible refine wpT_q1 ?_ ?_ ?_ ?_); (focus exact wanted_yes _ _ _ rfl rfl rfl); (focus rfl); (focus rfl); intro K hK) | ((with_reducible refine wpT_x1 ?_ ?_ ?_); (focus exact wanted_yes _ _ _ rfl rfl rfl); (focus rfl); intro K hK) | ((with_reducible refine wpT_nil ?_); try dsimp only)
              | fail)
            exact bodyPost_ret (v := .tuple #[.string ⟨#[]⟩, .bool false]) (by simp [results, Tryd.results30, go_sem]) rfl ⟨by rw [hno.out], hbr.trans (hD.mono hzr)⟩
        · obtain rfl : k = n := by omega
          have hfull : Hid (txts (ts.take k) = txts ts) := hide (by rw [List.take_of_length_le (by rw [hn'.out]; omega)])
          rw [hfull.out] at ho
          have hyes := hide (takeR_yes (root := root) (many := (k : Int)) (ts := ts) ⟨e1, by rw [hn'.out], fun i h => hgo.out i h (by have := hn'.out; omega)⟩)
          obtain ⟨A', n', c', rfl, hn2⟩ := ho.shape
          have hsl := (ho.slAt encS_len).2.2
          have hbnd : n' + sumS (txts ts) ≤ 1048576 := by have h1 := hn2.out; have h2 := txts_len ts; have h3 := txts_sum ts; have h4 := hb'.out; unfold szPieces at h4; omega
          go_wp2_with fail
          refine (specPieceJoin_c A' n' c' w.heap.size wr.heap.size (txts ts) wr hn2.out hbnd hsl (Nat.le_refl _)).mono ?_
          rintro e w4 ⟨rfl, rfl⟩
          go_wp2
          exact bodyPost_ret (v := .tuple #[.string (joinR (txts ts)).1, .bool (joinR (txts ts)).2]) (by simp [results, Tryd.results30, go_sem]) rfl ⟨by rw [hyes.out], hbr⟩
end Go.Proofs.YtjhgcppjpolamaaDoor
