/-
  'FnExactPieceTake': the law.
-/
import Derived.Test.YtjhgcppjpolamaaDoorPYc
namespace Go.Proofs.YtjhgcppjpolamaaDoor
open Go.RowKit Rg
set_option linter.unusedVariables false
set_option linter.unusedSimpArgs false

theorem lens_of {ts : List PieceT} (h : szPieces ts ≤ 1048576) : ∀ t ∈ ts, t.2.2.length ≤ 1048576 := by
  intro t ht
  obtain ⟨i, hi, rfl⟩ := List.mem_iff_getElem.1 ht
  have h1 := sum_at szPiece ts i hi
  have h4 : szPiece ts[i] = ts[i].2.1.size + ts[i].2.2.length := rfl
  unfold szPieces at h
  omega
set_option maxHeartbeats 2000000 in
theorem lawPieceTakeX (root many : Int) (A : Option Addr) (n c : Nat) (ts : List PieceT) (w : World) (hs : RdN 3 pieceR w 0 w.heap.size A n c ts) (ht : Tab w) :
    Calls Tryd.prog 9 #[.int .i64 root, .int .i64 many, .slice A n c] w fun e w' => e = .returned (.bool true) ∧ Below w.heap.size w w' := by
  have ks := hide (szPieceS_c A n c 0 w.heap.size 1048576 w hs (Nat.le_refl _) (by omega))
  by_cases hz : szPieces ts ≤ 1048576
  · have y := hide (szO_yes hz)
    have hz' := hide hz
    have kt := hide (fun (W : World) (h : Below w.heap.size w W) => toPieceS_c (hs.below piece_kept h (Nat.le_refl _)) hz h.size)
    have d1 : decide (((1048576 - szPieces ts : Nat) : Int) < 0) = false := by simp
    have hle := hide (lens_of hz)
    clear hz
    go_enter Tryd.func9, Tryd.ntmps9
    go_wp2_with fail
    refine ks.out.mono ?_
    rintro e w0 ⟨rfl, hb0⟩
    rw [y.out]
    go_wp2_with fail
    refine (kt.out w0 hb0).mono ?_
    rintro e w1 ⟨A1, n1, c1, rfl, f1, hb1⟩
    have hB1 := hb0.trans (hb1.mono hb0.size)
    go_wp2_with fail
    refine (specPieceTake_c root many A1 n1 c1 _ _ ts w1 f1.rd (Nat.le_refl _) hz'.out).mono ?_
    rintro e w2 ⟨rfl, hb2⟩
    have hB2 := hB1.trans (hb2.mono hB1.size)
    clear f1
    go_wp2_with fail
    refine (kt.out w2 hB2).mono ?_
    rintro e w3 ⟨A3, n3, c3, rfl, f3, hb3⟩
    have hB3 := hB2.trans (hb3.mono hB2.size)
    have r3 := hide f3.rd
    go_wp2_with fail
    refine (PieceTake_c root many A3 n3 c3 _ _ ts w3 r3.out (Nat.le_refl _) hz'.out (ht.below hB3)).mono ?_
    rintro e w4 ⟨rfl, hb4⟩
    have hB4 := hB3.trans (hb4.mono hB3.size)
    have r4 := hide (r3.out.below piece_kept hb4 (Nat.le_refl _))
    generalize takeR root many ts = r at *
    obtain ⟨rs, rb⟩ := r
    have q1 : (rs.toList != rs.toList) = false := by simp
    have q2 : (rb != rb) = false := by simp
    go_wp2_with fail
    refine (kt.out w4 hB4).mono ?_
    rintro e w5 ⟨A5, n5, c5, rfl, f5, hb5⟩
    have hB5 := hB4.trans (hb5.mono hB4.size)
    go_wp2_with fail
    refine (eqPieceS_same (r4.out.below piece_kept hb5 hb4.size) f5.rd (Nat.le_trans hb4.size hb5.size) (Nat.le_refl _) hle.out).mono ?_
    rintro e w6 ⟨rfl, hb6⟩
    go_wp2
    go_ret
    exact ⟨rfl, hB5.trans (hb6.mono hB5.size)⟩
  · have y := hide (szO_no (show 1048576 < szPieces ts by omega))
    go_enter Tryd.func9, Tryd.ntmps9
    go_wp2_with fail
    refine ks.out.mono ?_
    rintro e w0 ⟨rfl, hb0⟩
    rw [y.out]
    go_wp2
    go_ret
    exact ⟨rfl, hb0⟩
end Go.Proofs.YtjhgcppjpolamaaDoor
