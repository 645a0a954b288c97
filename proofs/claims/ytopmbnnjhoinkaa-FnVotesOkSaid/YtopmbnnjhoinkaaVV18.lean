/-
  What 'FVd' rests on (texts of this seat put together: NSc).
  Conditions: none.
-/
import Derived.Test.YtopmbnnjhoinkaaVV12
import Derived.Test.YtopmbnnjhoinkaaVV10
namespace Go.Proofs.Ytopmbnnjhoinkaa
open Go.RowKit Rg Go.Maps
set_option linter.unusedVariables false
set_option linter.unusedSimpArgs false
set_option maxHeartbeats 1000000
theorem any_take_succ {α : Type} (p : α → Bool) (ts : List α) (k : Nat) (h : k < ts.length) : (ts.take (k + 1)).any p = ((ts.take k).any p || p ts[k]) := by
  rw [List.take_succ_eq_append_getElem h, List.any_append]; simp
theorem offers_eq {c : ClaimT} {m : MsgT} : offers c m = ((m.2.1 == leadOf c.2.1) && ((m.2.2.1 == c.2.1) && (((m.1 == 2) && ((m.2.2.2.1 == c.1) && decide (m.2.2.2.2.1 = c.2.2))) || ((m.1 == 6) && (decide (c.1 ≤ topOf (clsOf m.2.2.2.2.2.2)) && decide (pickOf (clsOf m.2.2.2.2.2.2) c.1 = c.2.2)))))) := by
  unfold offers
  rw [Bool.eq_iff_iff]
  simp
set_option maxRecDepth 100000 in
set_option maxHeartbeats 3000000 in
theorem l4Offered_c (A : Option Addr) (n c0 lo hi : Nat) (ts : List MsgT) (c : ClaimT) (w : World) (hs : RdN 11 msgR w lo hi A n c0 ts) (hhi : hi ≤ w.heap.size) (hv0 : 0 ≤ c.2.1) (hv1 : c.2.1 ≤ 1000000) :
    Calls Try.prog 50 #[.slice A n c0, .agg #[.int .i64 c.1, .int .i64 c.2.1, .int .i64 c.2.2.1, .int .i64 c.2.2.2.1, .int .i64 c.2.2.2.2.1, .int .i64 c.2.2.2.2.2.1, .int .i64 c.2.2.2.2.2.2]] w fun e w' => e = .returned (.bool (offered ts c)) ∧ Below w.heap.size w w' := by
  have hn' := hide hs.len
  have hc1 := hs.cap
  have hc2 := hs.max
  unfold maxLen at hc2
  have hA := (Below.refl w.heap.size w).alloc (Nat.le_refl _) (.cells #[.int .i64 c.1, .int .i64 c.2.1, .int .i64 c.2.2.1, .int .i64 c.2.2.2.1, .int .i64 c.2.2.2.2.1, .int .i64 c.2.2.2.2.2.1, .int .i64 c.2.2.2.2.2.2] 27)
  have q0 := BxC.made w c
  obtain ⟨y0, y1, y2, y3, y4, y5, y6, yf0, yf1, yf2, yf3, yf4, yf5, yf6⟩ := q0.cells
  go_enter Try.func50, Try.ntmps50
  go_wp2_with fail
  generalize w.alloc (.cells #[.int .i64 c.1, .int .i64 c.2.1, .int .i64 c.2.2.1, .int .i64 c.2.2.2.1, .int .i64 c.2.2.2.2.1, .int .i64 c.2.2.2.2.2.1, .int .i64 c.2.2.2.2.2.2] 27) = w0 at *
  refine (l3Leader_c c.2.1 w0 hv0 hv1).mono ?_
  rintro e w1 ⟨rfl, rfl⟩
  have hle : c.2.1 % 4 = leadOf c.2.1 := rfl
  rw [hle]
  have hle' := hide hle
  clear hle y0 y1 y2 y3 y4 y5 y6 yf0 yf1 yf2 yf3 yf4 yf5 yf6
  go_wp2
  go_loopw [6] (fun i wr => ∃ k : Nat, k ≤ n ∧ i = .int .i64 k ∧ Hid ((ts.take k).any (offers c) = false) ∧ BxC wr w.heap.size c ∧ Below w.heap.size w wr) (fun i _ => n - (intOf i).toNat)
  case atStart => exact ⟨0, Nat.zero_le _, rfl, hide rfl, q0, hA⟩
  case round =>
    obtain ⟨k, hk, rfl, hno, q1, hbr⟩ := hrel
    have hl1 := q1.lt
    by_cases hlt : k < n
    · have hlx : k < ts.length := by have := hn'.out; omega
      obtain ⟨b', off, rfl, hlo, hbh⟩ := hs.addr hlx
      obtain ⟨A1, n1, c1, B1, p1, d1, a0, a1, a2, a3, a4, a5, a6, a7, a8, a9, a10, r0, r1⟩ := (hs.below msg_kept hbr hhi).msg hlx
      have hA := (Below.refl wr.heap.size wr).alloc (Nat.le_refl _) (.cells #[.int .i64 ts[k].1, .int .i64 ts[k].2.1, .int .i64 ts[k].2.2.1, .int .i64 ts[k].2.2.2.1, .int .i64 ts[k].2.2.2.2.1.1, .int .i64 ts[k].2.2.2.2.1.2.1, .int .i64 ts[k].2.2.2.2.1.2.2.1, .int .i64 ts[k].2.2.2.2.1.2.2.2.1, .int .i64 ts[k].2.2.2.2.1.2.2.2.2, .slice A1 n1 c1, .slice B1 p1 d1] 34)
      have hBv := hbr.trans (hA.mono hbr.size)
      have hst := hide (any_take_succ (offers c) ts k hlx)
      have hoe : Hid (offers c ts[k] = _) := hide (offers_eq (c := c) (m := ts[k]))
      have q2 := q1.below hA
      obtain ⟨y0, y1, y2, y3, y4, y5, y6, yf0, yf1, yf2, yf3, yf4, yf5, yf6⟩ := q1.cells
      have r1 := r1.below vote_kept hA (Nat.le_trans hhi hbr.size)
      cases e1 : (ts[k].2.1 != leadOf c.2.1)
      · have e1h : Hid ((ts[k].2.1 == leadOf c.2.1) = true) := hide (by simpa using e1)
        cases e2 : (ts[k].2.2.1 != c.2.1)
        · have e2h : Hid ((ts[k].2.2.1 == c.2.1) = true) := hide (by simpa using e2)
          cases e3 : (ts[k].1 == 2)
          · have e3h := hide e3
            cases e6 : (ts[k].1 == 6)
            · have e6h := hide e6
              go_wp2
              have x0 : (wr.alloc (.cells #[.int .i64 ts[k].1, .int .i64 ts[k].2.1, .int .i64 ts[k].2.2.1, .int .i64 ts[k].2.2.2.1, .int .i64 ts[k].2.2.2.2.1.1, .int .i64 ts[k].2.2.2.2.1.2.1, .int .i64 ts[k].2.2.2.2.1.2.2.1, .int .i64 ts[k].2.2.2.2.1.2.2.2.1, .int .i64 ts[k].2.2.2.2.1.2.2.2.2, .slice A1 n1 c1, .slice B1 p1 d1] 34)).cell? ⟨wr.heap.size, 0, none⟩ = some (.int .i64 ts[k].1) := by simp
              have x1 : (wr.alloc (.cells #[.int .i64 ts[k].1, .int .i64 ts[k].2.1, .int .i64 ts[k].2.2.1, .int .i64 ts[k].2.2.2.1, .int .i64 ts[k].2.2.2.2.1.1, .int .i64 ts[k].2.2.2.2.1.2.1, .int .i64 ts[k].2.2.2.2.1.2.2.1, .int .i64 ts[k].2.2.2.2.1.2.2.2.1, .int .i64 ts[k].2.2.2.2.1.2.2.2.2, .slice A1 n1 c1, .slice B1 p1 d1] 34)).cell? ⟨wr.heap.size, 1, none⟩ = some (.int .i64 ts[k].2.1) := by simp
              have x2 : (wr.alloc (.cells #[.int .i64 ts[k].1, .int .i64 ts[k].2.1, .int .i64 ts[k].2.2.1, .int .i64 ts[k].2.2.2.1, .int .i64 ts[k].2.2.2.2.1.1, .int .i64 ts[k].2.2.2.2.1.2.1, .int .i64 ts[k].2.2.2.2.1.2.2.1, .int .i64 ts[k].2.2.2.2.1.2.2.2.1, .int .i64 ts[k].2.2.2.2.1.2.2.2.2, .slice A1 n1 c1, .slice B1 p1 d1] 34)).cell? ⟨wr.heap.size, 2, none⟩ = some (.int .i64 ts[k].2.2.1) := by simp
              have x3 : (wr.alloc (.cells #[.int .i64 ts[k].1, .int .i64 ts[k].2.1, .int .i64 ts[k].2.2.1, .int .i64 ts[k].2.2.2.1, .int .i64 ts[k].2.2.2.2.1.1, .int .i64 ts[k].2.2.2.2.1.2.1, .int .i64 ts[k].2.2.2.2.1.2.2.1, .int .i64 ts[k].2.2.2.2.1.2.2.2.1, .int .i64 ts[k].2.2.2.2.1.2.2.2.2, .slice A1 n1 c1, .slice B1 p1 d1] 34)).cell? ⟨wr.heap.size, 3, none⟩ = some (.int .i64 ts[k].2.2.2.1) := by simp
              have x4 : (wr.alloc (.cells #[.int .i64 ts[k].1, .int .i64 ts[k].2.1, .int .i64 ts[k].2.2.1, .int .i64 ts[k].2.2.2.1, .int .i64 ts[k].2.2.2.2.1.1, .int .i64 ts[k].2.2.2.2.1.2.1, .int .i64 ts[k].2.2.2.2.1.2.2.1, .int .i64 ts[k].2.2.2.2.1.2.2.2.1, .int .i64 ts[k].2.2.2.2.1.2.2.2.2, .slice A1 n1 c1, .slice B1 p1 d1] 34)).cell? ⟨wr.heap.size, 4, none⟩ = some (.int .i64 ts[k].2.2.2.2.1.1) := by simp
              have x5 : (wr.alloc (.cells #[.int .i64 ts[k].1, .int .i64 ts[k].2.1, .int .i64 ts[k].2.2.1, .int .i64 ts[k].2.2.2.1, .int .i64 ts[k].2.2.2.2.1.1, .int .i64 ts[k].2.2.2.2.1.2.1, .int .i64 ts[k].2.2.2.2.1.2.2.1, .int .i64 ts[k].2.2.2.2.1.2.2.2.1, .int .i64 ts[k].2.2.2.2.1.2.2.2.2, .slice A1 n1 c1, .slice B1 p1 d1] 34)).cell? ⟨wr.heap.size, 5, none⟩ = some (.int .i64 ts[k].2.2.2.2.1.2.1) := by simp
              have x6 : (wr.alloc (.cells #[.int .i64 ts[k].1, .int .i64 ts[k].2.1, .int .i64 ts[k].2.2.1, .int .i64 ts[k].2.2.2.1, .int .i64 ts[k].2.2.2.2.1.1, .int .i64 ts[k].2.2.2.2.1.2.1, .int .i64 ts[k].2.2.2.2.1.2.2.1, .int .i64 ts[k].2.2.2.2.1.2.2.2.1, .int .i64 ts[k].2.2.2.2.1.2.2.2.2, .slice A1 n1 c1, .slice B1 p1 d1] 34)).cell? ⟨wr.heap.size, 6, none⟩ = some (.int .i64 ts[k].2.2.2.2.1.2.2.1) := by simp
              have x7 : (wr.alloc (.cells #[.int .i64 ts[k].1, .int .i64 ts[k].2.1, .int .i64 ts[k].2.2.1, .int .i64 ts[k].2.2.2.1, .int .i64 ts[k].2.2.2.2.1.1, .int .i64 ts[k].2.2.2.2.1.2.1, .int .i64 ts[k].2.2.2.2.1.2.2.1, .int .i64 ts[k].2.2.2.2.1.2.2.2.1, .int .i64 ts[k].2.2.2.2.1.2.2.2.2, .slice A1 n1 c1, .slice B1 p1 d1] 34)).cell? ⟨wr.heap.size, 7, none⟩ = some (.int .i64 ts[k].2.2.2.2.1.2.2.2.1) := by simp
              have x8 : (wr.alloc (.cells #[.int .i64 ts[k].1, .int .i64 ts[k].2.1, .int .i64 ts[k].2.2.1, .int .i64 ts[k].2.2.2.1, .int .i64 ts[k].2.2.2.2.1.1, .int .i64 ts[k].2.2.2.2.1.2.1, .int .i64 ts[k].2.2.2.2.1.2.2.1, .int .i64 ts[k].2.2.2.2.1.2.2.2.1, .int .i64 ts[k].2.2.2.2.1.2.2.2.2, .slice A1 n1 c1, .slice B1 p1 d1] 34)).cell? ⟨wr.heap.size, 8, none⟩ = some (.int .i64 ts[k].2.2.2.2.1.2.2.2.2) := by simp
              have x9 : (wr.alloc (.cells #[.int .i64 ts[k].1, .int .i64 ts[k].2.1, .int .i64 ts[k].2.2.1, .int .i64 ts[k].2.2.2.1, .int .i64 ts[k].2.2.2.2.1.1, .int .i64 ts[k].2.2.2.2.1.2.1, .int .i64 ts[k].2.2.2.2.1.2.2.1, .int .i64 ts[k].2.2.2.2.1.2.2.2.1, .int .i64 ts[k].2.2.2.2.1.2.2.2.2, .slice A1 n1 c1, .slice B1 p1 d1] 34)).cell? ⟨wr.heap.size, 9, none⟩ = some (.slice A1 n1 c1) := by simp
              have x10 : (wr.alloc (.cells #[.int .i64 ts[k].1, .int .i64 ts[k].2.1, .int .i64 ts[k].2.2.1, .int .i64 ts[k].2.2.2.1, .int .i64 ts[k].2.2.2.2.1.1, .int .i64 ts[k].2.2.2.2.1.2.1, .int .i64 ts[k].2.2.2.2.1.2.2.1, .int .i64 ts[k].2.2.2.2.1.2.2.2.1, .int .i64 ts[k].2.2.2.2.1.2.2.2.2, .slice A1 n1 c1, .slice B1 p1 d1] 34)).cell? ⟨wr.heap.size, 10, none⟩ = some (.slice B1 p1 d1) := by simp
              have hlm : wr.heap.size < (wr.alloc (.cells #[.int .i64 ts[k].1, .int .i64 ts[k].2.1, .int .i64 ts[k].2.2.1, .int .i64 ts[k].2.2.2.1, .int .i64 ts[k].2.2.2.2.1.1, .int .i64 ts[k].2.2.2.2.1.2.1, .int .i64 ts[k].2.2.2.2.1.2.2.1, .int .i64 ts[k].2.2.2.2.1.2.2.2.1, .int .i64 ts[k].2.2.2.2.1.2.2.2.2, .slice A1 n1 c1, .slice B1 p1 d1] 34)).heap.size := by simp
              have hlc : w.heap.size < (wr.alloc (.cells #[.int .i64 ts[k].1, .int .i64 ts[k].2.1, .int .i64 ts[k].2.2.1, .int .i64 ts[k].2.2.2.1, .int .i64 ts[k].2.2.2.2.1.1, .int .i64 ts[k].2.2.2.2.1.2.1, .int .i64 ts[k].2.2.2.2.1.2.2.1, .int .i64 ts[k].2.2.2.2.1.2.2.2.1, .int .i64 ts[k].2.2.2.2.1.2.2.2.2, .slice A1 n1 c1, .slice B1 p1 d1] 34)).heap.size := by simp; omega
              generalize wr.alloc (.cells #[.int .i64 ts[k].1, .int .i64 ts[k].2.1, .int .i64 ts[k].2.2.1, .int .i64 ts[k].2.2.2.1, .int .i64 ts[k].2.2.2.2.1.1, .int .i64 ts[k].2.2.2.2.1.2.1, .int .i64 ts[k].2.2.2.2.1.2.2.1, .int .i64 ts[k].2.2.2.2.1.2.2.2.1, .int .i64 ts[k].2.2.2.2.1.2.2.2.2, .slice A1 n1 c1, .slice B1 p1 d1] 34) = wv at *
              obtain ⟨y0, y1, y2, y3, y4, y5, y6, yf0, yf1, yf2, yf3, yf4, yf5, yf6⟩ := q2.cells
              have q3 : BxC wv.drew w.heap.size c := q2
              have hBd := hBv.drew
              refine wp_region_T (Since _) [27] [] [54, 67] [0, 1, 2, 3, 4, 5, 6, 7, 8, 9, 10, 11, 12, 13, 14, 15, 17, 18, 16, 19, 20] (by kernel_rfl) (by kernel_rfl) (by kernel_rfl) (Since.drew _) ?_; simp only [pickL, List.getElem?_cons_succ, List.getElem?_cons_zero]
              go_wp2_with (first
                | ((refine no_implicit_lambda% (g4_ ?_)); intro hS) | (refine no_implicit_lambda% (g1_ ?_)) | ((refine no_implicit_lambda% (g27_ ?_)); intro K hK) | (refine no_implicit_lambda% (g3_ ?_))
                | fail)
              go_roundw
              case rel => exact ⟨k + 1, by omega, by go_num, hide (by rw [hst.out, hno.out, hoe.out]; simp [e3h.out, e6h.out]), q3, hBd⟩
              case measure => simp [intOf]; omega
            · have e6h := hide e6
              go_wp2
              have x0 : (wr.alloc (.cells #[.int .i64 ts[k].1, .int .i64 ts[k].2.1, .int .i64 ts[k].2.2.1, .int .i64 ts[k].2.2.2.1, .int .i64 ts[k].2.2.2.2.1.1, .int .i64 ts[k].2.2.2.2.1.2.1, .int .i64 ts[k].2.2.2.2.1.2.2.1, .int .i64 ts[k].2.2.2.2.1.2.2.2.1, .int .i64 ts[k].2.2.2.2.1.2.2.2.2, .slice A1 n1 c1, .slice B1 p1 d1] 34)).cell? ⟨wr.heap.size, 0, none⟩ = some (.int .i64 ts[k].1) := by simp
              have x1 : (wr.alloc (.cells #[.int .i64 ts[k].1, .int .i64 ts[k].2.1, .int .i64 ts[k].2.2.1, .int .i64 ts[k].2.2.2.1, .int .i64 ts[k].2.2.2.2.1.1, .int .i64 ts[k].2.2.2.2.1.2.1, .int .i64 ts[k].2.2.2.2.1.2.2.1, .int .i64 ts[k].2.2.2.2.1.2.2.2.1, .int .i64 ts[k].2.2.2.2.1.2.2.2.2, .slice A1 n1 c1, .slice B1 p1 d1] 34)).cell? ⟨wr.heap.size, 1, none⟩ = some (.int .i64 ts[k].2.1) := by simp
              have x2 : (wr.alloc (.cells #[.int .i64 ts[k].1, .int .i64 ts[k].2.1, .int .i64 ts[k].2.2.1, .int .i64 ts[k].2.2.2.1, .int .i64 ts[k].2.2.2.2.1.1, .int .i64 ts[k].2.2.2.2.1.2.1, .int .i64 ts[k].2.2.2.2.1.2.2.1, .int .i64 ts[k].2.2.2.2.1.2.2.2.1, .int .i64 ts[k].2.2.2.2.1.2.2.2.2, .slice A1 n1 c1, .slice B1 p1 d1] 34)).cell? ⟨wr.heap.size, 2, none⟩ = some (.int .i64 ts[k].2.2.1) := by simp
              have x3 : (wr.alloc (.cells #[.int .i64 ts[k].1, .int .i64 ts[k].2.1, .int .i64 ts[k].2.2.1, .int .i64 ts[k].2.2.2.1, .int .i64 ts[k].2.2.2.2.1.1, .int .i64 ts[k].2.2.2.2.1.2.1, .int .i64 ts[k].2.2.2.2.1.2.2.1, .int .i64 ts[k].2.2.2.2.1.2.2.2.1, .int .i64 ts[k].2.2.2.2.1.2.2.2.2, .slice A1 n1 c1, .slice B1 p1 d1] 34)).cell? ⟨wr.heap.size, 3, none⟩ = some (.int .i64 ts[k].2.2.2.1) := by simp
              have x4 : (wr.alloc (.cells #[.int .i64 ts[k].1, .int .i64 ts[k].2.1, .int .i64 ts[k].2.2.1, .int .i64 ts[k].2.2.2.1, .int .i64 ts[k].2.2.2.2.1.1, .int .i64 ts[k].2.2.2.2.1.2.1, .int .i64 ts[k].2.2.2.2.1.2.2.1, .int .i64 ts[k].2.2.2.2.1.2.2.2.1, .int .i64 ts[k].2.2.2.2.1.2.2.2.2, .slice A1 n1 c1, .slice B1 p1 d1] 34)).cell? ⟨wr.heap.size, 4, none⟩ = some (.int .i64 ts[k].2.2.2.2.1.1) := by simp
              have x5 : (wr.alloc (.cells #[.int .i64 ts[k].1, .int .i64 ts[k].2.1, .int .i64 ts[k].2.2.1, .int .i64 ts[k].2.2.2.1, .int .i64 ts[k].2.2.2.2.1.1, .int .i64 ts[k].2.2.2.2.1.2.1, .int .i64 ts[k].2.2.2.2.1.2.2.1, .int .i64 ts[k].2.2.2.2.1.2.2.2.1, .int .i64 ts[k].2.2.2.2.1.2.2.2.2, .slice A1 n1 c1, .slice B1 p1 d1] 34)).cell? ⟨wr.heap.size, 5, none⟩ = some (.int .i64 ts[k].2.2.2.2.1.2.1) := by simp
              have x6 : (wr.alloc (.cells #[.int .i64 ts[k].1, .int .i64 ts[k].2.1, .int .i64 ts[k].2.2.1, .int .i64 ts[k].2.2.2.1, .int .i64 ts[k].2.2.2.2.1.1, .int .i64 ts[k].2.2.2.2.1.2.1, .int .i64 ts[k].2.2.2.2.1.2.2.1, .int .i64 ts[k].2.2.2.2.1.2.2.2.1, .int .i64 ts[k].2.2.2.2.1.2.2.2.2, .slice A1 n1 c1, .slice B1 p1 d1] 34)).cell? ⟨wr.heap.size, 6, none⟩ = some (.int .i64 ts[k].2.2.2.2.1.2.2.1) := by simp
              have x7 : (wr.alloc (.cells #[.int .i64 ts[k].1, .int .i64 ts[k].2.1, .int .i64 ts[k].2.2.1, .int .i64 ts[k].2.2.2.1, .int .i64 ts[k].2.2.2.2.1.1, .int .i64 ts[k].2.2.2.2.1.2.1, .int .i64 ts[k].2.2.2.2.1.2.2.1, .int .i64 ts[k].2.2.2.2.1.2.2.2.1, .int .i64 ts[k].2.2.2.2.1.2.2.2.2, .slice A1 n1 c1, .slice B1 p1 d1] 34)).cell? ⟨wr.heap.size, 7, none⟩ = some (.int .i64 ts[k].2.2.2.2.1.2.2.2.1) := by simp
              have x8 : (wr.alloc (.cells #[.int .i64 ts[k].1, .int .i64 ts[k].2.1, .int .i64 ts[k].2.2.1, .int .i64 ts[k].2.2.2.1, .int .i64 ts[k].2.2.2.2.1.1, .int .i64 ts[k].2.2.2.2.1.2.1, .int .i64 ts[k].2.2.2.2.1.2.2.1, .int .i64 ts[k].2.2.2.2.1.2.2.2.1, .int .i64 ts[k].2.2.2.2.1.2.2.2.2, .slice A1 n1 c1, .slice B1 p1 d1] 34)).cell? ⟨wr.heap.size, 8, none⟩ = some (.int .i64 ts[k].2.2.2.2.1.2.2.2.2) := by simp
              have x9 : (wr.alloc (.cells #[.int .i64 ts[k].1, .int .i64 ts[k].2.1, .int .i64 ts[k].2.2.1, .int .i64 ts[k].2.2.2.1, .int .i64 ts[k].2.2.2.2.1.1, .int .i64 ts[k].2.2.2.2.1.2.1, .int .i64 ts[k].2.2.2.2.1.2.2.1, .int .i64 ts[k].2.2.2.2.1.2.2.2.1, .int .i64 ts[k].2.2.2.2.1.2.2.2.2, .slice A1 n1 c1, .slice B1 p1 d1] 34)).cell? ⟨wr.heap.size, 9, none⟩ = some (.slice A1 n1 c1) := by simp
              have x10 : (wr.alloc (.cells #[.int .i64 ts[k].1, .int .i64 ts[k].2.1, .int .i64 ts[k].2.2.1, .int .i64 ts[k].2.2.2.1, .int .i64 ts[k].2.2.2.2.1.1, .int .i64 ts[k].2.2.2.2.1.2.1, .int .i64 ts[k].2.2.2.2.1.2.2.1, .int .i64 ts[k].2.2.2.2.1.2.2.2.1, .int .i64 ts[k].2.2.2.2.1.2.2.2.2, .slice A1 n1 c1, .slice B1 p1 d1] 34)).cell? ⟨wr.heap.size, 10, none⟩ = some (.slice B1 p1 d1) := by simp
              have hlm : wr.heap.size < (wr.alloc (.cells #[.int .i64 ts[k].1, .int .i64 ts[k].2.1, .int .i64 ts[k].2.2.1, .int .i64 ts[k].2.2.2.1, .int .i64 ts[k].2.2.2.2.1.1, .int .i64 ts[k].2.2.2.2.1.2.1, .int .i64 ts[k].2.2.2.2.1.2.2.1, .int .i64 ts[k].2.2.2.2.1.2.2.2.1, .int .i64 ts[k].2.2.2.2.1.2.2.2.2, .slice A1 n1 c1, .slice B1 p1 d1] 34)).heap.size := by simp
              have hlc : w.heap.size < (wr.alloc (.cells #[.int .i64 ts[k].1, .int .i64 ts[k].2.1, .int .i64 ts[k].2.2.1, .int .i64 ts[k].2.2.2.1, .int .i64 ts[k].2.2.2.2.1.1, .int .i64 ts[k].2.2.2.2.1.2.1, .int .i64 ts[k].2.2.2.2.1.2.2.1, .int .i64 ts[k].2.2.2.2.1.2.2.2.1, .int .i64 ts[k].2.2.2.2.1.2.2.2.2, .slice A1 n1 c1, .slice B1 p1 d1] 34)).heap.size := by simp; omega
              generalize wr.alloc (.cells #[.int .i64 ts[k].1, .int .i64 ts[k].2.1, .int .i64 ts[k].2.2.1, .int .i64 ts[k].2.2.2.1, .int .i64 ts[k].2.2.2.2.1.1, .int .i64 ts[k].2.2.2.2.1.2.1, .int .i64 ts[k].2.2.2.2.1.2.2.1, .int .i64 ts[k].2.2.2.2.1.2.2.2.1, .int .i64 ts[k].2.2.2.2.1.2.2.2.2, .slice A1 n1 c1, .slice B1 p1 d1] 34) = wv at *
              obtain ⟨y0, y1, y2, y3, y4, y5, y6, yf0, yf1, yf2, yf3, yf4, yf5, yf6⟩ := q2.cells
              have ht := hide (fun W (h : Below wv.heap.size wv W) => l4Top_c B1 p1 d1 lo hi ts[k].2.2.2.2.2.2 W (r1.below vote_kept h (Nat.le_trans hhi hBv.size)))
              have hp := hide (fun W (h : Below wv.heap.size wv W) => l4Pick_c B1 p1 d1 lo hi ts[k].2.2.2.2.2.2 c.1 W (r1.below vote_kept h (Nat.le_trans hhi hBv.size)) (Nat.le_trans hhi (Nat.le_trans hBv.size h.size)))
              have hr := fun W => run_eq_req (pickOf (clsOf ts[k].2.2.2.2.2.2) c.1) c.2.2 W
              have hD : Below wv.heap.size wv wv.drew := (Below.refl _ _).drew
              generalize htop : topOf (clsOf ts[k].2.2.2.2.2.2) = top at *
              have htop' := hide htop
              clear htop
              cases e7 : decide (c.1 ≤ top)
              · have e7h := hide e7
                have q3 : BxC wv.drew w.heap.size c := q2
                have hBd := hBv.drew
                refine wp_region_T (Since _) [27] [] [54, 67] [0, 1, 2, 3, 4, 5, 6, 7, 8, 9, 10, 11, 12, 13, 14, 15, 17, 18, 16, 19, 20] (by kernel_rfl) (by kernel_rfl) (by kernel_rfl) (Since.drew _) ?_; simp only [pickL, List.getElem?_cons_succ, List.getElem?_cons_zero]
                go_wp2_with (first
                  | ((refine no_implicit_lambda% (g4_ ?_)); intro hS) | (refine no_implicit_lambda% (g1_ ?_)) | ((refine no_implicit_lambda% (g27_ ?_)); intro K hK) | (refine no_implicit_lambda% (g3_ ?_))
                  | (go_at_call 72; refine (ht.out _ hD).mono ?_; rintro e w2 ⟨rfl, rfl⟩)
                  | (go_at_call 73; refine (hp.out _ hD).mono ?_; rintro e w3 ⟨rfl, hb3⟩; have hq3 := q3.below hb3)
                  | fail)
                go_roundw
                case rel => exact ⟨k + 1, by omega, by go_num, hide (by rw [hst.out, hno.out, hoe.out]; simp [e3h.out, e6h.out, htop'.out, e7h.out]), q3, hBd⟩
                case measure => simp [intOf]; omega
              · have e7h := hide e7
                have q3 : BxC wv.drew w.heap.size c := q2
                have hBd := hBv.drew
                generalize hpk : pickOf (clsOf ts[k].2.2.2.2.2.2) c.1 = pk at *
                have hpk' := hide hpk
                clear hpk
                cases e8 : decide (pk = c.2.2)
                · have e8h := hide e8
                  simp only [e8] at hr
                  refine wp_region_T (Since _) [27] [] [54, 67] [0, 1, 2, 3, 4, 5, 6, 7, 8, 9, 10, 11, 12, 13, 14, 15, 17, 18, 16, 19, 20] (by kernel_rfl) (by kernel_rfl) (by kernel_rfl) (Since.drew _) ?_; simp only [pickL, List.getElem?_cons_succ, List.getElem?_cons_zero]
                  go_wp2_with (first
                    | ((refine no_implicit_lambda% (g4_ ?_)); intro hS) | (refine no_implicit_lambda% (g1_ ?_)) | ((refine no_implicit_lambda% (g27_ ?_)); intro K hK) | (refine no_implicit_lambda% (g3_ ?_))
                    | (go_at_call 72; refine (ht.out _ hD).mono ?_; rintro e w2 ⟨rfl, rfl⟩)
                    | (go_at_call 73; refine (hp.out _ hD).mono ?_; rintro e w3 ⟨rfl, hb3⟩; have hq3 := q3.below hb3)
                    | fail)
                  go_roundw
                  case rel => exact ⟨k + 1, by omega, by go_num, hide (by rw [hst.out, hno.out, hoe.out]; simp [e3h.out, e6h.out, htop'.out, e7h.out, hpk'.out, e8h.out]), hq3, (hBd.trans (hb3.mono hBd.size))⟩
                  case measure => simp [intOf]; omega
                · have e8h := hide e8
                  simp only [e8] at hr
                  refine wp_region_T (Since _) [27] [] [54, 67] [0, 1, 2, 3, 4, 5, 6, 7, 8, 9, 10, 11, 12, 13, 14, 15, 17, 18, 16, 19, 20] (by kernel_rfl) (by kernel_rfl) (by kernel_rfl) (Since.drew _) ?_; simp only [pickL, List.getElem?_cons_succ, List.getElem?_cons_zero]
                  go_wp2_with (first
                    | ((refine no_implicit_lambda% (g4_ ?_)); intro hS) | (refine no_implicit_lambda% (g1_ ?_)) | ((refine no_implicit_lambda% (g27_ ?_)); intro K hK) | (refine no_implicit_lambda% (g3_ ?_))
                    | (go_at_call 72; refine (ht.out _ hD).mono ?_; rintro e w2 ⟨rfl, rfl⟩)
                    | (go_at_call 73; refine (hp.out _ hD).mono ?_; rintro e w3 ⟨rfl, hb3⟩; have hq3 := q3.below hb3)
                    | fail)
                  go_ret
                  exact ⟨congrArg (fun b => Ending.returned (.bool b)) (by
                    symm
                    unfold offered
                    rw [List.any_eq_true]
                    exact ⟨ts[k], List.getElem_mem hlx, by rw [hoe.out]; simp [e1h.out, e2h.out, e3h.out, e6h.out, htop'.out, e7h.out, hpk'.out, e8h.out]⟩), hBd.trans (hb3.mono hBd.size)⟩
          · have e3h := hide e3
            have e6 : (ts[k].1 == 6) = false := by simp at e3 ⊢; omega
            have e6h := hide e6
            cases e4 : (ts[k].2.2.2.1 == c.1)
            · have e4h := hide e4
              go_wp2
              have x0 : (wr.alloc (.cells #[.int .i64 ts[k].1, .int .i64 ts[k].2.1, .int .i64 ts[k].2.2.1, .int .i64 ts[k].2.2.2.1, .int .i64 ts[k].2.2.2.2.1.1, .int .i64 ts[k].2.2.2.2.1.2.1, .int .i64 ts[k].2.2.2.2.1.2.2.1, .int .i64 ts[k].2.2.2.2.1.2.2.2.1, .int .i64 ts[k].2.2.2.2.1.2.2.2.2, .slice A1 n1 c1, .slice B1 p1 d1] 34)).cell? ⟨wr.heap.size, 0, none⟩ = some (.int .i64 ts[k].1) := by simp
              have x1 : (wr.alloc (.cells #[.int .i64 ts[k].1, .int .i64 ts[k].2.1, .int .i64 ts[k].2.2.1, .int .i64 ts[k].2.2.2.1, .int .i64 ts[k].2.2.2.2.1.1, .int .i64 ts[k].2.2.2.2.1.2.1, .int .i64 ts[k].2.2.2.2.1.2.2.1, .int .i64 ts[k].2.2.2.2.1.2.2.2.1, .int .i64 ts[k].2.2.2.2.1.2.2.2.2, .slice A1 n1 c1, .slice B1 p1 d1] 34)).cell? ⟨wr.heap.size, 1, none⟩ = some (.int .i64 ts[k].2.1) := by simp
              have x2 : (wr.alloc (.cells #[.int .i64 ts[k].1, .int .i64 ts[k].2.1, .int .i64 ts[k].2.2.1, .int .i64 ts[k].2.2.2.1, .int .i64 ts[k].2.2.2.2.1.1, .int .i64 ts[k].2.2.2.2.1.2.1, .int .i64 ts[k].2.2.2.2.1.2.2.1, .int .i64 ts[k].2.2.2.2.1.2.2.2.1, .int .i64 ts[k].2.2.2.2.1.2.2.2.2, .slice A1 n1 c1, .slice B1 p1 d1] 34)).cell? ⟨wr.heap.size, 2, none⟩ = some (.int .i64 ts[k].2.2.1) := by simp
              have x3 : (wr.alloc (.cells #[.int .i64 ts[k].1, .int .i64 ts[k].2.1, .int .i64 ts[k].2.2.1, .int .i64 ts[k].2.2.2.1, .int .i64 ts[k].2.2.2.2.1.1, .int .i64 ts[k].2.2.2.2.1.2.1, .int .i64 ts[k].2.2.2.2.1.2.2.1, .int .i64 ts[k].2.2.2.2.1.2.2.2.1, .int .i64 ts[k].2.2.2.2.1.2.2.2.2, .slice A1 n1 c1, .slice B1 p1 d1] 34)).cell? ⟨wr.heap.size, 3, none⟩ = some (.int .i64 ts[k].2.2.2.1) := by simp
              have x4 : (wr.alloc (.cells #[.int .i64 ts[k].1, .int .i64 ts[k].2.1, .int .i64 ts[k].2.2.1, .int .i64 ts[k].2.2.2.1, .int .i64 ts[k].2.2.2.2.1.1, .int .i64 ts[k].2.2.2.2.1.2.1, .int .i64 ts[k].2.2.2.2.1.2.2.1, .int .i64 ts[k].2.2.2.2.1.2.2.2.1, .int .i64 ts[k].2.2.2.2.1.2.2.2.2, .slice A1 n1 c1, .slice B1 p1 d1] 34)).cell? ⟨wr.heap.size, 4, none⟩ = some (.int .i64 ts[k].2.2.2.2.1.1) := by simp
              have x5 : (wr.alloc (.cells #[.int .i64 ts[k].1, .int .i64 ts[k].2.1, .int .i64 ts[k].2.2.1, .int .i64 ts[k].2.2.2.1, .int .i64 ts[k].2.2.2.2.1.1, .int .i64 ts[k].2.2.2.2.1.2.1, .int .i64 ts[k].2.2.2.2.1.2.2.1, .int .i64 ts[k].2.2.2.2.1.2.2.2.1, .int .i64 ts[k].2.2.2.2.1.2.2.2.2, .slice A1 n1 c1, .slice B1 p1 d1] 34)).cell? ⟨wr.heap.size, 5, none⟩ = some (.int .i64 ts[k].2.2.2.2.1.2.1) := by simp
              have x6 : (wr.alloc (.cells #[.int .i64 ts[k].1, .int .i64 ts[k].2.1, .int .i64 ts[k].2.2.1, .int .i64 ts[k].2.2.2.1, .int .i64 ts[k].2.2.2.2.1.1, .int .i64 ts[k].2.2.2.2.1.2.1, .int .i64 ts[k].2.2.2.2.1.2.2.1, .int .i64 ts[k].2.2.2.2.1.2.2.2.1, .int .i64 ts[k].2.2.2.2.1.2.2.2.2, .slice A1 n1 c1, .slice B1 p1 d1] 34)).cell? ⟨wr.heap.size, 6, none⟩ = some (.int .i64 ts[k].2.2.2.2.1.2.2.1) := by simp
              have x7 : (wr.alloc (.cells #[.int .i64 ts[k].1, .int .i64 ts[k].2.1, .int .i64 ts[k].2.2.1, .int .i64 ts[k].2.2.2.1, .int .i64 ts[k].2.2.2.2.1.1, .int .i64 ts[k].2.2.2.2.1.2.1, .int .i64 ts[k].2.2.2.2.1.2.2.1, .int .i64 ts[k].2.2.2.2.1.2.2.2.1, .int .i64 ts[k].2.2.2.2.1.2.2.2.2, .slice A1 n1 c1, .slice B1 p1 d1] 34)).cell? ⟨wr.heap.size, 7, none⟩ = some (.int .i64 ts[k].2.2.2.2.1.2.2.2.1) := by simp
              have x8 : (wr.alloc (.cells #[.int .i64 ts[k].1, .int .i64 ts[k].2.1, .int .i64 ts[k].2.2.1, .int .i64 ts[k].2.2.2.1, .int .i64 ts[k].2.2.2.2.1.1, .int .i64 ts[k].2.2.2.2.1.2.1, .int .i64 ts[k].2.2.2.2.1.2.2.1, .int .i64 ts[k].2.2.2.2.1.2.2.2.1, .int .i64 ts[k].2.2.2.2.1.2.2.2.2, .slice A1 n1 c1, .slice B1 p1 d1] 34)).cell? ⟨wr.heap.size, 8, none⟩ = some (.int .i64 ts[k].2.2.2.2.1.2.2.2.2) := by simp
              have x9 : (wr.alloc (.cells #[.int .i64 ts[k].1, .int .i64 ts[k].2.1, .int .i64 ts[k].2.2.1, .int .i64 ts[k].2.2.2.1, .int .i64 ts[k].2.2.2.2.1.1, .int .i64 ts[k].2.2.2.2.1.2.1, .int .i64 ts[k].2.2.2.2.1.2.2.1, .int .i64 ts[k].2.2.2.2.1.2.2.2.1, .int .i64 ts[k].2.2.2.2.1.2.2.2.2, .slice A1 n1 c1, .slice B1 p1 d1] 34)).cell? ⟨wr.heap.size, 9, none⟩ = some (.slice A1 n1 c1) := by simp
              have x10 : (wr.alloc (.cells #[.int .i64 ts[k].1, .int .i64 ts[k].2.1, .int .i64 ts[k].2.2.1, .int .i64 ts[k].2.2.2.1, .int .i64 ts[k].2.2.2.2.1.1, .int .i64 ts[k].2.2.2.2.1.2.1, .int .i64 ts[k].2.2.2.2.1.2.2.1, .int .i64 ts[k].2.2.2.2.1.2.2.2.1, .int .i64 ts[k].2.2.2.2.1.2.2.2.2, .slice A1 n1 c1, .slice B1 p1 d1] 34)).cell? ⟨wr.heap.size, 10, none⟩ = some (.slice B1 p1 d1) := by simp
              have hlm : wr.heap.size < (wr.alloc (.cells #[.int .i64 ts[k].1, .int .i64 ts[k].2.1, .int .i64 ts[k].2.2.1, .int .i64 ts[k].2.2.2.1, .int .i64 ts[k].2.2.2.2.1.1, .int .i64 ts[k].2.2.2.2.1.2.1, .int .i64 ts[k].2.2.2.2.1.2.2.1, .int .i64 ts[k].2.2.2.2.1.2.2.2.1, .int .i64 ts[k].2.2.2.2.1.2.2.2.2, .slice A1 n1 c1, .slice B1 p1 d1] 34)).heap.size := by simp
              have hlc : w.heap.size < (wr.alloc (.cells #[.int .i64 ts[k].1, .int .i64 ts[k].2.1, .int .i64 ts[k].2.2.1, .int .i64 ts[k].2.2.2.1, .int .i64 ts[k].2.2.2.2.1.1, .int .i64 ts[k].2.2.2.2.1.2.1, .int .i64 ts[k].2.2.2.2.1.2.2.1, .int .i64 ts[k].2.2.2.2.1.2.2.2.1, .int .i64 ts[k].2.2.2.2.1.2.2.2.2, .slice A1 n1 c1, .slice B1 p1 d1] 34)).heap.size := by simp; omega
              generalize wr.alloc (.cells #[.int .i64 ts[k].1, .int .i64 ts[k].2.1, .int .i64 ts[k].2.2.1, .int .i64 ts[k].2.2.2.1, .int .i64 ts[k].2.2.2.2.1.1, .int .i64 ts[k].2.2.2.2.1.2.1, .int .i64 ts[k].2.2.2.2.1.2.2.1, .int .i64 ts[k].2.2.2.2.1.2.2.2.1, .int .i64 ts[k].2.2.2.2.1.2.2.2.2, .slice A1 n1 c1, .slice B1 p1 d1] 34) = wv at *
              obtain ⟨y0, y1, y2, y3, y4, y5, y6, yf0, yf1, yf2, yf3, yf4, yf5, yf6⟩ := q2.cells
              have q3 : BxC wv.drew w.heap.size c := q2
              have hBd := hBv.drew
              refine wp_region_T (Since _) [27] [] [54, 67] [0, 1, 2, 3, 4, 5, 6, 7, 8, 9, 10, 11, 12, 13, 14, 15, 17, 18, 16, 19, 20] (by kernel_rfl) (by kernel_rfl) (by kernel_rfl) (Since.drew _) ?_; simp only [pickL, List.getElem?_cons_succ, List.getElem?_cons_zero]
              go_wp2_with (first
                | ((refine no_implicit_lambda% (g4_ ?_)); intro hS) | (refine no_implicit_lambda% (g1_ ?_)) | ((refine no_implicit_lambda% (g27_ ?_)); intro K hK) | (refine no_implicit_lambda% (g3_ ?_))
                | fail)
              go_roundw
              case rel => exact ⟨k + 1, by omega, by go_num, hide (by rw [hst.out, hno.out, hoe.out]; simp [e4h.out, e6h.out]), q3, hBd⟩
              case measure => simp [intOf]; omega
            · have e4h := hide e4
              have hr := fun W => run_eq_req ts[k].2.2.2.2.1 c.2.2 W
              cases e5 : decide (ts[k].2.2.2.2.1 = c.2.2)
              · have e5h := hide e5
                simp only [e5] at hr
                go_wp2
                have x0 : (wr.alloc (.cells #[.int .i64 ts[k].1, .int .i64 ts[k].2.1, .int .i64 ts[k].2.2.1, .int .i64 ts[k].2.2.2.1, .int .i64 ts[k].2.2.2.2.1.1, .int .i64 ts[k].2.2.2.2.1.2.1, .int .i64 ts[k].2.2.2.2.1.2.2.1, .int .i64 ts[k].2.2.2.2.1.2.2.2.1, .int .i64 ts[k].2.2.2.2.1.2.2.2.2, .slice A1 n1 c1, .slice B1 p1 d1] 34)).cell? ⟨wr.heap.size, 0, none⟩ = some (.int .i64 ts[k].1) := by simp
                have x1 : (wr.alloc (.cells #[.int .i64 ts[k].1, .int .i64 ts[k].2.1, .int .i64 ts[k].2.2.1, .int .i64 ts[k].2.2.2.1, .int .i64 ts[k].2.2.2.2.1.1, .int .i64 ts[k].2.2.2.2.1.2.1, .int .i64 ts[k].2.2.2.2.1.2.2.1, .int .i64 ts[k].2.2.2.2.1.2.2.2.1, .int .i64 ts[k].2.2.2.2.1.2.2.2.2, .slice A1 n1 c1, .slice B1 p1 d1] 34)).cell? ⟨wr.heap.size, 1, none⟩ = some (.int .i64 ts[k].2.1) := by simp
                have x2 : (wr.alloc (.cells #[.int .i64 ts[k].1, .int .i64 ts[k].2.1, .int .i64 ts[k].2.2.1, .int .i64 ts[k].2.2.2.1, .int .i64 ts[k].2.2.2.2.1.1, .int .i64 ts[k].2.2.2.2.1.2.1, .int .i64 ts[k].2.2.2.2.1.2.2.1, .int .i64 ts[k].2.2.2.2.1.2.2.2.1, .int .i64 ts[k].2.2.2.2.1.2.2.2.2, .slice A1 n1 c1, .slice B1 p1 d1] 34)).cell? ⟨wr.heap.size, 2, none⟩ = some (.int .i64 ts[k].2.2.1) := by simp
                have x3 : (wr.alloc (.cells #[.int .i64 ts[k].1, .int .i64 ts[k].2.1, .int .i64 ts[k].2.2.1, .int .i64 ts[k].2.2.2.1, .int .i64 ts[k].2.2.2.2.1.1, .int .i64 ts[k].2.2.2.2.1.2.1, .int .i64 ts[k].2.2.2.2.1.2.2.1, .int .i64 ts[k].2.2.2.2.1.2.2.2.1, .int .i64 ts[k].2.2.2.2.1.2.2.2.2, .slice A1 n1 c1, .slice B1 p1 d1] 34)).cell? ⟨wr.heap.size, 3, none⟩ = some (.int .i64 ts[k].2.2.2.1) := by simp
                have x4 : (wr.alloc (.cells #[.int .i64 ts[k].1, .int .i64 ts[k].2.1, .int .i64 ts[k].2.2.1, .int .i64 ts[k].2.2.2.1, .int .i64 ts[k].2.2.2.2.1.1, .int .i64 ts[k].2.2.2.2.1.2.1, .int .i64 ts[k].2.2.2.2.1.2.2.1, .int .i64 ts[k].2.2.2.2.1.2.2.2.1, .int .i64 ts[k].2.2.2.2.1.2.2.2.2, .slice A1 n1 c1, .slice B1 p1 d1] 34)).cell? ⟨wr.heap.size, 4, none⟩ = some (.int .i64 ts[k].2.2.2.2.1.1) := by simp
                have x5 : (wr.alloc (.cells #[.int .i64 ts[k].1, .int .i64 ts[k].2.1, .int .i64 ts[k].2.2.1, .int .i64 ts[k].2.2.2.1, .int .i64 ts[k].2.2.2.2.1.1, .int .i64 ts[k].2.2.2.2.1.2.1, .int .i64 ts[k].2.2.2.2.1.2.2.1, .int .i64 ts[k].2.2.2.2.1.2.2.2.1, .int .i64 ts[k].2.2.2.2.1.2.2.2.2, .slice A1 n1 c1, .slice B1 p1 d1] 34)).cell? ⟨wr.heap.size, 5, none⟩ = some (.int .i64 ts[k].2.2.2.2.1.2.1) := by simp
                have x6 : (wr.alloc (.cells #[.int .i64 ts[k].1, .int .i64 ts[k].2.1, .int .i64 ts[k].2.2.1, .int .i64 ts[k].2.2.2.1, .int .i64 ts[k].2.2.2.2.1.1, .int .i64 ts[k].2.2.2.2.1.2.1, .int .i64 ts[k].2.2.2.2.1.2.2.1, .int .i64 ts[k].2.2.2.2.1.2.2.2.1, .int .i64 ts[k].2.2.2.2.1.2.2.2.2, .slice A1 n1 c1, .slice B1 p1 d1] 34)).cell? ⟨wr.heap.size, 6, none⟩ = some (.int .i64 ts[k].2.2.2.2.1.2.2.1) := by simp
                have x7 : (wr.alloc (.cells #[.int .i64 ts[k].1, .int .i64 ts[k].2.1, .int .i64 ts[k].2.2.1, .int .i64 ts[k].2.2.2.1, .int .i64 ts[k].2.2.2.2.1.1, .int .i64 ts[k].2.2.2.2.1.2.1, .int .i64 ts[k].2.2.2.2.1.2.2.1, .int .i64 ts[k].2.2.2.2.1.2.2.2.1, .int .i64 ts[k].2.2.2.2.1.2.2.2.2, .slice A1 n1 c1, .slice B1 p1 d1] 34)).cell? ⟨wr.heap.size, 7, none⟩ = some (.int .i64 ts[k].2.2.2.2.1.2.2.2.1) := by simp
                have x8 : (wr.alloc (.cells #[.int .i64 ts[k].1, .int .i64 ts[k].2.1, .int .i64 ts[k].2.2.1, .int .i64 ts[k].2.2.2.1, .int .i64 ts[k].2.2.2.2.1.1, .int .i64 ts[k].2.2.2.2.1.2.1, .int .i64 ts[k].2.2.2.2.1.2.2.1, .int .i64 ts[k].2.2.2.2.1.2.2.2.1, .int .i64 ts[k].2.2.2.2.1.2.2.2.2, .slice A1 n1 c1, .slice B1 p1 d1] 34)).cell? ⟨wr.heap.size, 8, none⟩ = some (.int .i64 ts[k].2.2.2.2.1.2.2.2.2) := by simp
                have x9 : (wr.alloc (.cells #[.int .i64 ts[k].1, .int .i64 ts[k].2.1, .int .i64 ts[k].2.2.1, .int .i64 ts[k].2.2.2.1, .int .i64 ts[k].2.2.2.2.1.1, .int .i64 ts[k].2.2.2.2.1.2.1, .int .i64 ts[k].2.2.2.2.1.2.2.1, .int .i64 ts[k].2.2.2.2.1.2.2.2.1, .int .i64 ts[k].2.2.2.2.1.2.2.2.2, .slice A1 n1 c1, .slice B1 p1 d1] 34)).cell? ⟨wr.heap.size, 9, none⟩ = some (.slice A1 n1 c1) := by simp
                have x10 : (wr.alloc (.cells #[.int .i64 ts[k].1, .int .i64 ts[k].2.1, .int .i64 ts[k].2.2.1, .int .i64 ts[k].2.2.2.1, .int .i64 ts[k].2.2.2.2.1.1, .int .i64 ts[k].2.2.2.2.1.2.1, .int .i64 ts[k].2.2.2.2.1.2.2.1, .int .i64 ts[k].2.2.2.2.1.2.2.2.1, .int .i64 ts[k].2.2.2.2.1.2.2.2.2, .slice A1 n1 c1, .slice B1 p1 d1] 34)).cell? ⟨wr.heap.size, 10, none⟩ = some (.slice B1 p1 d1) := by simp
                have hlm : wr.heap.size < (wr.alloc (.cells #[.int .i64 ts[k].1, .int .i64 ts[k].2.1, .int .i64 ts[k].2.2.1, .int .i64 ts[k].2.2.2.1, .int .i64 ts[k].2.2.2.2.1.1, .int .i64 ts[k].2.2.2.2.1.2.1, .int .i64 ts[k].2.2.2.2.1.2.2.1, .int .i64 ts[k].2.2.2.2.1.2.2.2.1, .int .i64 ts[k].2.2.2.2.1.2.2.2.2, .slice A1 n1 c1, .slice B1 p1 d1] 34)).heap.size := by simp
                have hlc : w.heap.size < (wr.alloc (.cells #[.int .i64 ts[k].1, .int .i64 ts[k].2.1, .int .i64 ts[k].2.2.1, .int .i64 ts[k].2.2.2.1, .int .i64 ts[k].2.2.2.2.1.1, .int .i64 ts[k].2.2.2.2.1.2.1, .int .i64 ts[k].2.2.2.2.1.2.2.1, .int .i64 ts[k].2.2.2.2.1.2.2.2.1, .int .i64 ts[k].2.2.2.2.1.2.2.2.2, .slice A1 n1 c1, .slice B1 p1 d1] 34)).heap.size := by simp; omega
                generalize wr.alloc (.cells #[.int .i64 ts[k].1, .int .i64 ts[k].2.1, .int .i64 ts[k].2.2.1, .int .i64 ts[k].2.2.2.1, .int .i64 ts[k].2.2.2.2.1.1, .int .i64 ts[k].2.2.2.2.1.2.1, .int .i64 ts[k].2.2.2.2.1.2.2.1, .int .i64 ts[k].2.2.2.2.1.2.2.2.1, .int .i64 ts[k].2.2.2.2.1.2.2.2.2, .slice A1 n1 c1, .slice B1 p1 d1] 34) = wv at *
                obtain ⟨y0, y1, y2, y3, y4, y5, y6, yf0, yf1, yf2, yf3, yf4, yf5, yf6⟩ := q2.cells
                have q3 : BxC wv.drew w.heap.size c := q2
                have hBd := hBv.drew
                refine wp_region_T (Since _) [27] [] [54, 67] [0, 1, 2, 3, 4, 5, 6, 7, 8, 9, 10, 11, 12, 13, 14, 15, 17, 18, 16, 19, 20] (by kernel_rfl) (by kernel_rfl) (by kernel_rfl) (Since.drew _) ?_; simp only [pickL, List.getElem?_cons_succ, List.getElem?_cons_zero]
                go_wp2_with (first
                  | ((refine no_implicit_lambda% (g4_ ?_)); intro hS) | (refine no_implicit_lambda% (g1_ ?_)) | ((refine no_implicit_lambda% (g27_ ?_)); intro K hK) | (refine no_implicit_lambda% (g3_ ?_))
                  | fail)
                go_roundw
                case rel => exact ⟨k + 1, by omega, by go_num, hide (by rw [hst.out, hno.out, hoe.out]; simp [e5h.out, e6h.out]), q3, hBd⟩
                case measure => simp [intOf]; omega
              · have e5h := hide e5
                simp only [e5] at hr
                go_wp2
                go_ret
                exact ⟨congrArg (fun b => Ending.returned (.bool b)) (by
                  symm
                  unfold offered
                  rw [List.any_eq_true]
                  exact ⟨ts[k], List.getElem_mem hlx, by rw [hoe.out]; simp [e1h.out, e2h.out, e3h.out, e4h.out, e5h.out]⟩), hBv⟩
        · have e2h : Hid ((ts[k].2.2.1 == c.2.1) = false) := hide (by simpa using e2)
          go_wp2
          go_roundw
          case rel => exact ⟨k + 1, by omega, by go_num, hide (by rw [hst.out, hno.out, hoe.out]; simp [e2h.out]), q2, hBv⟩
          case measure => simp [intOf]; omega
      · have e1h : Hid ((ts[k].2.1 == leadOf c.2.1) = false) := hide (by simpa using e1)
        go_wp2
        go_roundw
        case rel => exact ⟨k + 1, by omega, by go_num, hide (by rw [hst.out, hno.out, hoe.out]; simp [e1h.out]), q2, hBv⟩
        case measure => simp [intOf]; omega
    · obtain rfl : k = n := by omega
      have hfin : Hid (offered ts c = false) := hide (by
        have := hno.out
        rw [hn'.out, List.take_length] at this
        exact this)
      go_wp2
      go_ret
      exact ⟨congrArg (fun b => Ending.returned (.bool b)) hfin.out.symm, hbr⟩
end Go.Proofs.Ytopmbnnjhoinkaa
