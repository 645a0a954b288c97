/-
  What 'FVd' rests on (texts of this seat put together: NN NX NSd).
  Conditions: none.
-/
import Derived.Test.YtopmbnnjhoinkaaVV16
import Derived.Test.YtopmbnnjhoinkaaVV18
namespace Go.Proofs.Ytopmbnnjhoinkaa
open Go.RowKit Rg
set_option linter.unusedVariables false
set_option linter.unusedSimpArgs false
set_option maxHeartbeats 1000000
theorem l3Ok_c (t : MsgT) (A B : Option Addr) (n c p d : Nat) (lo hi : Nat) (w : World) (h0 : RdN 7 clR w lo hi A n c t.2.2.2.2.2.1) (h1 : RdN 2 voteR w lo hi B p d t.2.2.2.2.2.2) (hhi : hi ≤ w.heap.size) : Calls Try.prog 81 #[.agg #[.int .i64 t.1, .int .i64 t.2.1, .int .i64 t.2.2.1, .int .i64 t.2.2.2.1, .int .i64 t.2.2.2.2.1.1, .int .i64 t.2.2.2.2.1.2.1, .int .i64 t.2.2.2.2.1.2.2.1, .int .i64 t.2.2.2.2.1.2.2.2.1, .int .i64 t.2.2.2.2.1.2.2.2.2, .slice A n c, .slice B p d]] w fun e w' => e = .returned (.bool (okMsg t)) ∧ Below w.heap.size w w' :=
  l3Ok_v t.1 t.2.1 t.2.2.1 t.2.2.2.1 t.2.2.2.2.1.1 t.2.2.2.2.1.2.1 t.2.2.2.2.1.2.2.1 t.2.2.2.2.1.2.2.2.1 t.2.2.2.2.1.2.2.2.2 t.2.2.2.2.2.1 t.2.2.2.2.2.2 A B n c p d lo hi w h0 h1 hhi
end Go.Proofs.Ytopmbnnjhoinkaa
namespace Go.Proofs.Ytopmbnnjhoinkaa
open Go.RowKit Rg Go.Maps
set_option linter.unusedVariables false
set_option linter.unusedSimpArgs false
set_option maxHeartbeats 1000000
def cntTo (ms : List MsgT) (kind : Int) (c : ClaimT) (but : Int) (kk : Nat) : Nat := ((List.range kk).filter fun (k : Nat) => decide ((k : Int) ≠ but) && ms.any (saidOf kind c (k : Int))).length
theorem cntTo_four (ms : List MsgT) (kind : Int) (c : ClaimT) (but : Int) : cntTo ms kind c but 4 = countOf ms kind c but := rfl
theorem cntTo_succ (ms : List MsgT) (kind : Int) (c : ClaimT) (but : Int) (kk : Nat) : cntTo ms kind c but (kk + 1) = cntTo ms kind c but kk + (if (decide ((kk : Int) ≠ but) && ms.any (saidOf kind c (kk : Int))) = true then 1 else 0) := by
  unfold cntTo
  rw [List.range_succ, List.filter_append, List.length_append]
  congr 1
  simp only [List.filter_cons, List.filter_nil]
  split <;> rfl
theorem cntTo_le (ms : List MsgT) (kind : Int) (c : ClaimT) (but : Int) (kk : Nat) : cntTo ms kind c but kk ≤ kk := by
  unfold cntTo
  exact Nat.le_trans (List.length_filter_le _ _) (by simp)
theorem saidOf_eq (kind : Int) (c : ClaimT) (k : Int) (m : MsgT) : saidOf kind c k m = ((m.1 == kind) && ((m.2.1 == k) && ((m.2.2.1 == c.2.1) && ((m.2.2.2.1 == c.1) && decide (m.2.2.2.2.1 = c.2.2))))) := by
  unfold saidOf
  rw [Bool.eq_iff_iff]
  simp
set_option maxRecDepth 100000 in
set_option maxHeartbeats 3000000 in
theorem l4Yes_c (A : Option Addr) (n c0 lo hi : Nat) (ts : List MsgT) (c : ClaimT) (w : World) (hs : RdN 11 msgR w lo hi A n c0 ts) (hhi : hi ≤ w.heap.size) (hv0 : 0 ≤ c.2.1) (hv1 : c.2.1 ≤ 1000000) :
    Calls Try.prog 51 #[.slice A n c0, .int .i64 3, .agg #[.int .i64 c.1, .int .i64 c.2.1, .int .i64 c.2.2.1, .int .i64 c.2.2.2.1, .int .i64 c.2.2.2.2.1, .int .i64 c.2.2.2.2.2.1, .int .i64 c.2.2.2.2.2.2]] w fun e w' => e = .returned (.int .i64 ((countOf ts 3 c (leadOf c.2.1) : Nat) : Int)) ∧ Below w.heap.size w w' := by
  have hn' := hide hs.len
  have hc1 := hs.cap
  have hc2 := hs.max
  unfold maxLen at hc2
  have hA := (Below.refl w.heap.size w).alloc (Nat.le_refl _) (.cells #[.int .i64 c.1, .int .i64 c.2.1, .int .i64 c.2.2.1, .int .i64 c.2.2.2.1, .int .i64 c.2.2.2.2.1, .int .i64 c.2.2.2.2.2.1, .int .i64 c.2.2.2.2.2.2] 27)
  have q0 := BxC.made w c
  have hcap := hide (cntTo_le ts 3 c (leadOf c.2.1))
  have hsucc := hide (cntTo_succ ts 3 c (leadOf c.2.1))
  have hfour := hide (cntTo_four ts 3 c (leadOf c.2.1))
  have hle : Hid (c.2.1 % 4 = leadOf c.2.1) := hide rfl
  go_enter Try.func51, Try.ntmps51
  go_wp2
  generalize w.alloc (.cells #[.int .i64 c.1, .int .i64 c.2.1, .int .i64 c.2.2.1, .int .i64 c.2.2.2.1, .int .i64 c.2.2.2.2.1, .int .i64 c.2.2.2.2.2.1, .int .i64 c.2.2.2.2.2.2] 27) = w0 at *
  go_loopw [7, 8, 9, 10] (fun nv kv _ _ wr => ∃ (kk m : Nat), kk ≤ 4 ∧ m ≤ kk ∧ kv = .int .i64 (kk : Int) ∧ nv = .int .i64 (m : Int) ∧ Hid (cntTo ts 3 c (leadOf c.2.1) kk = m) ∧ BxC wr w.heap.size c ∧ Below w.heap.size w wr) (fun _ kv _ _ _ => 4 - (intOf kv).toNat)
  case atStart => exact ⟨0, 0, by omega, by omega, rfl, rfl, hide rfl, q0, hA⟩
  case round =>
    obtain ⟨kk, m, hk4, hmk, rfl, rfl, hcnt, q1, hbr⟩ := hrel
    by_cases hlt : kk < 4
    · have d1 : decide ((kk : Int) < 4) = true := by simp; omega
      go_wp2
      go_loopw [9, 10] (fun isv iv ws => ∃ (i : Nat) (is : Bool), i ≤ n ∧ iv = .int .i64 (i : Int) ∧ isv = .bool is ∧ Hid ((ts.take i).any (saidOf 3 c (kk : Int)) = is) ∧ BxC ws w.heap.size c ∧ Below w.heap.size w ws) (fun _ iv _ => n - (intOf iv).toNat)
      case atStart => exact ⟨0, false, Nat.zero_le _, rfl, rfl, hide rfl, q1, hbr⟩
      case round =>
        obtain ⟨i, is, hi, rfl, rfl, hany, q2, hbs⟩ := hrel
        have hl1 := q2.lt
        obtain ⟨y0, y1, y2, y3, y4, y5, y6, yf0, yf1, yf2, yf3, yf4, yf5, yf6⟩ := q2.cells
        by_cases hlti : i < n
        · have hlx : i < ts.length := by have := hn'.out; omega
          obtain ⟨b', off, rfl, hlo, hbh⟩ := hs.addr hlx
          obtain ⟨A1, n1, c1, B1, p1, d1, a0, a1, a2, a3, a4, a5, a6, a7, a8, a9, a10, r0, r1⟩ := (hs.below msg_kept hbs hhi).msg hlx
          have hAi := (Below.refl wr.heap.size wr).alloc (Nat.le_refl _) (.cells #[.int .i64 ts[i].1, .int .i64 ts[i].2.1, .int .i64 ts[i].2.2.1, .int .i64 ts[i].2.2.2.1, .int .i64 ts[i].2.2.2.2.1.1, .int .i64 ts[i].2.2.2.2.1.2.1, .int .i64 ts[i].2.2.2.2.1.2.2.1, .int .i64 ts[i].2.2.2.2.1.2.2.2.1, .int .i64 ts[i].2.2.2.2.1.2.2.2.2, .slice A1 n1 c1, .slice B1 p1 d1] 34)
          have hBi := hbs.trans (hAi.mono hbs.size)
          have hst := hide (any_take_succ (saidOf 3 c (kk : Int)) ts i hlx)
          have hse := hide (saidOf_eq 3 c (kk : Int) ts[i])
          have hr := fun W => run_eq_req ts[i].2.2.2.2.1 c.2.2 W
          have q3 := q2.below hAi
          cases is
          · cases e1 : (ts[i].1 == 3)
            · have hno := hide e1
              go_wp2
              go_roundw
              case rel => exact ⟨i + 1, false, by omega, by go_num, rfl, hide (by rw [hst.out, hany.out, hse.out]; simp [hno.out]), q3, hBi⟩
              case measure => simp [intOf]; omega
            · cases e2 : (ts[i].2.1 == (kk : Int))
              · have hno := hide e2
                go_wp2
                go_roundw
                case rel => exact ⟨i + 1, false, by omega, by go_num, rfl, hide (by rw [hst.out, hany.out, hse.out]; simp [hno.out]), q3, hBi⟩
                case measure => simp [intOf]; omega
              · cases e3 : (ts[i].2.2.1 == c.2.1)
                · have hno := hide e3
                  go_wp2
                  go_roundw
                  case rel => exact ⟨i + 1, false, by omega, by go_num, rfl, hide (by rw [hst.out, hany.out, hse.out]; simp [hno.out]), q3, hBi⟩
                  case measure => simp [intOf]; omega
                · cases e4 : (ts[i].2.2.2.1 == c.1)
                  · have hno := hide e4
                    go_wp2
                    go_roundw
                    case rel => exact ⟨i + 1, false, by omega, by go_num, rfl, hide (by rw [hst.out, hany.out, hse.out]; simp [hno.out]), q3, hBi⟩
                    case measure => simp [intOf]; omega
                  · cases e5 : decide (ts[i].2.2.2.2.1 = c.2.2)
                    · have hno := hide e5
                      simp only [e5] at hr
                      go_wp2
                      go_roundw
                      case rel => exact ⟨i + 1, false, by omega, by go_num, rfl, hide (by rw [hst.out, hany.out, hse.out]; simp [hno.out]), q3, hBi⟩
                      case measure => simp [intOf]; omega
                    · have hs1 := hide e1
                      have hs2 := hide e2
                      have hs3 := hide e3
                      have hs4 := hide e4
                      have hs5 := hide e5
                      simp only [e5] at hr
                      go_wp2
                      go_roundw
                      case rel => exact ⟨i + 1, true, by omega, by go_num, rfl, hide (by rw [hst.out, hany.out, hse.out]; simp [hs1.out, hs2.out, hs3.out, hs4.out, hs5.out]), q3, hBi⟩
                      case measure => simp [intOf]; omega
          · go_wp2
            go_roundw
            case rel => exact ⟨i + 1, true, by omega, by go_num, rfl, hide (by rw [hst.out, hany.out, hse.out]; simp []), q3, hBi⟩
            case measure => simp [intOf]; omega
        · obtain rfl : i = n := by omega
          have hall : Hid (ts.any (saidOf 3 c (kk : Int)) = is) := hide (by
            have := hany.out
            rw [hn'.out, List.take_length] at this
            exact this)
          have hsx := hide (hsucc.out kk)
          cases is
          · go_wp2
            go_roundw
            case rel => exact ⟨kk + 1, m, by omega, by omega, by go_num, by first | rfl | go_num, hide (by rw [hsx.out, hall.out, hcnt.out]; simp []), q2, hbs⟩
            case measure => simp [intOf]; omega
          · cases e6 : ((kk : Int) != leadOf c.2.1)
            · have hno : Hid ((kk : Int) = leadOf c.2.1) := hide (by simpa using e6)
              go_wp2_with (first
                | (go_at_call 71; refine (l3Leader_c _ _ hv0 hv1).mono ?_; rintro e w2 ⟨rfl, rfl⟩; rw [hle.out])
                | fail)
              go_roundw
              case rel => exact ⟨kk + 1, m, by omega, by omega, by go_num, by first | rfl | go_num, hide (by rw [hsx.out, hall.out, hcnt.out]; simp [hno.out]), q2, hbs⟩
              case measure => simp [intOf]; omega
            · have hno : Hid (¬ (kk : Int) = leadOf c.2.1) := hide (by simpa using e6)
              go_wp2_with (first
                | (go_at_call 71; refine (l3Leader_c _ _ hv0 hv1).mono ?_; rintro e w2 ⟨rfl, rfl⟩; rw [hle.out])
                | fail)
              go_roundw
              case rel => exact ⟨kk + 1, m + 1, by omega, by omega, by go_num, by first | rfl | go_num, hide (by rw [hsx.out, hall.out, hcnt.out]; simp [hno.out]), q2, hbs⟩
              case measure => simp [intOf]; omega
    · obtain rfl : kk = 4 := by omega
      have hfin : Hid (countOf ts 3 c (leadOf c.2.1) = m) := hide (by rw [← hfour.out, hcnt.out])
      go_wp2
      go_ret
      exact ⟨congrArg (fun b : Nat => Ending.returned (.int .i64 (b : Int))) hfin.out.symm, hbr⟩
theorem l4Ready0_c (A : Option Addr) (n c0 lo hi : Nat) (ts : List MsgT) (c : ClaimT) (w : World) (hs : RdN 11 msgR w lo hi A n c0 ts) (hhi : hi ≤ w.heap.size) (hv0 : 0 ≤ c.2.1) (hv1 : c.2.1 ≤ 1000000) :
    Calls Try.prog 23 #[.slice A n c0, .agg #[.int .i64 c.1, .int .i64 c.2.1, .int .i64 c.2.2.1, .int .i64 c.2.2.2.1, .int .i64 c.2.2.2.2.1, .int .i64 c.2.2.2.2.2.1, .int .i64 c.2.2.2.2.2.2]] w fun e w' => e = .returned (.bool (offered ts c && decide (2 ≤ countOf ts 3 c (leadOf c.2.1)))) ∧ Below w.heap.size w w' := by
  have hA := (Below.refl w.heap.size w).alloc (Nat.le_refl _) (.cells #[.int .i64 c.1, .int .i64 c.2.1, .int .i64 c.2.2.1, .int .i64 c.2.2.2.1, .int .i64 c.2.2.2.2.1, .int .i64 c.2.2.2.2.2.1, .int .i64 c.2.2.2.2.2.2] 27)
  have hz := hA.size
  have q0 := BxC.made w c
  have hl := q0.lt
  have hs1 := hs.below msg_kept hA hhi
  obtain ⟨y0, y1, y2, y3, y4, y5, y6, yf0, yf1, yf2, yf3, yf4, yf5, yf6⟩ := q0.cells
  go_enter Try.func23, Try.ntmps23
  have hsn := hide (fun W (h : Below (w.alloc (.cells #[.int .i64 c.1, .int .i64 c.2.1, .int .i64 c.2.2.1, .int .i64 c.2.2.2.1, .int .i64 c.2.2.2.2.1, .int .i64 c.2.2.2.2.2.1, .int .i64 c.2.2.2.2.2.2] 27)).heap.size (w.alloc (.cells #[.int .i64 c.1, .int .i64 c.2.1, .int .i64 c.2.2.1, .int .i64 c.2.2.2.1, .int .i64 c.2.2.2.2.1, .int .i64 c.2.2.2.2.2.1, .int .i64 c.2.2.2.2.2.2] 27)) W) => l4Yes_c A n c0 lo hi ts c W (hs1.below msg_kept h (Nat.le_trans hhi hz)) (Nat.le_trans hhi (Nat.le_trans hz h.size)) hv0 hv1)
  go_wp2_with fail
  generalize w.alloc (.cells #[.int .i64 c.1, .int .i64 c.2.1, .int .i64 c.2.2.1, .int .i64 c.2.2.2.1, .int .i64 c.2.2.2.2.1, .int .i64 c.2.2.2.2.2.1, .int .i64 c.2.2.2.2.2.2] 27) = w0 at *
  refine (l4Offered_c A n c0 lo hi ts c w0 hs1 (Nat.le_trans hhi hz) hv0 hv1).mono ?_
  rintro e w1 ⟨rfl, hb1⟩
  have hB1 := hA.trans (hb1.mono hz)
  have y0 := keepc hb1 y0
  have y1 := keepc hb1 y1
  have y2 := keepc hb1 y2
  have y3 := keepc hb1 y3
  have y4 := keepc hb1 y4
  have y5 := keepc hb1 y5
  have y6 := keepc hb1 y6
  cases e1 : offered ts c
  · have e1h := hide e1
    go_wp2
    go_ret
    exact ⟨by rw [e1h.out]; rfl, hB1⟩
  · have e1h := hide e1
    go_wp2_with fail
    refine (hsn.out w1 hb1).mono ?_
    rintro e w2 ⟨rfl, hb2⟩
    go_wp2
    go_ret
    exact ⟨congrArg (fun b => Ending.returned (.bool b)) (by rw [e1h.out, Bool.true_and, Bool.eq_iff_iff]; simp; omega), hB1.trans (hb2.mono hB1.size)⟩
theorem l4Ready_c (A : Option Addr) (n c0 lo hi : Nat) (ts : List MsgT) (c : ClaimT) (w : World) (hs : RdN 11 msgR w lo hi A n c0 ts) (hhi : hi ≤ w.heap.size) (hv0 : 0 ≤ c.2.1) (hv1 : c.2.1 ≤ 1000000) :
    Calls Try.prog 23 #[.slice A n c0, .agg #[.int .i64 c.1, .int .i64 c.2.1, .int .i64 c.2.2.1, .int .i64 c.2.2.2.1, .int .i64 c.2.2.2.2.1, .int .i64 c.2.2.2.2.2.1, .int .i64 c.2.2.2.2.2.2]] w fun e w' => e = .returned (.bool (readyL ts c)) ∧ Below w.heap.size w w' := l4Ready0_c A n c0 lo hi ts c w hs hhi hv0 hv1
end Go.Proofs.Ytopmbnnjhoinkaa
