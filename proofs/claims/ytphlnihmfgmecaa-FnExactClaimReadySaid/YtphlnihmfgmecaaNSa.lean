/-
  Who said something of a claim: 'senders'; whether a claim is proposed, ready, done, in the program. (Printed by gen_nsa.py.)
  Conditions: none.
-/
import Derived.Test.YtphlnihmfgmecaaNSw
import Derived.Test.YtphlnihmfgmecaaNV
import Derived.Test.YtphlnihmfgmecaaNE
namespace Go.Proofs.Ytphlnihmfgmecaa
open Go.RowKit Rg Go.Maps
set_option linter.unusedVariables false
set_option linter.unusedSimpArgs false

theorem keyInt : Keyed Try.prog 3 := int_keyed Try.underlying3
theorem said_no {kind but : Int} {c : ClaimT} {x : MsgT} (h : (x.1 == kind) = false ∨ inB x.2.1 0 3 = false ∨ (x.2.1 != but) = false ∨ (x.2.2.1 == c.2.1) = false ∨ (x.2.2.2.1 == c.1) = false ∨ decide (x.2.2.2.2.1 = c.2.2) = false) (j : Int) (h0 : 0 ≤ j) (h3 : j ≤ 3) :
    (decide (j ≠ but) && saidOf kind c j x) = false := by
  rw [Bool.eq_false_iff]
  intro h9
  unfold saidOf inB at *
  simp only [Bool.and_eq_true, decide_eq_true_eq] at h9
  obtain ⟨h1, h2, h4, h5, h6, h7⟩ := h9
  simp [h2, h4, h5, h6, h7, h1] at h
  omega
theorem said_yes {kind but : Int} {c : ClaimT} {x : MsgT} (h1 : (x.1 == kind) = true) (h3 : (x.2.1 != but) = true) (h4 : (x.2.2.1 == c.2.1) = true) (h5 : (x.2.2.2.1 == c.1) = true) (h6 : decide (x.2.2.2.2.1 = c.2.2) = true) (j : Int) :
    (decide (j ≠ but) && saidOf kind c j x) = decide (j = x.2.1) := by
  rw [Bool.eq_iff_iff]
  unfold saidOf
  simp only [Bool.and_eq_true, decide_eq_true_eq]
  simp at h1 h3 h4 h5 h6
  constructor
  · rintro ⟨_, _, h, _⟩; exact h.symm
  · rintro rfl
    exact ⟨h3, h1, rfl, h4, h5, h6⟩

set_option maxRecDepth 100000 in
set_option maxHeartbeats 8000000 in
theorem senders_c (A : Option Addr) (n c0 lo hi : Nat) (ts : List MsgT) (kind : Int) (c : ClaimT) (but : Int) (w : World) (hs : RdN 11 msgR w lo hi A n c0 ts) (hhi : hi ≤ w.heap.size) :
    Calls Try.prog 161 #[.slice A n c0, .int .i64 kind, .agg #[.int .i64 c.1, .int .i64 c.2.1, .int .i64 c.2.2.1, .int .i64 c.2.2.2.1, .int .i64 c.2.2.2.2.1, .int .i64 c.2.2.2.2.2.1, .int .i64 c.2.2.2.2.2.2], .int .i64 but] w fun e w' => e = .returned (.int .i64 ((countOf ts kind c but : Nat) : Int)) ∧ Below w.heap.size w w' := by
  have hmm := @run_makeMap Try.prog
  have hn' := hide hs.len
  have hc1 := hs.cap
  have hc2 := hs.max
  unfold maxLen at hc2
  have hB0 : Below w.heap.size w ((w.alloc (.cells #[.int .i64 c.1, .int .i64 c.2.1, .int .i64 c.2.2.1, .int .i64 c.2.2.2.1, .int .i64 c.2.2.2.2.1, .int .i64 c.2.2.2.2.2.1, .int .i64 c.2.2.2.2.2.2] 34)).alloc (.map #[] 0)) := ((Below.refl _ _).alloc (Nat.le_refl _) _).alloc (by simp) _
  have q0 : BxC ((w.alloc (.cells #[.int .i64 c.1, .int .i64 c.2.1, .int .i64 c.2.2.1, .int .i64 c.2.2.2.1, .int .i64 c.2.2.2.2.1, .int .i64 c.2.2.2.2.2.1, .int .i64 c.2.2.2.2.2.2] 34)).alloc (.map #[] 0)) w.heap.size c := (BxC.made w c).below ((Below.refl _ _).alloc (Nat.le_refl _) _)
  have m0 : ((w.alloc (.cells #[.int .i64 c.1, .int .i64 c.2.1, .int .i64 c.2.2.1, .int .i64 c.2.2.2.1, .int .i64 c.2.2.2.2.1, .int .i64 c.2.2.2.2.2.1, .int .i64 c.2.2.2.2.2.2] 34)).alloc (.map #[] 0)).ownsMap Try.prog 3 (plainElem (H := Unit) Try.prog 4) (w.heap.size + 1) 0 (.map []) := by
    have := World.ownsMap_made (w.alloc (.cells #[.int .i64 c.1, .int .i64 c.2.1, .int .i64 c.2.2.1, .int .i64 c.2.2.2.1, .int .i64 c.2.2.2.2.1, .int .i64 c.2.2.2.2.2.1, .int .i64 c.2.2.2.2.2.2] 34)) Try.prog 3 (plainElem (H := Unit) Try.prog 4)
    simpa using this
  have d0 : SetD (.map []) (saidBy (ts.take 0) kind c but) := setD_none.congr (fun j _ _ => by simp [saidBy])
  go_enter Try.func161, Try.ntmps161
  go_wp2
  generalize ((w.alloc (.cells #[.int .i64 c.1, .int .i64 c.2.1, .int .i64 c.2.2.1, .int .i64 c.2.2.2.1, .int .i64 c.2.2.2.2.1, .int .i64 c.2.2.2.2.2.1, .int .i64 c.2.2.2.2.2.2] 34)).alloc (.map #[] 0)) = w0 at *
  go_loopw [15] (fun i wr => ∃ (k j : Nat) (D : DataW Unit), k ≤ n ∧ j ≤ k ∧ i = .int .i64 k ∧ wr.ownsMap Try.prog 3 (plainElem (H := Unit) Try.prog 4) (w.heap.size + 1) j D ∧ SetD D (saidBy (ts.take k) kind c but) ∧ BxC wr w.heap.size c ∧ Below w.heap.size w wr) (fun i _ => n - (intOf i).toNat)
  case atStart => exact ⟨0, 0, _, Nat.zero_le _, Nat.le_refl _, rfl, m0, d0, q0, hB0⟩
  case round =>
    obtain ⟨k, j, D, hk, hjk, rfl, hown, hD, q1, hbr⟩ := hrel
    have hl1 := q1.lt
    have hl2 := hown.lt
    obtain ⟨y0, y1, y2, y3, y4, y5, y6, yf0, yf1, yf2, yf3, yf4, yf5, yf6⟩ := q1.cells
    by_cases hlt : k < n
    · have hlx : k < ts.length := by have := hn'.out; omega
      obtain ⟨b', off, rfl, hlo, hbh⟩ := hs.addr hlx
      obtain ⟨A1, n1, c1, B1, p1, d1, a0, a1, a2, a3, a4, a5, a6, a7, a8, a9, a10, r0, r1⟩ := (hs.below msg_kept hbr hhi).msg hlx
      have hq := fun W => run_eq_req ts[k].2.2.2.2.1 c.2.2 W
      have hA := (Below.refl wr.heap.size wr).alloc (Nat.le_refl _) (.cells #[.int .i64 ts[k].1, .int .i64 ts[k].2.1, .int .i64 ts[k].2.2.1, .int .i64 ts[k].2.2.2.1, .int .i64 ts[k].2.2.2.2.1.1, .int .i64 ts[k].2.2.2.2.1.2.1, .int .i64 ts[k].2.2.2.2.1.2.2.1, .int .i64 ts[k].2.2.2.2.1.2.2.2.1, .int .i64 ts[k].2.2.2.2.1.2.2.2.2, .slice A1 n1 c1, .slice B1 p1 d1] 51)
      have hst := hide (fun jj => saidBy_take ts kind c but k hlx jj)
      have hD' := hide hD
      clear hD
      cases e1 : (ts[k].1 == kind)
      · have hD2 : Hid (SetD D (saidBy (ts.take (k + 1)) kind c but)) := hide (hD'.out.congr (fun jj h0 h3 => by rw [hst.out, said_no (.inl e1) jj h0 h3, Bool.or_false]))
        go_wp2_with (first
          | (go_at_call 81; refine (isKeeper_c _ _).mono ?_; rintro e w2 ⟨rfl, rfl⟩; rw [e2])
          | fail)
        go_roundw
        case rel => exact ⟨k + 1, j, D, by omega, by omega, by go_num, hown.alloc _, hD2.out, q1.below hA, hbr.trans (hA.mono hbr.size)⟩
        case measure => simp [intOf]; omega
      ·
        cases e2 : inB ts[k].2.1 0 3
        · have hD2 : Hid (SetD D (saidBy (ts.take (k + 1)) kind c but)) := hide (hD'.out.congr (fun jj h0 h3 => by rw [hst.out, said_no (.inr (.inl e2)) jj h0 h3, Bool.or_false]))
          go_wp2_with (first
            | (go_at_call 81; refine (isKeeper_c _ _).mono ?_; rintro e w2 ⟨rfl, rfl⟩; rw [e2])
            | fail)
          go_roundw
          case rel => exact ⟨k + 1, j, D, by omega, by omega, by go_num, hown.alloc _, hD2.out, q1.below hA, hbr.trans (hA.mono hbr.size)⟩
          case measure => simp [intOf]; omega
        ·
          cases e3 : (ts[k].2.1 != but)
          · have hD2 : Hid (SetD D (saidBy (ts.take (k + 1)) kind c but)) := hide (hD'.out.congr (fun jj h0 h3 => by rw [hst.out, said_no (.inr (.inr (.inl e3))) jj h0 h3, Bool.or_false]))
            go_wp2_with (first
              | (go_at_call 81; refine (isKeeper_c _ _).mono ?_; rintro e w2 ⟨rfl, rfl⟩; rw [e2])
              | fail)
            go_roundw
            case rel => exact ⟨k + 1, j, D, by omega, by omega, by go_num, hown.alloc _, hD2.out, q1.below hA, hbr.trans (hA.mono hbr.size)⟩
            case measure => simp [intOf]; omega
          ·
            cases e4 : (ts[k].2.2.1 == c.2.1)
            · have hD2 : Hid (SetD D (saidBy (ts.take (k + 1)) kind c but)) := hide (hD'.out.congr (fun jj h0 h3 => by rw [hst.out, said_no (.inr (.inr (.inr (.inl e4)))) jj h0 h3, Bool.or_false]))
              go_wp2_with (first
                | (go_at_call 81; refine (isKeeper_c _ _).mono ?_; rintro e w2 ⟨rfl, rfl⟩; rw [e2])
                | fail)
              go_roundw
              case rel => exact ⟨k + 1, j, D, by omega, by omega, by go_num, hown.alloc _, hD2.out, q1.below hA, hbr.trans (hA.mono hbr.size)⟩
              case measure => simp [intOf]; omega
            ·
              cases e5 : (ts[k].2.2.2.1 == c.1)
              · have hD2 : Hid (SetD D (saidBy (ts.take (k + 1)) kind c but)) := hide (hD'.out.congr (fun jj h0 h3 => by rw [hst.out, said_no (.inr (.inr (.inr (.inr (.inl e5))))) jj h0 h3, Bool.or_false]))
                go_wp2_with (first
                  | (go_at_call 81; refine (isKeeper_c _ _).mono ?_; rintro e w2 ⟨rfl, rfl⟩; rw [e2])
                  | fail)
                go_roundw
                case rel => exact ⟨k + 1, j, D, by omega, by omega, by go_num, hown.alloc _, hD2.out, q1.below hA, hbr.trans (hA.mono hbr.size)⟩
                case measure => simp [intOf]; omega
              ·
                cases e6 : decide (ts[k].2.2.2.2.1 = c.2.2)
                · have hD2 : Hid (SetD D (saidBy (ts.take (k + 1)) kind c but)) := hide (hD'.out.congr (fun jj h0 h3 => by rw [hst.out, said_no (.inr (.inr (.inr (.inr (.inr e6))))) jj h0 h3, Bool.or_false]))
                  simp only [e6] at hq
                  go_wp2_with (first
                    | (go_at_call 81; refine (isKeeper_c _ _).mono ?_; rintro e w2 ⟨rfl, rfl⟩; rw [e2])
                    | fail)
                  go_roundw
                  case rel => exact ⟨k + 1, j, D, by omega, by omega, by go_num, hown.alloc _, hD2.out, q1.below hA, hbr.trans (hA.mono hbr.size)⟩
                  case measure => simp [intOf]; omega
                ·
                  have hin : 0 ≤ ts[k].2.1 ∧ ts[k].2.1 ≤ 3 := by unfold inB at e2; simpa using e2
                  have hD2 : Hid (SetD (D.put (key4 ts[k].2.1) (.lit (.bool true))) (saidBy (ts.take (k + 1)) kind c but)) := hide (hD'.out.put hin.1 hin.2 _ (fun jj h0 h3 => by rw [hst.out, said_yes e1 e3 e4 e5 e6 jj]))
                  have hkey : keyOf Try.prog 3 (.int .i64 ts[k].2.1) = some (key4 ts[k].2.1) := keyOf_int_mk Try.underlying3 (WalkArith.wf_i64 (by omega))
                  simp only [e6] at hq
                  go_wp2_with (first
                    | (go_at_call 81; refine (isKeeper_c _ _).mono ?_; rintro e w2 ⟨rfl, rfl⟩; rw [e2])
                    | (at_mapUpdate; refine wpList_mapUpdate_own _ rfl _ _ _ 164 rfl 3 4 keyInt Try.underlying164 (plainElem (H := Unit) Try.prog 4) (w.heap.size + 1) j D rfl (hown.alloc _) (by unfold maxLen; omega) _ _ _ rfl rfl hkey _ [] (plainElem_bool Try.underlying4 true) ?_; intro w1 hown1 hgrow1)
                    | fail)
                  go_roundw
                  case rel => exact ⟨k + 1, j + 1, _, by omega, by omega, by go_num, hown1, hD2.out, (hgrow1.block _ (by simp; omega) (by simp)).trans (q1.below hA), (hbr.trans (hA.mono hbr.size)).grown hgrow1 (by simp; omega) (fun jj hj => by cases hj; omega)⟩
                  case measure => simp [intOf]; omega
    · obtain rfl : k = n := by omega
      have htk : ts.take k = ts := by rw [hn'.out]; exact List.take_length
      rw [htk] at hD
      have hsz := hide hD.size
      clear hD
      go_wp2_with (first
        | (at_len; refine wpList_len_own _ rfl _ 164 rfl 3 4 Try.underlying164 _ (w.heap.size + 1) j D rfl hown ?_)
        | fail)
      go_ret
      exact ⟨congrArg (fun b : Nat => Ending.returned (.int .i64 (b : Int))) (by rw [hsz.out, cnt4_count]), hbr⟩
end Go.Proofs.Ytphlnihmfgmecaa
