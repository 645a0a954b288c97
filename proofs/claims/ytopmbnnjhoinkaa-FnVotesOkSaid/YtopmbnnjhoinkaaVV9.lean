/-
  What 'FVd' rests on (texts of this seat put together: NU NVa).
  Conditions: none.
-/
import Derived.Test.YtopmbnnjhoinkaaVV7
import Derived.Test.YtopmbnnjhoinkaaVV8
namespace Go.Proofs.Ytopmbnnjhoinkaa
open Go.RowKit Rg
set_option linter.unusedVariables false
set_option linter.unusedSimpArgs false
set_option maxHeartbeats 1000000
def BxQ (w : World) (b : Nat) (r : ReqV) : Prop := w.heap[b]? = some (.cells #[.int .i64 r.1, .int .i64 r.2.1, .int .i64 r.2.2.1, .int .i64 r.2.2.2.1, .int .i64 r.2.2.2.2] 25 (0, 0))
def BxC (w : World) (b : Nat) (t : ClaimT) : Prop := w.heap[b]? = some (.cells #[.int .i64 t.1, .int .i64 t.2.1, .int .i64 t.2.2.1, .int .i64 t.2.2.2.1, .int .i64 t.2.2.2.2.1, .int .i64 t.2.2.2.2.2.1, .int .i64 t.2.2.2.2.2.2] 27 (0, 0))
theorem BxQ.lt {w : World} {b : Nat} {r : ReqV} (h : BxQ w b r) : b < w.heap.size := lt_of_heap h
theorem BxC.lt {w : World} {b : Nat} {t : ClaimT} (h : BxC w b t) : b < w.heap.size := lt_of_heap h
theorem BxQ.below {w w' : World} {b : Nat} {r : ReqV} (h : BxQ w b r) (hb : Below w.heap.size w w') : BxQ w' b r := (hb.block b h.lt).trans h
theorem BxC.below {w w' : World} {b : Nat} {t : ClaimT} (h : BxC w b t) (hb : Below w.heap.size w w') : BxC w' b t := (hb.block b h.lt).trans h
theorem BxQ.cells {w : World} {b : Nat} {r : ReqV} (h : BxQ w b r) : w.cell? ⟨b, 0, none⟩ = some (.int .i64 r.1) ∧ w.cell? ⟨b, 1, none⟩ = some (.int .i64 r.2.1) ∧ w.cell? ⟨b, 2, none⟩ = some (.int .i64 r.2.2.1) ∧ w.cell? ⟨b, 3, none⟩ = some (.int .i64 r.2.2.2.1) ∧ w.cell? ⟨b, 4, none⟩ = some (.int .i64 r.2.2.2.2) ∧ w.frozen? ⟨b, 0, none⟩ = false ∧ w.frozen? ⟨b, 1, none⟩ = false ∧ w.frozen? ⟨b, 2, none⟩ = false ∧ w.frozen? ⟨b, 3, none⟩ = false ∧ w.frozen? ⟨b, 4, none⟩ = false := by
  simp [BxQ] at h
  simp [World.cell?, World.frozen?, h]
theorem BxC.cells {w : World} {b : Nat} {t : ClaimT} (h : BxC w b t) : w.cell? ⟨b, 0, none⟩ = some (.int .i64 t.1) ∧ w.cell? ⟨b, 1, none⟩ = some (.int .i64 t.2.1) ∧ w.cell? ⟨b, 2, none⟩ = some (.int .i64 t.2.2.1) ∧ w.cell? ⟨b, 3, none⟩ = some (.int .i64 t.2.2.2.1) ∧ w.cell? ⟨b, 4, none⟩ = some (.int .i64 t.2.2.2.2.1) ∧ w.cell? ⟨b, 5, none⟩ = some (.int .i64 t.2.2.2.2.2.1) ∧ w.cell? ⟨b, 6, none⟩ = some (.int .i64 t.2.2.2.2.2.2) ∧ w.frozen? ⟨b, 0, none⟩ = false ∧ w.frozen? ⟨b, 1, none⟩ = false ∧ w.frozen? ⟨b, 2, none⟩ = false ∧ w.frozen? ⟨b, 3, none⟩ = false ∧ w.frozen? ⟨b, 4, none⟩ = false ∧ w.frozen? ⟨b, 5, none⟩ = false ∧ w.frozen? ⟨b, 6, none⟩ = false := by
  simp [BxC] at h
  simp [World.cell?, World.frozen?, h]
theorem BxQ.set {w : World} {b : Nat} {r : ReqV} (h : BxQ w b r) (s : ReqV) : BxQ (((((w.setCell ⟨b, 0, none⟩ (.int .i64 s.1)).setCell ⟨b, 1, none⟩ (.int .i64 s.2.1)).setCell ⟨b, 2, none⟩ (.int .i64 s.2.2.1)).setCell ⟨b, 3, none⟩ (.int .i64 s.2.2.2.1)).setCell ⟨b, 4, none⟩ (.int .i64 s.2.2.2.2)) b s := by
  simp [BxQ] at h ⊢
  simp [World.setCell, Array.getElem?_modify, h]
theorem BxQ.keep5 {w : World} {b c : Nat} {r : ReqV} (h : BxQ w b r) (hne : b ≠ c) (a0 a1 a2 a3 a4 : Value) : BxQ (((((w.setCell ⟨c, 0, none⟩ a0).setCell ⟨c, 1, none⟩ a1).setCell ⟨c, 2, none⟩ a2).setCell ⟨c, 3, none⟩ a3).setCell ⟨c, 4, none⟩ a4) b r :=
  ((((((Below.heap_setCell _ ⟨c, 4, none⟩ _ b hne).trans (Below.heap_setCell _ ⟨c, 3, none⟩ _ b hne)).trans (Below.heap_setCell _ ⟨c, 2, none⟩ _ b hne)).trans (Below.heap_setCell _ ⟨c, 1, none⟩ _ b hne)).trans (Below.heap_setCell _ ⟨c, 0, none⟩ _ b hne)).trans h)
theorem BxC.set {w : World} {b : Nat} {t : ClaimT} (h : BxC w b t) (s : ClaimT) : BxC (((((((w.setCell ⟨b, 0, none⟩ (.int .i64 s.1)).setCell ⟨b, 1, none⟩ (.int .i64 s.2.1)).setCell ⟨b, 2, none⟩ (.int .i64 s.2.2.1)).setCell ⟨b, 3, none⟩ (.int .i64 s.2.2.2.1)).setCell ⟨b, 4, none⟩ (.int .i64 s.2.2.2.2.1)).setCell ⟨b, 5, none⟩ (.int .i64 s.2.2.2.2.2.1)).setCell ⟨b, 6, none⟩ (.int .i64 s.2.2.2.2.2.2)) b s := by
  simp [BxC] at h ⊢
  simp [World.setCell, Array.getElem?_modify, h]
theorem BxQ.made (w : World) (r : ReqV) : BxQ (w.alloc (.cells #[.int .i64 r.1, .int .i64 r.2.1, .int .i64 r.2.2.1, .int .i64 r.2.2.2.1, .int .i64 r.2.2.2.2] 25)) w.heap.size r := heap_alloc_new w _
theorem BxC.made (w : World) (t : ClaimT) : BxC (w.alloc (.cells #[.int .i64 t.1, .int .i64 t.2.1, .int .i64 t.2.2.1, .int .i64 t.2.2.2.1, .int .i64 t.2.2.2.2.1, .int .i64 t.2.2.2.2.2.1, .int .i64 t.2.2.2.2.2.2] 27)) w.heap.size t := heap_alloc_new w _
theorem clsOf_succ (ts : List VoteT) (k : Nat) (hk : k < ts.length) : clsOf (ts.take (k + 1)) = clsOf (ts.take k) ++ ts[k].2 := by
  unfold clsOf
  rw [List.take_succ_eq_append_getElem hk, List.flatMap_append, List.flatMap_cons, List.flatMap_nil, List.append_nil]
theorem clsOf_all {ts : List VoteT} {n : Nat} (hn : n = ts.length) : clsOf (ts.take n) = clsOf ts := by
  rw [List.take_of_length_le (by omega)]
def seen (ts : List VoteT) (i j : Nat) (h : i < ts.length) : List ClaimT := clsOf (ts.take i) ++ (ts[i].2).take j
theorem seen_zero (ts : List VoteT) (i : Nat) (h : i < ts.length) : seen ts i 0 h = clsOf (ts.take i) := by simp [seen]
theorem seen_succ (ts : List VoteT) (i j : Nat) (h : i < ts.length) (hj : j < ts[i].2.length) : seen ts i (j + 1) h = seen ts i j h ++ [ts[i].2[j]] := by
  unfold seen
  rw [List.take_succ_eq_append_getElem hj, List.append_assoc]
theorem seen_all {ts : List VoteT} {i m : Nat} (h : i < ts.length) (hm : m = ts[i].2.length) : seen ts i m h = clsOf (ts.take (i + 1)) := by
  unfold seen
  have h9 : (ts[i].2).take m = ts[i].2 := List.take_of_length_le (by omega)
  rw [clsOf_succ ts i h, h9]
theorem pickS_snoc (seq : Int) (cs : List ClaimT) (c : ClaimT) : pickS seq (cs ++ [c]) = pickStep seq (pickS seq cs) c := by
  unfold pickS
  rw [List.foldl_append]; rfl
theorem reachB_snoc (seq : Int) (cs : List ClaimT) (c : ClaimT) : reachB seq (cs ++ [c]) = (reachB seq cs || decide (seq ≤ c.1)) := by simp [reachB]
theorem step_yes {seq : Int} {s : PickS} {c : ClaimT} (h1 : (c.1 == seq) = true) (h2 : s.1 = false ∨ decide (s.2.1 < c.2.1) = true) : pickStep seq s c = (true, c.2.1, c.2.2) := by
  unfold pickStep
  rw [if_pos]
  exact ⟨by simpa using h1, by rcases h2 with h | h; exact .inl h; exact .inr (by simpa using h)⟩
theorem step_no1 {seq : Int} {s : PickS} {c : ClaimT} (h1 : (c.1 == seq) = false) : pickStep seq s c = s := by
  unfold pickStep
  rw [if_neg]
  rintro ⟨h, _⟩
  simp [h] at h1
theorem step_no2 {seq : Int} {s : PickS} {c : ClaimT} (h2 : s.1 = true) (h3 : decide (s.2.1 < c.2.1) = false) : pickStep seq s c = s := by
  unfold pickStep
  rw [if_neg]
  rintro ⟨_, h | h⟩
  · rw [h2] at h; cases h
  · simp [h] at h3
set_option maxHeartbeats 1000000 in
theorem l4Top_c (A : Option Addr) (n c lo hi : Nat) (ts : List VoteT) (w : World) (hs : RdN 2 voteR w lo hi A n c ts) :
    Calls Try.prog 72 #[.slice A n c] w fun e w' => e = .returned (.int .i64 (topOf (clsOf ts))) ∧ w = w' := by
  have hn' := hide hs.len
  have hc1 := hs.cap
  have hc2 := hs.max
  unfold maxLen at hc2
  go_enter Try.func72, Try.ntmps72
  go_wp2
  go_loop [3, 4, 5] (fun t i _ => ∃ k : Nat, k ≤ n ∧ i = .int .i64 k ∧ t = .int .i64 (topOf (clsOf (ts.take k)))) (fun _ i _ => n - (intOf i).toNat)
  case atStart => exact ⟨0, Nat.zero_le _, rfl, rfl⟩
  case round =>
    obtain ⟨k, hk, rfl, rfl⟩ := hrel
    by_cases hlt : k < n
    · have hlx : k < ts.length := by have := hn'.out; omega
      obtain ⟨b, off, rfl, hlo, hbh⟩ := hs.addr hlx
      obtain ⟨A1, n1, c1, a0, a1, r0⟩ := hs.vote hlx
      have hm' := hide r0.len
      have hm1 := r0.cap
      have hm2 := r0.max
      unfold maxLen at hm2
      have hseen := hide (seen_all hlx hm'.out)
      have hz0 := hide (seen_zero ts k hlx)
      rw [← hz0.out]
      go_wp2
      go_loop [3, 5] (fun t j => ∃ m : Nat, m ≤ n1 ∧ j = .int .i64 m ∧ t = .int .i64 (topOf (seen ts k m hlx))) (fun _ j => n1 - (intOf j).toNat)
      case atStart => exact ⟨0, Nat.zero_le _, rfl, rfl⟩
      case round =>
        obtain ⟨m, hm, rfl, rfl⟩ := hrel
        by_cases hlm : m < n1
        · have hlc : m < ts[k].2.length := by have := hm'.out; omega
          obtain ⟨b2, off2, rfl, _, _⟩ := r0.addr hlc
          obtain ⟨p0, _⟩ := r0.claim hlc
          have hst := hide (seen_succ ts k m hlx hlc)
          cases e1 : decide (topOf (seen ts k m hlx) < ts[k].2[m].1)
          · have he := hide e1
            go_wp2
            go_round
            case rel => exact ⟨m + 1, by omega, by go_num, by rw [hst.out, topOf_snoc, if_neg (of_decide_eq_false he.out)]⟩
            case measure => simp [intOf]; omega
          · have he := hide e1
            go_wp2
            go_round
            case rel => exact ⟨m + 1, by omega, by go_num, by rw [hst.out, topOf_snoc, if_pos (of_decide_eq_true he.out)]⟩
            case measure => simp [intOf]; omega
        · obtain rfl : m = n1 := by omega
          go_wp2
          go_round
          case rel => exact ⟨k + 1, by omega, by go_num, by rw [hseen.out]⟩
          case measure => simp [intOf]; omega
    · obtain rfl : k = n := by omega
      have hall := hide (clsOf_all hn'.out)
      go_wp2
      go_ret
      exact ⟨congrArg (fun b => Ending.returned (.int .i64 b)) (by rw [hall.out]), rfl⟩
set_option maxRecDepth 100000 in
set_option maxHeartbeats 4000000 in
theorem l4Pick_c (A : Option Addr) (n c lo hi : Nat) (ts : List VoteT) (seq : Int) (w : World) (hs : RdN 2 voteR w lo hi A n c ts) (hhi : hi ≤ w.heap.size) :
    Calls Try.prog 73 #[.slice A n c, .int .i64 seq] w fun e w' => e = .returned (.agg #[.int .i64 (pickOf (clsOf ts) seq).1, .int .i64 (pickOf (clsOf ts) seq).2.1, .int .i64 (pickOf (clsOf ts) seq).2.2.1, .int .i64 (pickOf (clsOf ts) seq).2.2.2.1, .int .i64 (pickOf (clsOf ts) seq).2.2.2.2]) ∧ Below w.heap.size w w' := by
  have hn' := hide hs.len
  have hc1 := hs.cap
  have hc2 := hs.max
  unfold maxLen at hc2
  have hs0 : (w.alloc (.cells #[.int .i64 0, .int .i64 0, .int .i64 0, .int .i64 0, .int .i64 0] 25)).heap.size = w.heap.size + 1 := by simp
  have q1 : BxQ ((w.alloc (.cells #[.int .i64 0, .int .i64 0, .int .i64 0, .int .i64 0, .int .i64 0] 25)).alloc (.cells #[.int .i64 0, .int .i64 0, .int .i64 0, .int .i64 0, .int .i64 0] 25)) w.heap.size (0, 0, 0, 0, 0) := (BxQ.made w (0, 0, 0, 0, 0)).below ((Below.refl _ _).alloc (Nat.le_refl _) _)
  have q2 : BxQ ((w.alloc (.cells #[.int .i64 0, .int .i64 0, .int .i64 0, .int .i64 0, .int .i64 0] 25)).alloc (.cells #[.int .i64 0, .int .i64 0, .int .i64 0, .int .i64 0, .int .i64 0] 25)) (w.heap.size + 1) (0, 0, 0, 0, 0) := by rw [← hs0]; exact BxQ.made _ (0, 0, 0, 0, 0)
  have hB : Below w.heap.size w ((w.alloc (.cells #[.int .i64 0, .int .i64 0, .int .i64 0, .int .i64 0, .int .i64 0] 25)).alloc (.cells #[.int .i64 0, .int .i64 0, .int .i64 0, .int .i64 0, .int .i64 0] 25)) := ((Below.refl _ _).alloc (Nat.le_refl _) _).alloc (by simp) _
  clear hs0
  go_enter Try.func73, Try.ntmps73
  go_wp2
  generalize (w.alloc (.cells #[.int .i64 0, .int .i64 0, .int .i64 0, .int .i64 0, .int .i64 0] 25)).alloc (.cells #[.int .i64 0, .int .i64 0, .int .i64 0, .int .i64 0, .int .i64 0] 25) = w0 at *
  go_loopw [5, 6, 8, 9, 10] (fun bv fv i _ _ wr => ∃ k : Nat, k ≤ n ∧ i = .int .i64 k ∧ fv = .bool (pickS seq (clsOf (ts.take k))).1 ∧ bv = .int .i64 (pickS seq (clsOf (ts.take k))).2.1 ∧ BxQ wr w.heap.size (0, 0, 0, 0, 0) ∧ BxQ wr (w.heap.size + 1) (pickS seq (clsOf (ts.take k))).2.2 ∧ Below w.heap.size w wr) (fun _ _ i _ _ _ => n - (intOf i).toNat)
  case atStart => exact ⟨0, Nat.zero_le _, rfl, rfl, rfl, q1, q2, hB⟩
  case round =>
    obtain ⟨k, hk, rfl, rfl, rfl, q1, q2, hbr⟩ := hrel
    by_cases hlt : k < n
    · have hlx : k < ts.length := by have := hn'.out; omega
      obtain ⟨b, off, rfl, hlo, hbh⟩ := hs.addr hlx
      obtain ⟨A1, n1, c1, a0, a1, r0⟩ := (hs.below vote_kept hbr hhi).vote hlx
      have hm' := hide r0.len
      have hm1 := r0.cap
      have hm2 := r0.max
      unfold maxLen at hm2
      have hseen := hide (seen_all hlx hm'.out)
      have hz0 := hide (seen_zero ts k hlx)
      rw [← hz0.out]
      rw [← hz0.out] at q2
      have hb0 : b < w.heap.size := by omega
      go_wp2
      go_loopw [5, 6, 9, 10] (fun bv fv j _ ws => ∃ m : Nat, m ≤ n1 ∧ j = .int .i64 m ∧ fv = .bool (pickS seq (seen ts k m hlx)).1 ∧ bv = .int .i64 (pickS seq (seen ts k m hlx)).2.1 ∧ BxQ ws w.heap.size (0, 0, 0, 0, 0) ∧ BxQ ws (w.heap.size + 1) (pickS seq (seen ts k m hlx)).2.2 ∧ Below w.heap.size wr ws) (fun _ _ j _ _ => n1 - (intOf j).toNat)
      case atStart => exact ⟨0, Nat.zero_le _, rfl, rfl, rfl, q1, q2, Below.refl _ _⟩
      case round =>
        obtain ⟨m, hm, rfl, rfl, rfl, q1, q2, hbs⟩ := hrel
        have hrs := hbr.trans hbs
        have a1s := (hbs.cell (p := ⟨b, off + k * 2 + 1, none⟩) hb0).trans a1
        have r0s := r0.below (flat_kept _) hbs hhi
        obtain ⟨y0, y1, y2, y3, y4, yf0, yf1, yf2, yf3, yf4⟩ := q2.cells
        have hl2 := q2.lt
        have hl1 := q1.lt
        by_cases hlm : m < n1
        · have hlc : m < ts[k].2.length := by have := hm'.out; omega
          obtain ⟨b2, off2, rfl, hlo2, hbh2⟩ := r0.addr hlc
          obtain ⟨p0, p1, p2, p3, p4, p5, p6⟩ := r0s.claim hlc
          have hst := hide (seen_succ ts k m hlx hlc)
          have hA := (Below.refl wr.heap.size wr).alloc (Nat.le_refl _) (.cells #[.int .i64 ts[k].2[m].1, .int .i64 ts[k].2[m].2.1, .int .i64 ts[k].2[m].2.2.1, .int .i64 ts[k].2[m].2.2.2.1, .int .i64 ts[k].2[m].2.2.2.2.1, .int .i64 ts[k].2[m].2.2.2.2.2.1, .int .i64 ts[k].2[m].2.2.2.2.2.2] 27)
          have hne2 : w.heap.size + 1 ≠ wr.heap.size := by omega
          cases e1 : (ts[k].2[m].1 == seq)
          · have hx : Hid (pickS seq (seen ts k (m + 1) hlx) = pickS seq (seen ts k m hlx)) := hide (by rw [hst.out, pickS_snoc, step_no1 e1])
            go_wp2
            go_roundw
            case rel => exact ⟨m + 1, by omega, by go_num, by rw [hx.out], by rw [hx.out], q1.below hA, by rw [hx.out]; exact q2.below hA, hbs.trans (hA.mono (by omega))⟩
            case measure => simp [intOf]; omega
          · cases e2 : (pickS seq (seen ts k m hlx)).1
            · have hx : Hid (pickS seq (seen ts k (m + 1) hlx) = (true, ts[k].2[m].2.1, ts[k].2[m].2.2)) := hide (by rw [hst.out, pickS_snoc, step_yes e1 (.inl e2)])
              have hk : Below w.heap.size wr (((((wr.setCell ⟨w.heap.size + 1, 0, none⟩ (.int .i64 ts[k].2[m].2.2.1)).setCell ⟨w.heap.size + 1, 1, none⟩ (.int .i64 ts[k].2[m].2.2.2.1)).setCell ⟨w.heap.size + 1, 2, none⟩ (.int .i64 ts[k].2[m].2.2.2.2.1)).setCell ⟨w.heap.size + 1, 3, none⟩ (.int .i64 ts[k].2[m].2.2.2.2.2.1)).setCell ⟨w.heap.size + 1, 4, none⟩ (.int .i64 ts[k].2[m].2.2.2.2.2.2)) := (((((Below.refl _ _).setCell (by simp) _).setCell (by simp) _).setCell (by simp) _).setCell (by simp) _).setCell (by simp) _
              have q1k : BxQ (((((wr.setCell ⟨w.heap.size + 1, 0, none⟩ (.int .i64 ts[k].2[m].2.2.1)).setCell ⟨w.heap.size + 1, 1, none⟩ (.int .i64 ts[k].2[m].2.2.2.1)).setCell ⟨w.heap.size + 1, 2, none⟩ (.int .i64 ts[k].2[m].2.2.2.2.1)).setCell ⟨w.heap.size + 1, 3, none⟩ (.int .i64 ts[k].2[m].2.2.2.2.2.1)).setCell ⟨w.heap.size + 1, 4, none⟩ (.int .i64 ts[k].2[m].2.2.2.2.2.2)) w.heap.size (0, 0, 0, 0, 0) := q1.keep5 (by omega) _ _ _ _ _
              go_wp2
              go_roundw
              case rel => exact ⟨m + 1, by omega, by go_num, by rw [hx.out], by rw [hx.out], (q1k.below ((Below.refl _ _).alloc (Nat.le_refl _) _)), by rw [hx.out]; exact ((q2.set ts[k].2[m].2.2).below ((Below.refl _ _).alloc (Nat.le_refl _) _)), (hbs.trans (hk.alloc (by simp; omega) _))⟩
              case measure => simp [intOf]; omega
            · cases e3 : decide ((pickS seq (seen ts k m hlx)).2.1 < ts[k].2[m].2.1)
              · have hx : Hid (pickS seq (seen ts k (m + 1) hlx) = pickS seq (seen ts k m hlx)) := hide (by rw [hst.out, pickS_snoc, step_no2 e2 e3])
                go_wp2
                go_roundw
                case rel => exact ⟨m + 1, by omega, by go_num, by rw [hx.out, e2], by rw [hx.out], q1.below hA, by rw [hx.out]; exact q2.below hA, hbs.trans (hA.mono (by omega))⟩
                case measure => simp [intOf]; omega
              · have hx : Hid (pickS seq (seen ts k (m + 1) hlx) = (true, ts[k].2[m].2.1, ts[k].2[m].2.2)) := hide (by rw [hst.out, pickS_snoc, step_yes e1 (.inr e3)])
                have hk : Below w.heap.size wr (((((wr.setCell ⟨w.heap.size + 1, 0, none⟩ (.int .i64 ts[k].2[m].2.2.1)).setCell ⟨w.heap.size + 1, 1, none⟩ (.int .i64 ts[k].2[m].2.2.2.1)).setCell ⟨w.heap.size + 1, 2, none⟩ (.int .i64 ts[k].2[m].2.2.2.2.1)).setCell ⟨w.heap.size + 1, 3, none⟩ (.int .i64 ts[k].2[m].2.2.2.2.2.1)).setCell ⟨w.heap.size + 1, 4, none⟩ (.int .i64 ts[k].2[m].2.2.2.2.2.2)) := (((((Below.refl _ _).setCell (by simp) _).setCell (by simp) _).setCell (by simp) _).setCell (by simp) _).setCell (by simp) _
                have q1k : BxQ (((((wr.setCell ⟨w.heap.size + 1, 0, none⟩ (.int .i64 ts[k].2[m].2.2.1)).setCell ⟨w.heap.size + 1, 1, none⟩ (.int .i64 ts[k].2[m].2.2.2.1)).setCell ⟨w.heap.size + 1, 2, none⟩ (.int .i64 ts[k].2[m].2.2.2.2.1)).setCell ⟨w.heap.size + 1, 3, none⟩ (.int .i64 ts[k].2[m].2.2.2.2.2.1)).setCell ⟨w.heap.size + 1, 4, none⟩ (.int .i64 ts[k].2[m].2.2.2.2.2.2)) w.heap.size (0, 0, 0, 0, 0) := q1.keep5 (by omega) _ _ _ _ _
                go_wp2
                go_roundw
                case rel => exact ⟨m + 1, by omega, by go_num, by rw [hx.out], by rw [hx.out], (q1k.below ((Below.refl _ _).alloc (Nat.le_refl _) _)), by rw [hx.out]; exact ((q2.set ts[k].2[m].2.2).below ((Below.refl _ _).alloc (Nat.le_refl _) _)), (hbs.trans (hk.alloc (by simp; omega) _))⟩
                case measure => simp [intOf]; omega
        · obtain rfl : m = n1 := by omega
          go_wp2
          go_roundw
          case rel => exact ⟨k + 1, by omega, by go_num, by rw [hseen.out], by rw [hseen.out], q1, by rw [← hseen.out]; exact q2, hrs⟩
          case measure => simp [intOf]; omega
    · obtain rfl : k = n := by omega
      have hall := hide (clsOf_all hn'.out)
      obtain ⟨y0, y1, y2, y3, y4, yf0, yf1, yf2, yf3, yf4⟩ := q2.cells
      obtain ⟨z0, z1, z2, z3, z4, zf0, zf1, zf2, zf3, zf4⟩ := q1.cells
      have hl2 := q2.lt
      rw [hall.out] at y0 y1 y2 y3 y4
      go_wp2
      refine bodyPost_ret (v := .agg #[.int .i64 (pickOf (clsOf ts) seq).1, .int .i64 (pickOf (clsOf ts) seq).2.1, .int .i64 (pickOf (clsOf ts) seq).2.2.1, .int .i64 (pickOf (clsOf ts) seq).2.2.2.1, .int .i64 (pickOf (clsOf ts) seq).2.2.2.2]) (by simp [results, Try.results73, go_sem, pickOf, y0, y1, y2, y3, y4, yf0, yf1, yf2, yf3, yf4, z0, z1, z2, z3, z4, zf0, zf1, zf2, zf3, zf4]) rfl ⟨rfl, ?_⟩
      repeat (first | (with_reducible exact hbr) | (with_reducible refine Below.drew ?_) | ((with_reducible refine Below.setCell ?_ ?_ _); rotate_left; (focus (first | (simp; done) | (simp; omega)))))
theorem BxC.only {w w' : World} {b : Nat} {t : ClaimT} {g : Option Nat} (h : BxC w b t) (ho : Only w.heap.size g w w') (hne : g ≠ some b) : BxC w' b t := (ho.block b h.lt hne).trans h
theorem Grow.lt {α : Type} {sz : Nat} {e : TypeId} {R : ElR α} {w : World} {lo : Nat} {v : Value} {ts : List α} (h : Grow sz e R w lo v ts) : ∀ k, v.ownBlock = some k → lo ≤ k ∧ k < w.heap.size := by
  obtain ⟨ls, h1, _⟩ := h
  exact h1.lt
theorem Grow.only {α : Type} {sz : Nat} {e : TypeId} {R : ElR α} {w w' : World} {lo g : Nat} {v : Value} {ts : List α} (K : Kept R) (h : Grow sz e R w lo v ts) (ho : Only w.heap.size (some g) w w') (hg : g < lo) : Grow sz e R w' lo v ts :=
  h.keep K ho.size fun b h1 h2 => ho.block b h2 (fun e => by injection e with e; omega)
end Go.Proofs.Ytopmbnnjhoinkaa
