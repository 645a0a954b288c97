/-
  Who does ahead: 'size', 'AheadOk', 'l8Ok'.
  Conditions: none.
-/
import Derived.Test.YtipdkcdhnppdoaaHZg
namespace Go.Proofs.Ytipdkcdhnppdoaa
open Go.RowKit Rg
set_option linter.unusedVariables false
set_option linter.unusedSimpArgs false

def ahOk (ds ws : List ReqT) (k : Int) : Bool := ds.all okN && ws.all okN && decide (ds.length + ws.length ≤ 60) && inB k 0 99
set_option maxRecDepth 100000 in
theorem size_c (A : Option Addr) (n c : Nat) (B : Option Addr) (m d : Nat) (k : Int) (w : World) (hn : n ≤ 1048576) (hm : m ≤ 1048576) :
    Calls Try.prog 48 #[.agg #[.slice A n c, .slice B m d, .int .i64 k]] w fun e w' => e = .returned (.int .i64 ((n : Int) + (m : Int))) ∧ Below w.heap.size w w' := by
  have hA0 := (Below.refl w.heap.size w).alloc (Nat.le_refl _) (.cells #[.slice A n c, .slice B m d, .int .i64 k] 41)
  go_enter Try.func48, Try.ntmps48
  go_wp2
  go_ret
  exact ⟨rfl, hA0⟩
set_option maxRecDepth 100000 in
set_option maxHeartbeats 2000000 in
theorem AheadOk_c (A : Option Addr) (n c : Nat) (B : Option Addr) (m d : Nat) (k : Int) (lo hi : Nat) (ds ws : List ReqT) (w : World) (hs : RdN 5 (flatR encReq) w lo hi A n c ds) (hs' : RdN 5 (flatR encReq) w lo hi B m d ws) (hn : n ≤ 1048576) (hm : m ≤ 1048576) (hhi : hi ≤ w.heap.size) :
    Calls Try.prog 39 #[.agg #[.slice A n c, .slice B m d, .int .i64 k]] w fun e w' => e = .returned (.bool (ahOk ds ws k)) ∧ Below w.heap.size w w' := by
  have hA0 := (Below.refl w.heap.size w).alloc (Nat.le_refl _) (.cells #[.slice A n c, .slice B m d, .int .i64 k] 41)
  have hx0 := Bx3.made w (.slice A n c) (.slice B m d) (.int .i64 k) 41
  have hs1 := hide (hs.below (flat_kept encReq) hA0 hhi)
  have hs1' := hide (hs'.below (flat_kept encReq) hA0 hhi)
  have hnl := hide hs.len
  have hml := hide hs'.len
  have hz1 : w.heap.size + 1 ≤ (w.alloc (.cells #[.slice A n c, .slice B m d, .int .i64 k] 41)).heap.size := by simp only [World.size_alloc]; omega
  have hres : Hid (∀ a b, ds.all okN = a → ws.all okN = b → ahOk ds ws k = (a && b && decide (ds.length + ws.length ≤ 60) && inB k 0 99)) := hide (by rintro a b rfl rfl; rfl)
  clear hs hs'
  go_enter Try.func39, Try.ntmps39
  go_wp2_with fail
  generalize w.alloc (.cells #[.slice A n c, .slice B m d, .int .i64 k] 41) = w1 at *
  refine (allOk_c A n c lo hi ds w1 hs1.out (by omega)).mono ?_
  rintro e w2 ⟨rfl, hb2⟩
  have hx2 := hx0.below hb2 hx0.lt
  have hB2 := hA0.trans (hb2.mono hA0.size)
  have hz2 := hb2.size
  obtain ⟨yy0, yy1, yy2, -, -, -⟩ := hx2.cells
  cases e1 : ds.all okN
  · have hr := hide (hres.out _ _ e1 rfl)
    clear e1
    go_wp2
    go_ret
    exact ⟨by rw [hr.out]; rfl, hB2⟩
  · go_wp2_with fail
    refine (allOk_c B m d lo hi ws w2 (hs1'.out.below (flat_kept encReq) hb2 (by omega)) (by omega)).mono ?_
    rintro e w3 ⟨rfl, hb3⟩
    have hx3 := hx2.below hb3 hx2.lt
    have hB3 := hB2.trans (hb3.mono hB2.size)
    have hz3 := hb3.size
    obtain ⟨yy0, yy1, yy2, -, -, -⟩ := hx3.cells
    cases e2 : ws.all okN
    · have hr := hide (hres.out _ _ e1 e2)
      clear e1 e2
      go_wp2
      go_ret
      exact ⟨by rw [hr.out]; rfl, hB3⟩
    · have hr := hide (hres.out _ _ e1 e2)
      clear e1 e2
      go_wp2_with fail
      refine (size_c A n c B m d k w3 hn hm).mono ?_
      rintro e w4 ⟨rfl, hb4⟩
      have hx4 := hx3.below hb4 hx3.lt
      have hB4 := hB3.trans (hb4.mono hB3.size)
      obtain ⟨yy0, yy1, yy2, -, -, -⟩ := hx4.cells
      by_cases h60 : n + m ≤ 60
      · have e3 : decide ((n : Int) + (m : Int) ≤ 60) = true := decide_eq_true (by omega)
        go_wp2_with fail
        refine (in_c k 0 99 w4).mono ?_
        rintro e w5 ⟨rfl, rfl⟩
        go_wp2
        go_ret
        exact ⟨by rw [hr.out, decide_eq_true (show ds.length + ws.length ≤ 60 by have := hnl.out; have := hml.out; omega)]; rfl, hB4⟩
      · have e3 : decide ((n : Int) + (m : Int) ≤ 60) = false := decide_eq_false (by omega)
        go_wp2
        go_ret
        exact ⟨by rw [hr.out, decide_eq_false (show ¬ ds.length + ws.length ≤ 60 by have := hnl.out; have := hml.out; omega)]; rfl, hB4⟩
set_option maxRecDepth 100000 in
set_option maxHeartbeats 2000000 in
theorem l8Ok_c (A : Option Addr) (n c : Nat) (B : Option Addr) (m d : Nat) (k : Int) (lo hi : Nat) (ds ws : List ReqT) (w : World) (hs : RdN 5 (flatR encReq) w lo hi A n c ds) (hs' : RdN 5 (flatR encReq) w lo hi B m d ws) (hn : n ≤ 1048576) (hm : m ≤ 1048576) (hhi : hi ≤ w.heap.size) :
    Calls Try.prog 38 #[.agg #[.slice A n c, .slice B m d, .int .i64 k]] w fun e w' => e = .returned (.bool (ahOk ds ws k)) ∧ Below w.heap.size w w' := by
  have hA0 := (Below.refl w.heap.size w).alloc (Nat.le_refl _) (.cells #[.slice A n c, .slice B m d, .int .i64 k] 41)
  have hx0 := Bx3.made w (.slice A n c) (.slice B m d) (.int .i64 k) 41
  have hs1 := hide (hs.below (flat_kept encReq) hA0 hhi)
  have hs1' := hide (hs'.below (flat_kept encReq) hA0 hhi)
  have hnl := hide hs.len
  have hml := hide hs'.len
  have hz1 : w.heap.size + 1 ≤ (w.alloc (.cells #[.slice A n c, .slice B m d, .int .i64 k] 41)).heap.size := by simp only [World.size_alloc]; omega
  clear hs hs'
  go_enter Try.func38, Try.ntmps38
  go_wp2
  generalize w.alloc (.cells #[.slice A n c, .slice B m d, .int .i64 k] 41) = w1 at *
  go_loopw [3] (fun i wr => ∃ q : Nat, q ≤ n + m ∧ i = .int .i64 (q : Int) ∧ Hid (∀ j (h : j < (ds ++ ws).length), j < q → okN (ds ++ ws)[j] = true) ∧ Below w1.heap.size w1 wr) (fun i _ => n + m - (intOf i).toNat)
  case atStart => exact ⟨0, Nat.zero_le _, rfl, hide (fun j h h' => absurd h' (by omega)), Below.refl _ _⟩
  case round =>
    obtain ⟨q, hq, rfl, hall, hbr⟩ := hrel
    have hxr := hx0.below hbr hx0.lt
    obtain ⟨yy0, yy1, yy2, -, -, -⟩ := hxr.cells
    have hlr := hxr.lt
    have hzr := hbr.size
    have hBr := hA0.trans (hbr.mono hA0.size)
    have hsr := hide (hs1.out.below (flat_kept encReq) hbr (by omega))
    have hsr' := hide (hs1'.out.below (flat_kept encReq) hbr (by omega))
    by_cases hlt : q < n + m
    · have hlt' : decide ((q : Int) < (n : Int) + (m : Int)) = true := decide_eq_true (by omega)
      have hlx : Hid (q < (ds ++ ws).length) := hide (by have := hnl.out; have := hml.out; simp; omega)
      have hnq := hlx.out
      clear hnq
      by_cases hqn : q < n
      · have hqn' : decide ((q : Int) < (n : Int)) = true := decide_eq_true (by omega)
        have hlq : q < ds.length := by have := hnl.out; omega
        obtain ⟨rq, hrq⟩ : ∃ rq, ds[q] = rq := ⟨_, rfl⟩
        have hrh : Hid ((ds ++ ws)[q]'hlx.out = rq) := hide (by rw [List.getElem_append_left hlq, hrq])
        obtain ⟨b, off, rfl, h1, h2⟩ := hsr.out.addr hlq
        have hbl : b < wr.heap.size := by omega
        obtain ⟨a0, a1, a2, a3, a4⟩ := hsr.out.req hlq
        rw [hrq] at a0 a1 a2 a3 a4
        clear hrq hlq
        go_wp2_with fail
        refine (l1Ok_c rq.1 rq.2.1 rq.2.2.1 rq.2.2.2.1 rq.2.2.2.2 _).mono ?_
        rintro e w2 ⟨rfl, hb2⟩
        have z0 := keepc hb2 (p := ⟨wr.heap.size, 0, none⟩) (v := .int .i64 rq.1) (by simp)
        have z1 := keepc hb2 (p := ⟨wr.heap.size, 1, none⟩) (v := .int .i64 rq.2.1) (by simp)
        have z2 := keepc hb2 (p := ⟨wr.heap.size, 2, none⟩) (v := .int .i64 rq.2.2.1) (by simp)
        have z3 := keepc hb2 (p := ⟨wr.heap.size, 3, none⟩) (v := .int .i64 rq.2.2.2.1) (by simp)
        have z4 := keepc hb2 (p := ⟨wr.heap.size, 4, none⟩) (v := .int .i64 rq.2.2.2.2) (by simp)
        have hw2 : Below wr.heap.size wr w2 := ((Below.refl _ _).alloc (Nat.le_refl _) _).trans (hb2.mono (by simp))
        have hB2 := hBr.trans (hw2.mono hBr.size)
        have hbr2 := hbr.trans (hw2.mono hzr)
        clear hb2
        cases e1 : okR rq
        · try rw [show okR (rq.1, rq.2.1, rq.2.2.1, rq.2.2.2.1, rq.2.2.2.2) = false from e1]
          go_wp2_with fail
          refine (l1None_c rq.1 rq.2.1 rq.2.2.1 rq.2.2.2.1 rq.2.2.2.2 w2).mono ?_
          rintro e w3 ⟨rfl, hb3⟩
          have hB3 := hB2.trans (hb3.mono hB2.size)
          have hbr3 := hbr2.trans (hb3.mono hbr2.size)
          cases e2 : noneR rq
          · try rw [show noneR (rq.1, rq.2.1, rq.2.2.1, rq.2.2.2.1, rq.2.2.2.2) = false from e2]
            have hres := hide (show ahOk ds ws k = false by
              have hno : okN rq = false := by unfold okN; rw [e1, e2]; rfl
              have hmem : rq ∈ ds ++ ws := by rw [← hrh.out]; exact List.getElem_mem hlx.out
              unfold ahOk
              rcases List.mem_append.1 hmem with h | h
              · have : ds.all okN = false := List.all_eq_false.2 ⟨rq, h, by rw [hno]; simp⟩
                rw [this]; rfl
              · have : ws.all okN = false := List.all_eq_false.2 ⟨rq, h, by rw [hno]; simp⟩
                rw [this]; simp)
            go_wp2
            go_ret
            exact ⟨by rw [hres.out]; rfl, hB3⟩
          · try rw [show noneR (rq.1, rq.2.1, rq.2.2.1, rq.2.2.2.1, rq.2.2.2.2) = true from e2]
            have he := hide (show okN rq = true by unfold okN; rw [e2]; rfl)
            clear e1 e2
            go_wp2
            go_roundw
            case rel => exact ⟨q + 1, by omega, by go_num, hide (fun j hj hjk => by
              by_cases h : j < q
              · exact hall.out j hj h
              · obtain rfl : j = q := by omega
                rw [hrh.out]; exact he.out), hbr3⟩
            case measure => simp [intOf]; omega
        · try rw [show okR (rq.1, rq.2.1, rq.2.2.1, rq.2.2.2.1, rq.2.2.2.2) = true from e1]
          have he := hide (show okN rq = true by unfold okN; rw [e1]; simp)
          clear e1
          go_wp2
          go_roundw
          case rel => exact ⟨q + 1, by omega, by go_num, hide (fun j hj hjk => by
            by_cases h : j < q
            · exact hall.out j hj h
            · obtain rfl : j = q := by omega
              rw [hrh.out]; exact he.out), hbr2⟩
          case measure => simp [intOf]; omega
      · have hqn' : decide ((q : Int) < (n : Int)) = false := decide_eq_false (by omega)
        have hlq : q - n < ws.length := by have := hml.out; omega
        obtain ⟨rq, hrq⟩ : ∃ rq, ws[q - n] = rq := ⟨_, rfl⟩
        have hrh : Hid ((ds ++ ws)[q]'hlx.out = rq) := hide (by
          rw [List.getElem_append_right (by have := hnl.out; omega), ← hrq]
          congr 1
          have := hnl.out; omega)
        obtain ⟨b, off, rfl, h1, h2⟩ := hsr'.out.addr hlq
        have hbl : b < wr.heap.size := by omega
        obtain ⟨a0, a1, a2, a3, a4⟩ := hsr'.out.req hlq
        rw [hrq] at a0 a1 a2 a3 a4
        have hsub : (q : Int) - (n : Int) = ((q - n : Nat) : Int) := by omega
        have hqm : q - n < m := by omega
        clear hrq hlq
        obtain ⟨qn, hqe⟩ : ∃ x, q - n = x := ⟨_, rfl⟩
        rw [hqe] at hsub hqm a0 a1 a2 a3 a4
        have hqeh := hide hqe
        clear hqe
        go_wp2_with fail
        refine (l1Ok_c rq.1 rq.2.1 rq.2.2.1 rq.2.2.2.1 rq.2.2.2.2 _).mono ?_
        rintro e w2 ⟨rfl, hb2⟩
        have z0 := keepc hb2 (p := ⟨wr.heap.size, 0, none⟩) (v := .int .i64 rq.1) (by simp)
        have z1 := keepc hb2 (p := ⟨wr.heap.size, 1, none⟩) (v := .int .i64 rq.2.1) (by simp)
        have z2 := keepc hb2 (p := ⟨wr.heap.size, 2, none⟩) (v := .int .i64 rq.2.2.1) (by simp)
        have z3 := keepc hb2 (p := ⟨wr.heap.size, 3, none⟩) (v := .int .i64 rq.2.2.2.1) (by simp)
        have z4 := keepc hb2 (p := ⟨wr.heap.size, 4, none⟩) (v := .int .i64 rq.2.2.2.2) (by simp)
        have hw2 : Below wr.heap.size wr w2 := ((Below.refl _ _).alloc (Nat.le_refl _) _).trans (hb2.mono (by simp))
        have hB2 := hBr.trans (hw2.mono hBr.size)
        have hbr2 := hbr.trans (hw2.mono hzr)
        clear hb2
        cases e1 : okR rq
        · try rw [show okR (rq.1, rq.2.1, rq.2.2.1, rq.2.2.2.1, rq.2.2.2.2) = false from e1]
          go_wp2_with fail
          refine (l1None_c rq.1 rq.2.1 rq.2.2.1 rq.2.2.2.1 rq.2.2.2.2 w2).mono ?_
          rintro e w3 ⟨rfl, hb3⟩
          have hB3 := hB2.trans (hb3.mono hB2.size)
          have hbr3 := hbr2.trans (hb3.mono hbr2.size)
          cases e2 : noneR rq
          · try rw [show noneR (rq.1, rq.2.1, rq.2.2.1, rq.2.2.2.1, rq.2.2.2.2) = false from e2]
            have hres := hide (show ahOk ds ws k = false by
              have hno : okN rq = false := by unfold okN; rw [e1, e2]; rfl
              have hmem : rq ∈ ds ++ ws := by rw [← hrh.out]; exact List.getElem_mem hlx.out
              unfold ahOk
              rcases List.mem_append.1 hmem with h | h
              · have : ds.all okN = false := List.all_eq_false.2 ⟨rq, h, by rw [hno]; simp⟩
                rw [this]; rfl
              · have : ws.all okN = false := List.all_eq_false.2 ⟨rq, h, by rw [hno]; simp⟩
                rw [this]; simp)
            go_wp2
            go_ret
            exact ⟨by rw [hres.out]; rfl, hB3⟩
          · try rw [show noneR (rq.1, rq.2.1, rq.2.2.1, rq.2.2.2.1, rq.2.2.2.2) = true from e2]
            have he := hide (show okN rq = true by unfold okN; rw [e2]; rfl)
            clear e1 e2
            go_wp2
            go_roundw
            case rel => exact ⟨q + 1, by omega, by go_num, hide (fun j hj hjk => by
              by_cases h : j < q
              · exact hall.out j hj h
              · obtain rfl : j = q := by omega
                rw [hrh.out]; exact he.out), hbr3⟩
            case measure => simp [intOf]; omega
        · try rw [show okR (rq.1, rq.2.1, rq.2.2.1, rq.2.2.2.1, rq.2.2.2.2) = true from e1]
          have he := hide (show okN rq = true by unfold okN; rw [e1]; simp)
          clear e1
          go_wp2
          go_roundw
          case rel => exact ⟨q + 1, by omega, by go_num, hide (fun j hj hjk => by
            by_cases h : j < q
            · exact hall.out j hj h
            · obtain rfl : j = q := by omega
              rw [hrh.out]; exact he.out), hbr2⟩
          case measure => simp [intOf]; omega
    · have hlt' : decide ((q : Int) < (n : Int) + (m : Int)) = false := decide_eq_false (by omega)
      have hall' := hide (show ds.all okN = true ∧ ws.all okN = true from by
        have key : ∀ x ∈ ds ++ ws, okN x = true := fun x hx => by
          obtain ⟨j, hj, rfl⟩ := List.mem_iff_getElem.1 hx
          exact hall.out j hj (by simp at hj; have := hnl.out; have := hml.out; omega)
        exact ⟨List.all_eq_true.2 fun x hx => key x (List.mem_append_left _ hx), List.all_eq_true.2 fun x hx => key x (List.mem_append_right _ hx)⟩)
      have hr := hide (show ahOk ds ws k = (decide (ds.length + ws.length ≤ 60) && inB k 0 99) from by unfold ahOk; rw [hall'.out.1, hall'.out.2]; simp)
      by_cases h60 : n + m ≤ 60
      · have e3 : decide ((n : Int) + (m : Int) ≤ 60) = true := decide_eq_true (by omega)
        go_wp2_with fail
        refine (l1In_c k 0 99 wr).mono ?_
        rintro e w5 ⟨rfl, rfl⟩
        go_wp2
        go_ret
        exact ⟨by rw [hr.out, decide_eq_true (show ds.length + ws.length ≤ 60 by have := hnl.out; have := hml.out; omega)]; rfl, hBr⟩
      · have e3 : decide ((n : Int) + (m : Int) ≤ 60) = false := decide_eq_false (by omega)
        go_wp2
        go_ret
        exact ⟨by rw [hr.out, decide_eq_false (show ¬ ds.length + ws.length ≤ 60 by have := hnl.out; have := hml.out; omega)]; rfl, hBr⟩
end Go.Proofs.Ytipdkcdhnppdoaa
