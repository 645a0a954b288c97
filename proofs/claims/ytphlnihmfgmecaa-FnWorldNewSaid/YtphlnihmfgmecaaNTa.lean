/-
  New keepers in both packages; comparing them.
  Conditions: none.
-/
import Derived.Test.YtphlnihmfgmecaaDR
import Derived.Test.YtphlnihmfgmecaaNXa
namespace Go.Proofs.Ytphlnihmfgmecaa
open Go.RowKit Rg
set_option linter.unusedVariables false
set_option linter.unusedSimpArgs false

/-- A new keeper. -/
def repNew (me : Int) : RepT := (me, 0, true, 1, [], [], [])
theorem okRep_new {me : Int} (h : inB me 0 3 = true) : okRep (repNew me) = true := by
  have e1 : decide (okTook []) = true := by decide
  have e2 : decide (okCls []) = true := by decide
  have e3 : inB 0 0 6 = true := by decide
  have e4 : inB 1 1 6 = true := by decide
  unfold okRep repNew
  simp only [e1, e2, e3, e4, h]
  rfl
theorem l5New_c (me : Int) (w : World) : Calls Try.prog 85 #[.int .i64 me] w fun e w' => e = .returned (.agg #[.int .i64 me, .int .i64 0, .bool true, .int .i64 1, .slice none 0 0, .slice none 0 0, .slice none 0 0]) ∧ Below w.heap.size w w' := by
  have hA := (Below.refl w.heap.size w).alloc (Nat.le_refl _) (.cells #[.int .i64 me, .int .i64 0, .bool true, .int .i64 1, .slice none 0 0, .slice none 0 0, .slice none 0 0] 39)
  go_enter Try.func85, Try.ntmps85
  go_wp2
  exact bodyPost_ret (v := .agg #[.int .i64 me, .int .i64 0, .bool true, .int .i64 1, .slice none 0 0, .slice none 0 0, .slice none 0 0]) (by simp [results, Try.results85, go_sem]) rfl ⟨rfl, by simpa using hA⟩
theorem RepNew_yes (me : Int) (w : World) (h : inB me 0 3 = true) : Calls Try.prog 22 #[.int .i64 me] w fun e w' => e = .returned (.agg #[.int .i64 me, .int .i64 0, .bool true, .int .i64 1, .slice none 0 0, .slice none 0 0, .slice none 0 0]) ∧ Below w.heap.size w w' := by
  have hA := (Below.refl w.heap.size w).alloc (Nat.le_refl _) (.cells #[.int .i64 me, .int .i64 0, .bool true, .int .i64 1, .slice none 0 0, .slice none 0 0, .slice none 0 0] 39)
  go_enter Try.func22, Try.ntmps22
  go_wp2_with (go_at_call 81; refine (isKeeper_c _ _).mono ?_; rintro e w' ⟨rfl, rfl⟩; rw [h])
  exact bodyPost_ret (v := .agg #[.int .i64 me, .int .i64 0, .bool true, .int .i64 1, .slice none 0 0, .slice none 0 0, .slice none 0 0]) (by simp [results, Try.results22, go_sem]) rfl ⟨rfl, by simpa using hA⟩
theorem RepNew_no (me : Int) (w : World) (h : inB me 0 3 = false) : Calls Try.prog 22 #[.int .i64 me] w fun e w' => e = .returned (.agg #[.int .i64 0, .int .i64 0, .bool false, .int .i64 0, .slice none 0 0, .slice none 0 0, .slice none 0 0]) ∧ Below w.heap.size w w' := by
  have hA := (Below.refl w.heap.size w).alloc (Nat.le_refl _) (.cells #[.int .i64 0, .int .i64 0, .bool false, .int .i64 0, .slice none 0 0, .slice none 0 0, .slice none 0 0] 39)
  go_enter Try.func22, Try.ntmps22
  go_wp2_with (go_at_call 81; refine (isKeeper_c _ _).mono ?_; rintro e w' ⟨rfl, rfl⟩; rw [h])
  exact bodyPost_ret (v := .agg #[.int .i64 0, .int .i64 0, .bool false, .int .i64 0, .slice none 0 0, .slice none 0 0, .slice none 0 0]) (by simp [results, Try.results22, go_sem]) rfl ⟨rfl, by simpa using hA⟩
theorem specRepNew_yes (me : Int) (w : World) (h : inB me 0 3 = true) : Calls Try.prog 24 #[.int .i64 me] w fun e w' => e = .returned (.agg #[.int .i64 me, .int .i64 0, .bool true, .int .i64 1, .slice none 0 0, .slice none 0 0, .slice none 0 0]) ∧ Below w.heap.size w w' := by
  have hb0 : Below w.heap.size w (w.alloc (.cells #[.int .i64 0, .int .i64 0, .bool false, .int .i64 0, .slice none 0 0, .slice none 0 0, .slice none 0 0] 39)) := (Below.refl w.heap.size w).alloc (Nat.le_refl _) _
  have hl : w.heap.size < (w.alloc (.cells #[.int .i64 0, .int .i64 0, .bool false, .int .i64 0, .slice none 0 0, .slice none 0 0, .slice none 0 0] 39)).heap.size := by simp
  have hx := heap_alloc_new w (.cells #[.int .i64 0, .int .i64 0, .bool false, .int .i64 0, .slice none 0 0, .slice none 0 0, .slice none 0 0] 39)
  go_enter Try.func24, Try.ntmps24
  go_wp2_with fail
  refine (l1In_c me 0 3 _).mono ?_
  rintro e w' ⟨rfl, rfl⟩
  rw [h]
  go_wp2_with fail
  generalize w.alloc (.cells #[.int .i64 0, .int .i64 0, .bool false, .int .i64 0, .slice none 0 0, .slice none 0 0, .slice none 0 0] 39) = w0 at *
  refine (l5New_c me w0).mono ?_
  rintro e w1 ⟨rfl, hb1⟩
  have hx1 : w1.heap[w.heap.size]? = some (.cells #[.int .i64 0, .int .i64 0, .bool false, .int .i64 0, .slice none 0 0, .slice none 0 0, .slice none 0 0] 39 (0, 0)) := (hb1.block _ hl).trans hx
  have f0 : w1.frozen? ⟨w.heap.size, 0, none⟩ = false := by simp [World.frozen?, hx1]
  have c0 : w1.cell? ⟨w.heap.size, 0, none⟩ = some (.int .i64 0) := by simp [World.cell?, hx1]
  have f1 : w1.frozen? ⟨w.heap.size, 1, none⟩ = false := by simp [World.frozen?, hx1]
  have c1 : w1.cell? ⟨w.heap.size, 1, none⟩ = some (.int .i64 0) := by simp [World.cell?, hx1]
  have f2 : w1.frozen? ⟨w.heap.size, 2, none⟩ = false := by simp [World.frozen?, hx1]
  have c2 : w1.cell? ⟨w.heap.size, 2, none⟩ = some (.bool false) := by simp [World.cell?, hx1]
  have f3 : w1.frozen? ⟨w.heap.size, 3, none⟩ = false := by simp [World.frozen?, hx1]
  have c3 : w1.cell? ⟨w.heap.size, 3, none⟩ = some (.int .i64 0) := by simp [World.cell?, hx1]
  have f4 : w1.frozen? ⟨w.heap.size, 4, none⟩ = false := by simp [World.frozen?, hx1]
  have c4 : w1.cell? ⟨w.heap.size, 4, none⟩ = some (.slice none 0 0) := by simp [World.cell?, hx1]
  have f5 : w1.frozen? ⟨w.heap.size, 5, none⟩ = false := by simp [World.frozen?, hx1]
  have c5 : w1.cell? ⟨w.heap.size, 5, none⟩ = some (.slice none 0 0) := by simp [World.cell?, hx1]
  have f6 : w1.frozen? ⟨w.heap.size, 6, none⟩ = false := by simp [World.frozen?, hx1]
  have c6 : w1.cell? ⟨w.heap.size, 6, none⟩ = some (.slice none 0 0) := by simp [World.cell?, hx1]
  go_wp2
  exact bodyPost_ret (v := .agg #[.int .i64 me, .int .i64 0, .bool true, .int .i64 1, .slice none 0 0, .slice none 0 0, .slice none 0 0]) (by simp [results, Try.results24, go_sem, c0, c1, c2, c3, c4, c5, c6, f0, f1, f2, f3, f4, f5, f6]) rfl ⟨rfl, ((((((((hb0.trans (hb1.mono hb0.size)).setCell (Nat.le_refl _) _).setCell (Nat.le_refl _) _).setCell (Nat.le_refl _) _).setCell (Nat.le_refl _) _).setCell (Nat.le_refl _) _).setCell (Nat.le_refl _) _).setCell (Nat.le_refl _) _)⟩
theorem specRepNew_no (me : Int) (w : World) (h : inB me 0 3 = false) : Calls Try.prog 24 #[.int .i64 me] w fun e w' => e = .returned (.agg #[.int .i64 0, .int .i64 0, .bool false, .int .i64 0, .slice none 0 0, .slice none 0 0, .slice none 0 0]) ∧ Below w.heap.size w w' := by
  have hA := (Below.refl w.heap.size w).alloc (Nat.le_refl _) (.cells #[.int .i64 0, .int .i64 0, .bool false, .int .i64 0, .slice none 0 0, .slice none 0 0, .slice none 0 0] 39)
  go_enter Try.func24, Try.ntmps24
  go_wp2_with (go_at_call 84; refine (l1In_c _ _ _ _).mono ?_; rintro e w' ⟨rfl, rfl⟩; rw [h])
  exact bodyPost_ret (v := .agg #[.int .i64 0, .int .i64 0, .bool false, .int .i64 0, .slice none 0 0, .slice none 0 0, .slice none 0 0]) (by simp [results, Try.results24, go_sem]) rfl ⟨rfl, by simpa using hA⟩
theorem wpClaims_nil (w : World) : Calls Try.prog 82 #[.slice none 0 0, .slice none 0 0] w fun e w' => e = .returned (.bool true) ∧ Below w.heap.size w w' := by
  go_enter Try.func82, Try.ntmps82
  go_wp2
  go_loopw [5] (fun i wr => i = .int .i64 0 ∧ wr = w) (fun _ _ => 0)
  case atStart => exact ⟨rfl, rfl⟩
  case round =>
    obtain ⟨rfl, rfl⟩ := hrel
    go_wp2
    go_ret
    exact ⟨rfl, Below.refl _ _⟩
theorem wpMsgs_nil (w : World) : Calls Try.prog 83 #[.slice none 0 0, .slice none 0 0] w fun e w' => e = .returned (.bool true) ∧ Below w.heap.size w w' := by
  go_enter Try.func83, Try.ntmps83
  go_wp2
  go_loopw [5] (fun i wr => i = .int .i64 0 ∧ wr = w) (fun _ _ => 0)
  case atStart => exact ⟨rfl, rfl⟩
  case round =>
    obtain ⟨rfl, rfl⟩ := hrel
    go_wp2
    go_ret
    exact ⟨rfl, Below.refl _ _⟩
set_option maxHeartbeats 2000000 in
theorem wpRep_new (a b : Int) (l : Bool) (w : World) : Calls Try.prog 23 #[.agg #[.int .i64 a, .int .i64 0, .bool l, .int .i64 b, .slice none 0 0, .slice none 0 0, .slice none 0 0], .agg #[.int .i64 a, .int .i64 0, .bool l, .int .i64 b, .slice none 0 0, .slice none 0 0, .slice none 0 0]] w fun e w' => e = .returned (.bool true) ∧ Below w.heap.size w w' := by
  have hb0 : Below w.heap.size w ((w.alloc (.cells #[.int .i64 a, .int .i64 0, .bool l, .int .i64 b, .slice none 0 0, .slice none 0 0, .slice none 0 0] 39)).alloc (.cells #[.int .i64 a, .int .i64 0, .bool l, .int .i64 b, .slice none 0 0, .slice none 0 0, .slice none 0 0] 39)) := ((Below.refl _ _).alloc (Nat.le_refl _) _).alloc (by simp) _
  have e1 : (l == l) = true := by simp
  have x0 : ((w.alloc (.cells #[.int .i64 a, .int .i64 0, .bool l, .int .i64 b, .slice none 0 0, .slice none 0 0, .slice none 0 0] 39)).alloc (.cells #[.int .i64 a, .int .i64 0, .bool l, .int .i64 b, .slice none 0 0, .slice none 0 0, .slice none 0 0] 39)).cell? ⟨w.heap.size, 0, none⟩ = some (.int .i64 a) := by simp
  have x1 : ((w.alloc (.cells #[.int .i64 a, .int .i64 0, .bool l, .int .i64 b, .slice none 0 0, .slice none 0 0, .slice none 0 0] 39)).alloc (.cells #[.int .i64 a, .int .i64 0, .bool l, .int .i64 b, .slice none 0 0, .slice none 0 0, .slice none 0 0] 39)).cell? ⟨w.heap.size, 1, none⟩ = some (.int .i64 0) := by simp
  have x2 : ((w.alloc (.cells #[.int .i64 a, .int .i64 0, .bool l, .int .i64 b, .slice none 0 0, .slice none 0 0, .slice none 0 0] 39)).alloc (.cells #[.int .i64 a, .int .i64 0, .bool l, .int .i64 b, .slice none 0 0, .slice none 0 0, .slice none 0 0] 39)).cell? ⟨w.heap.size, 2, none⟩ = some (.bool l) := by simp
  have x3 : ((w.alloc (.cells #[.int .i64 a, .int .i64 0, .bool l, .int .i64 b, .slice none 0 0, .slice none 0 0, .slice none 0 0] 39)).alloc (.cells #[.int .i64 a, .int .i64 0, .bool l, .int .i64 b, .slice none 0 0, .slice none 0 0, .slice none 0 0] 39)).cell? ⟨w.heap.size, 3, none⟩ = some (.int .i64 b) := by simp
  have x4 : ((w.alloc (.cells #[.int .i64 a, .int .i64 0, .bool l, .int .i64 b, .slice none 0 0, .slice none 0 0, .slice none 0 0] 39)).alloc (.cells #[.int .i64 a, .int .i64 0, .bool l, .int .i64 b, .slice none 0 0, .slice none 0 0, .slice none 0 0] 39)).cell? ⟨w.heap.size, 4, none⟩ = some (.slice none 0 0) := by simp
  have x5 : ((w.alloc (.cells #[.int .i64 a, .int .i64 0, .bool l, .int .i64 b, .slice none 0 0, .slice none 0 0, .slice none 0 0] 39)).alloc (.cells #[.int .i64 a, .int .i64 0, .bool l, .int .i64 b, .slice none 0 0, .slice none 0 0, .slice none 0 0] 39)).cell? ⟨w.heap.size, 5, none⟩ = some (.slice none 0 0) := by simp
  have x6 : ((w.alloc (.cells #[.int .i64 a, .int .i64 0, .bool l, .int .i64 b, .slice none 0 0, .slice none 0 0, .slice none 0 0] 39)).alloc (.cells #[.int .i64 a, .int .i64 0, .bool l, .int .i64 b, .slice none 0 0, .slice none 0 0, .slice none 0 0] 39)).cell? ⟨w.heap.size, 6, none⟩ = some (.slice none 0 0) := by simp
  have y0 : ((w.alloc (.cells #[.int .i64 a, .int .i64 0, .bool l, .int .i64 b, .slice none 0 0, .slice none 0 0, .slice none 0 0] 39)).alloc (.cells #[.int .i64 a, .int .i64 0, .bool l, .int .i64 b, .slice none 0 0, .slice none 0 0, .slice none 0 0] 39)).cell? ⟨(w.heap.size + 1), 0, none⟩ = some (.int .i64 a) := by simp
  have y1 : ((w.alloc (.cells #[.int .i64 a, .int .i64 0, .bool l, .int .i64 b, .slice none 0 0, .slice none 0 0, .slice none 0 0] 39)).alloc (.cells #[.int .i64 a, .int .i64 0, .bool l, .int .i64 b, .slice none 0 0, .slice none 0 0, .slice none 0 0] 39)).cell? ⟨(w.heap.size + 1), 1, none⟩ = some (.int .i64 0) := by simp
  have y2 : ((w.alloc (.cells #[.int .i64 a, .int .i64 0, .bool l, .int .i64 b, .slice none 0 0, .slice none 0 0, .slice none 0 0] 39)).alloc (.cells #[.int .i64 a, .int .i64 0, .bool l, .int .i64 b, .slice none 0 0, .slice none 0 0, .slice none 0 0] 39)).cell? ⟨(w.heap.size + 1), 2, none⟩ = some (.bool l) := by simp
  have y3 : ((w.alloc (.cells #[.int .i64 a, .int .i64 0, .bool l, .int .i64 b, .slice none 0 0, .slice none 0 0, .slice none 0 0] 39)).alloc (.cells #[.int .i64 a, .int .i64 0, .bool l, .int .i64 b, .slice none 0 0, .slice none 0 0, .slice none 0 0] 39)).cell? ⟨(w.heap.size + 1), 3, none⟩ = some (.int .i64 b) := by simp
  have y4 : ((w.alloc (.cells #[.int .i64 a, .int .i64 0, .bool l, .int .i64 b, .slice none 0 0, .slice none 0 0, .slice none 0 0] 39)).alloc (.cells #[.int .i64 a, .int .i64 0, .bool l, .int .i64 b, .slice none 0 0, .slice none 0 0, .slice none 0 0] 39)).cell? ⟨(w.heap.size + 1), 4, none⟩ = some (.slice none 0 0) := by simp
  have y5 : ((w.alloc (.cells #[.int .i64 a, .int .i64 0, .bool l, .int .i64 b, .slice none 0 0, .slice none 0 0, .slice none 0 0] 39)).alloc (.cells #[.int .i64 a, .int .i64 0, .bool l, .int .i64 b, .slice none 0 0, .slice none 0 0, .slice none 0 0] 39)).cell? ⟨(w.heap.size + 1), 5, none⟩ = some (.slice none 0 0) := by simp
  have y6 : ((w.alloc (.cells #[.int .i64 a, .int .i64 0, .bool l, .int .i64 b, .slice none 0 0, .slice none 0 0, .slice none 0 0] 39)).alloc (.cells #[.int .i64 a, .int .i64 0, .bool l, .int .i64 b, .slice none 0 0, .slice none 0 0, .slice none 0 0] 39)).cell? ⟨(w.heap.size + 1), 6, none⟩ = some (.slice none 0 0) := by simp
  go_enter Try.func23, Try.ntmps23
  go_wp2_with fail
  generalize ((w.alloc (.cells #[.int .i64 a, .int .i64 0, .bool l, .int .i64 b, .slice none 0 0, .slice none 0 0, .slice none 0 0] 39)).alloc (.cells #[.int .i64 a, .int .i64 0, .bool l, .int .i64 b, .slice none 0 0, .slice none 0 0, .slice none 0 0] 39)) = w0 at *
  refine (wpClaims_nil w0).mono ?_
  rintro e w1 ⟨rfl, hb1⟩
  have x0 := keepc hb1 x0
  have x1 := keepc hb1 x1
  have x2 := keepc hb1 x2
  have x3 := keepc hb1 x3
  have x4 := keepc hb1 x4
  have x5 := keepc hb1 x5
  have x6 := keepc hb1 x6
  have y0 := keepc hb1 y0
  have y1 := keepc hb1 y1
  have y2 := keepc hb1 y2
  have y3 := keepc hb1 y3
  have y4 := keepc hb1 y4
  have y5 := keepc hb1 y5
  have y6 := keepc hb1 y6
  have hB1 := hb0.trans (hb1.mono hb0.size)
  go_wp2_with fail
  refine (wpMsgs_nil w1).mono ?_
  rintro e w2 ⟨rfl, hb2⟩
  have x0 := keepc hb2 x0
  have x1 := keepc hb2 x1
  have x2 := keepc hb2 x2
  have x3 := keepc hb2 x3
  have x4 := keepc hb2 x4
  have x5 := keepc hb2 x5
  have x6 := keepc hb2 x6
  have y0 := keepc hb2 y0
  have y1 := keepc hb2 y1
  have y2 := keepc hb2 y2
  have y3 := keepc hb2 y3
  have y4 := keepc hb2 y4
  have y5 := keepc hb2 y5
  have y6 := keepc hb2 y6
  have hB2 := hB1.trans (hb2.mono hB1.size)
  go_wp2_with fail
  refine (wpClaims_nil w2).mono ?_
  rintro e w3 ⟨rfl, hb3⟩
  go_wp2
  go_ret
  exact ⟨rfl, hB2.trans (hb3.mono hB2.size)⟩
theorem DrawRepNew_c (A : Option Addr) (n c : Nat) (bs : List Int) (w : World) (hn : n = bs.length) (hc : n ≤ c) (hcm : c ≤ maxLen) (hs : Sl encU 1 w 0 w.heap.size A bs) (hb : ∀ b ∈ bs, 0 ≤ b ∧ b < 256) :
    Calls Try.prog 21 #[.slice A n c] w fun e w' => ∃ me, e = .returned (.int .i64 me) ∧ (0 ≤ me ∧ me ≤ 4 ∨ me = -1) ∧ Below w.heap.size w w' := by
  have hn' := hide hn
  have hb' := hide hb
  clear hn hb
  go_enter Try.func21, Try.ntmps21
  go_wp2_with fail
  refine (l20Open_c A n c bs w hn'.out hc hcm hs hb'.out).mono ?_
  rintro e w1 ⟨rfl, hr1, hb1⟩
  have hA := (Below.refl w1.heap.size w1).alloc (Nat.le_refl _) (.cells #[.int .i64 0, .int .i64 1, .int .i64 2, .int .i64 3, .int .i64 4, .int .i64 (-1)] 3)
  have hs1 : Sl encI 1 (w1.alloc (.cells #[.int .i64 0, .int .i64 1, .int .i64 2, .int .i64 3, .int .i64 4, .int .i64 (-1)] 3)) w1.heap.size (w1.heap.size + 1) (some ⟨w1.heap.size, 0, none⟩) [0, 1, 2, 3, 4, -1] := sl_arr encI_len w1 _ _ _ rfl
  have hr2 := hr1.keep hA
  have hz := hA.size
  have hsz : w1.heap.size + 1 ≤ (w1.alloc (.cells #[.int .i64 0, .int .i64 1, .int .i64 2, .int .i64 3, .int .i64 4, .int .i64 (-1)] 3)).heap.size := by simp
  have hB := hb1.trans (hA.mono hb1.size)
  have hlt := hr1.lt
  go_wp2_with fail
  generalize w1.alloc (.cells #[.int .i64 0, .int .i64 1, .int .i64 2, .int .i64 3, .int .i64 4, .int .i64 (-1)] 3) = w2 at *
  refine (one_c w.heap.size 0 _ _ _ 6 6 [0, 1, 2, 3, 4, -1] w2 hr2 (by omega) rfl (by omega) (by omega) hs1 hlt hsz).mono ?_
  rintro e w3 ⟨x, hx, rfl, hr3, ho3⟩
  have hx' : Hid (0 ≤ x ∧ x ≤ 4 ∨ x = -1) := hide (by
    simp only [List.mem_cons, List.not_mem_nil, or_false] at hx
    omega)
  have hB3 := hB.trans (ho3.toBelow hB.size (fun k hk => by injection hk with hk; omega))
  clear hx
  go_wp2
  go_ret
  exact ⟨x, rfl, hx'.out, hB3⟩

end Go.Proofs.Ytphlnihmfgmecaa
