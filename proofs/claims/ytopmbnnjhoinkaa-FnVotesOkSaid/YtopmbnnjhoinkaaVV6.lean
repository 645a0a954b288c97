/-
  What 'FVd' rests on (texts of this seat put together: NK NQ NM NE).
  Conditions: none.
-/
import Derived.Test.YtopmbnnjhoinkaaVV5
import Derived.WalkLawsBesides
import Derived.WalkSpells
namespace Go.Proofs.Ytopmbnnjhoinkaa
open Go.RowKit Rg
set_option linter.unusedVariables false
set_option linter.unusedSimpArgs false
set_option maxHeartbeats 1000000
structure Above (K : Nat) (w w' : World) : Prop where
  keep : ∀ b, K ≤ b → w'.heap[b]? = w.heap[b]?
section
variable {K : Nat} {a w w' : World}
theorem Above.refl (K : Nat) (w : World) : Above K w w := ⟨fun _ _ => rfl⟩
theorem Above.setCell (h : Above K a w) {p : Addr} (hp : p.block < K) (u : Value) : Above K a (w.setCell p u) := ⟨fun b hb => (Below.heap_setCell w p u b (by omega)).trans (h.keep b hb)⟩
theorem Above.drew (h : Above K a w) : Above K a w.drew := ⟨h.keep⟩
theorem Above.put {g : Nat} (hg : g < K) (us : List Value) : ∀ {w : World} {j : Nat}, Above K a w → Above K a (putCells w g j us) := by
  induction us with
  | nil => intro w j h; exact h
  | cons u us ih => intro w j h; exact ih (h.setCell (p := ⟨g, j, none⟩) hg u)
end
theorem OwnB.below {α : Type} {enc : α → List Value} {sz lo hi n c B : Nat} {A : Option Addr} {e : TypeId} {w w' : World} {xs : List α} (h : OwnB enc sz e w lo hi A n c xs) (hb : Below B w w') (hB : hi ≤ B) : OwnB enc sz e w' lo hi A n c xs :=
  h.keep fun b _ h2 => hb.block b (by omega)
def MBox (w : World) (b lo hi : Nat) (m : MsgT) : Prop := ∃ (A B : Option Addr) (n c p d : Nat), w.heap[b]? = some (.cells #[.int .i64 m.1, .int .i64 m.2.1, .int .i64 m.2.2.1, .int .i64 m.2.2.2.1, .int .i64 m.2.2.2.2.1.1, .int .i64 m.2.2.2.2.1.2.1, .int .i64 m.2.2.2.2.1.2.2.1, .int .i64 m.2.2.2.2.1.2.2.2.1, .int .i64 m.2.2.2.2.1.2.2.2.2, .slice A n c, .slice B p d] 34 (0, 0)) ∧ RdN 7 clR w lo hi A n c m.2.2.2.2.2.1 ∧ RdN 2 voteR w lo hi B p d m.2.2.2.2.2.2
theorem MBox.lt {w : World} {b lo hi : Nat} {m : MsgT} (h : MBox w b lo hi m) : b < w.heap.size := by
  obtain ⟨A, B, n, c, p, d, h, _⟩ := h
  exact lt_of_heap h
theorem MBox.below {w w' : World} {b lo hi K : Nat} {m : MsgT} (h : MBox w b lo hi m) (hb : Below K w w') (hK : b < K) (hhi : hi ≤ K) : MBox w' b lo hi m := by
  obtain ⟨A, B, n, c, p, d, h, h1, h2⟩ := h
  exact ⟨A, B, n, c, p, d, (hb.block b hK).trans h, h1.below (flat_kept _) hb hhi, h2.below vote_kept hb hhi⟩
theorem MBox.cells {w : World} {b lo hi : Nat} {m : MsgT} (h : MBox w b lo hi m) : ∃ (A B : Option Addr) (n c p d : Nat), w.cell? ⟨b, 0, none⟩ = some (.int .i64 m.1) ∧ w.cell? ⟨b, 1, none⟩ = some (.int .i64 m.2.1) ∧ w.cell? ⟨b, 2, none⟩ = some (.int .i64 m.2.2.1) ∧ w.cell? ⟨b, 3, none⟩ = some (.int .i64 m.2.2.2.1) ∧ w.cell? ⟨b, 4, none⟩ = some (.int .i64 m.2.2.2.2.1.1) ∧ w.cell? ⟨b, 5, none⟩ = some (.int .i64 m.2.2.2.2.1.2.1) ∧ w.cell? ⟨b, 6, none⟩ = some (.int .i64 m.2.2.2.2.1.2.2.1) ∧ w.cell? ⟨b, 7, none⟩ = some (.int .i64 m.2.2.2.2.1.2.2.2.1) ∧ w.cell? ⟨b, 8, none⟩ = some (.int .i64 m.2.2.2.2.1.2.2.2.2) ∧ w.cell? ⟨b, 9, none⟩ = some (.slice A n c) ∧ w.cell? ⟨b, 10, none⟩ = some (.slice B p d) ∧ RdN 7 clR w lo hi A n c m.2.2.2.2.2.1 ∧ RdN 2 voteR w lo hi B p d m.2.2.2.2.2.2 := by
  obtain ⟨A, B, n, c, p, d, h, h1, h2⟩ := h
  exact ⟨A, B, n, c, p, d, by simp [World.cell?, h], by simp [World.cell?, h], by simp [World.cell?, h], by simp [World.cell?, h], by simp [World.cell?, h], by simp [World.cell?, h], by simp [World.cell?, h], by simp [World.cell?, h], by simp [World.cell?, h], by simp [World.cell?, h], by simp [World.cell?, h], h1, h2⟩
theorem MBox.made {w : World} {lo hi : Nat} {m : MsgT} {A B : Option Addr} {n c p d : Nat} (h1 : RdN 7 clR w lo hi A n c m.2.2.2.2.2.1) (h2 : RdN 2 voteR w lo hi B p d m.2.2.2.2.2.2) (hhi : hi ≤ w.heap.size) : MBox (w.alloc (.cells #[.int .i64 m.1, .int .i64 m.2.1, .int .i64 m.2.2.1, .int .i64 m.2.2.2.1, .int .i64 m.2.2.2.2.1.1, .int .i64 m.2.2.2.2.1.2.1, .int .i64 m.2.2.2.2.1.2.2.1, .int .i64 m.2.2.2.2.1.2.2.2.1, .int .i64 m.2.2.2.2.1.2.2.2.2, .slice A n c, .slice B p d] 34)) w.heap.size lo hi m :=
  ⟨A, B, n, c, p, d, heap_alloc_new w _, h1.below (flat_kept _) ((Below.refl _ _).alloc (Nat.le_refl _) _) hhi, h2.below vote_kept ((Below.refl _ _).alloc (Nat.le_refl _) _) hhi⟩
theorem saidHas1_c (x m : MsgT) (A1 B1 : Option Addr) (n1 c1 p1 d1 lo hi lo' hi' b : Nat) (w : World) (h1 : RdN 7 clR w lo hi A1 n1 c1 x.2.2.2.2.2.1) (h2 : RdN 2 voteR w lo hi B1 p1 d1 x.2.2.2.2.2.2) (hb : MBox w b lo' hi' m) (hhi : hi ≤ w.heap.size) (hhi' : hi' ≤ w.heap.size) :
    Calls Try.prog 36 #[.agg #[.int .i64 x.1, .int .i64 x.2.1, .int .i64 x.2.2.1, .int .i64 x.2.2.2.1, .int .i64 x.2.2.2.2.1.1, .int .i64 x.2.2.2.2.1.2.1, .int .i64 x.2.2.2.2.1.2.2.1, .int .i64 x.2.2.2.2.1.2.2.2.1, .int .i64 x.2.2.2.2.1.2.2.2.2, .slice A1 n1 c1, .slice B1 p1 d1], .pointer (some ⟨b, 0, none⟩)] w fun e w' => e = .returned (.bool (decide (x = m))) ∧ Below w.heap.size w w' := by
  have hA := (Below.refl w.heap.size w).alloc (Nat.le_refl _) (.cells #[.int .i64 x.1, .int .i64 x.2.1, .int .i64 x.2.2.1, .int .i64 x.2.2.2.1, .int .i64 x.2.2.2.2.1.1, .int .i64 x.2.2.2.2.1.2.1, .int .i64 x.2.2.2.2.1.2.2.1, .int .i64 x.2.2.2.2.1.2.2.2.1, .int .i64 x.2.2.2.2.1.2.2.2.2, .slice A1 n1 c1, .slice B1 p1 d1] 34)
  have hz := hA.size
  have hlt := hb.lt
  obtain ⟨A, B, n, c, p, d, x0, x1, x2, x3, x4, x5, x6, x7, x8, x9, x10, q1, q2⟩ := (hb.below hA hlt hhi').cells
  have hne : b ≠ w.heap.size := by omega
  go_enter Try.func36, Try.ntmps36
  go_wp2_with fail
  refine (MsgSame_c x m A1 B1 A B n1 c1 p1 d1 n c p d lo hi lo' hi' _ (h1.below (flat_kept _) hA hhi) (h2.below vote_kept hA hhi) q1 q2 (Nat.le_trans hhi hz) (Nat.le_trans hhi' hz)).mono ?_
  rintro e w1 ⟨rfl, hb1⟩
  go_wp2
  go_ret
  exact ⟨rfl, hA.trans (hb1.mono hz)⟩
theorem index_saidHas (A : Option Addr) (n c lo hi : Nat) (ts : List MsgT) (b : Nat) (p : MsgT → Bool) (w : World) (hs : RdN 11 msgR w lo hi A n c ts) (hhi : hi ≤ w.heap.size) (hp : ∀ (k : Nat) (hk : k < ts.length) (W : World) (A1 B1 : Option Addr) (n1 c1 p1 d1 : Nat), Below w.heap.size w W → RdN 7 clR W lo hi A1 n1 c1 ts[k].2.2.2.2.2.1 → RdN 2 voteR W lo hi B1 p1 d1 ts[k].2.2.2.2.2.2 → Calls Try.prog 36 #[.agg #[.int .i64 ts[k].1, .int .i64 ts[k].2.1, .int .i64 ts[k].2.2.1, .int .i64 ts[k].2.2.2.1, .int .i64 ts[k].2.2.2.2.1.1, .int .i64 ts[k].2.2.2.2.1.2.1, .int .i64 ts[k].2.2.2.2.1.2.2.1, .int .i64 ts[k].2.2.2.2.1.2.2.2.1, .int .i64 ts[k].2.2.2.2.1.2.2.2.2, .slice A1 n1 c1, .slice B1 p1 d1], .pointer (some ⟨b, 0, none⟩)] W fun e W' => e = .returned (.bool (p ts[k])) ∧ Below W.heap.size W W') :
    Calls Try.prog 57 #[.slice A n c, .func (.func 36) #[] #[.pointer (some ⟨b, 0, none⟩)]] w fun e w' => ∃ i : Int, e = .returned (.int .i64 i) ∧ (i = -1 ∧ ts.any p = false ∨ 0 ≤ i ∧ ts.any p = true) ∧ Below w.heap.size w w' := by
  have hn' := hide hs.len
  have hc1 := hs.cap
  have hc2 := hs.max
  unfold maxLen at hc2
  have hp' := hide hp
  clear hp
  go_enter Try.func57, Try.ntmps57
  go_wp2
  go_loopw [8, 5] (fun i _ wr => ∃ k : Nat, k ≤ n ∧ i = .int .i64 k ∧ Hid (∀ j (h : j < ts.length), j < k → ¬ p ts[j] = true) ∧ Below w.heap.size w wr) (fun i _ _ => n - (intOf i).toNat)
  case atStart => exact ⟨0, Nat.zero_le _, rfl, fun j h h' => absurd h' (by omega), Below.refl _ _⟩
  case round =>
    obtain ⟨k, hk, rfl, hno, hbr⟩ := hrel
    by_cases hlt : k < n
    · have hlx : k < ts.length := by have := hn'.out; omega
      obtain ⟨b', off, rfl, hlo, hbh⟩ := hs.addr hlx
      obtain ⟨A1, n1, c1, B1, p1, d1, a0, a1, a2, a3, a4, a5, a6, a7, a8, a9, a10, r0, r1⟩ := (hs.below msg_kept hbr hhi).msg hlx
      go_wp2_with fail
      refine (hp'.out k hlx wr _ _ _ _ _ _ hbr r0 r1).mono ?_
      rintro e w1 ⟨rfl, hb1⟩
      cases he : p ts[k]
      · have he' := hide he
        go_wp2
        go_roundw
        case rel => exact ⟨k + 1, by omega, by go_num, fun j hj hjk h => by
          by_cases h2 : j < k
          · exact hno.out j hj h2 h
          · obtain rfl : j = k := by omega
            have := he'.out
            simp [h] at this, hbr.trans (hb1.mono hbr.size)⟩
        case measure => simp [intOf]; omega
      · have he' : Hid (ts.any p = true) := hide (List.any_eq_true.2 ⟨ts[k], List.getElem_mem hlx, he⟩)
        go_wp2
        go_ret
        exact ⟨k, rfl, .inr ⟨by omega, he'.out⟩, hbr.trans (hb1.mono hbr.size)⟩
    · obtain rfl : k = n := by omega
      go_wp2
      go_ret
      refine ⟨-1, rfl, .inl ⟨rfl, ?_⟩, hbr⟩
      simp only [List.any_eq_false]
      intro x hx
      obtain ⟨j, hj, rfl⟩ := List.mem_iff_getElem.1 hx
      exact hno.out j hj (by have := hn'.out; omega)
theorem contains_saidHas (A : Option Addr) (n c lo hi : Nat) (ts : List MsgT) (b : Nat) (p : MsgT → Bool) (w : World) (hs : RdN 11 msgR w lo hi A n c ts) (hhi : hi ≤ w.heap.size) (hp : ∀ (k : Nat) (hk : k < ts.length) (W : World) (A1 B1 : Option Addr) (n1 c1 p1 d1 : Nat), Below w.heap.size w W → RdN 7 clR W lo hi A1 n1 c1 ts[k].2.2.2.2.2.1 → RdN 2 voteR W lo hi B1 p1 d1 ts[k].2.2.2.2.2.2 → Calls Try.prog 36 #[.agg #[.int .i64 ts[k].1, .int .i64 ts[k].2.1, .int .i64 ts[k].2.2.1, .int .i64 ts[k].2.2.2.1, .int .i64 ts[k].2.2.2.2.1.1, .int .i64 ts[k].2.2.2.2.1.2.1, .int .i64 ts[k].2.2.2.2.1.2.2.1, .int .i64 ts[k].2.2.2.2.1.2.2.2.1, .int .i64 ts[k].2.2.2.2.1.2.2.2.2, .slice A1 n1 c1, .slice B1 p1 d1], .pointer (some ⟨b, 0, none⟩)] W fun e W' => e = .returned (.bool (p ts[k])) ∧ Below W.heap.size W W') :
    Calls Try.prog 30 #[.slice A n c, .func (.func 36) #[] #[.pointer (some ⟨b, 0, none⟩)]] w fun e w' => e = .returned (.bool (ts.any p)) ∧ Below w.heap.size w w' := by
  have hp' := hide hp
  clear hp
  go_enter Try.func30, Try.ntmps30
  go_wp2_with fail
  refine (index_saidHas A n c lo hi ts b p w hs hhi hp'.out).mono ?_
  rintro e w1 ⟨i, rfl, hi, hb1⟩
  rcases hi with ⟨rfl, h⟩ | ⟨h1, h⟩
  · have h' := hide h
    go_wp2
    go_ret
    exact ⟨by rw [h'.out]; rfl, hb1⟩
  · have h' := hide h
    have d1 : decide (0 ≤ i) = true := by simpa using h1
    go_wp2
    go_ret
    exact ⟨by rw [h'.out]; simp [h1], hb1⟩
theorem SaidHas_c (ts : List MsgT) (m : MsgT) (A0 : Option Addr) (n0 c0 lo hi lo' hi' : Nat) (A B : Option Addr) (n c p d : Nat) (w : World) (hs : RdN 11 msgR w lo hi A0 n0 c0 ts) (h1 : RdN 7 clR w lo' hi' A n c m.2.2.2.2.2.1) (h2 : RdN 2 voteR w lo' hi' B p d m.2.2.2.2.2.2) (hhi : hi ≤ w.heap.size) (hhi' : hi' ≤ w.heap.size) :
    Calls Try.prog 14 #[.slice A0 n0 c0, .agg #[.int .i64 m.1, .int .i64 m.2.1, .int .i64 m.2.2.1, .int .i64 m.2.2.2.1, .int .i64 m.2.2.2.2.1.1, .int .i64 m.2.2.2.2.1.2.1, .int .i64 m.2.2.2.2.1.2.2.1, .int .i64 m.2.2.2.2.1.2.2.2.1, .int .i64 m.2.2.2.2.1.2.2.2.2, .slice A n c, .slice B p d]] w fun e w' => e = .returned (.bool (decide (m ∈ ts))) ∧ Below w.heap.size w w' := by
  have hA := (Below.refl w.heap.size w).alloc (Nat.le_refl _) (.cells #[.int .i64 m.1, .int .i64 m.2.1, .int .i64 m.2.2.1, .int .i64 m.2.2.2.1, .int .i64 m.2.2.2.2.1.1, .int .i64 m.2.2.2.2.1.2.1, .int .i64 m.2.2.2.2.1.2.2.1, .int .i64 m.2.2.2.2.1.2.2.2.1, .int .i64 m.2.2.2.2.1.2.2.2.2, .slice A n c, .slice B p d] 34)
  have hm := MBox.made h1 h2 hhi'
  have hs1 := hs.below msg_kept hA hhi
  have hz := hA.size
  have hlt := hm.lt
  go_enter Try.func14, Try.ntmps14
  go_wp2_with fail
  refine (contains_saidHas A0 n0 c0 lo hi ts w.heap.size (fun x => decide (x = m)) _ hs1 (Nat.le_trans hhi hz) (fun k hk W A1 B1 n1 c1 p1 d1 hW r1 r2 => saidHas1_c ts[k] m A1 B1 n1 c1 p1 d1 lo hi lo' hi' w.heap.size W r1 r2 (hm.below hW hlt (Nat.le_trans hhi' hz)) (Nat.le_trans (Nat.le_trans hhi hz) hW.size) (Nat.le_trans (Nat.le_trans hhi' hz) hW.size))).mono ?_
  rintro e w1 ⟨rfl, hb1⟩
  go_wp2
  go_ret
  exact ⟨congrArg (fun b => Ending.returned (.bool b)) (by rw [Bool.eq_iff_iff]; simp), hA.trans (hb1.mono hz)⟩
theorem l3Has_c (ts : List MsgT) (m : MsgT) (A0 : Option Addr) (n0 c0 lo hi lo' hi' : Nat) (A B : Option Addr) (n c p d : Nat) (w : World) (hs : RdN 11 msgR w lo hi A0 n0 c0 ts) (h1 : RdN 7 clR w lo' hi' A n c m.2.2.2.2.2.1) (h2 : RdN 2 voteR w lo' hi' B p d m.2.2.2.2.2.2) (hhi : hi ≤ w.heap.size) (hhi' : hi' ≤ w.heap.size) :
    Calls Try.prog 77 #[.slice A0 n0 c0, .agg #[.int .i64 m.1, .int .i64 m.2.1, .int .i64 m.2.2.1, .int .i64 m.2.2.2.1, .int .i64 m.2.2.2.2.1.1, .int .i64 m.2.2.2.2.1.2.1, .int .i64 m.2.2.2.2.1.2.2.1, .int .i64 m.2.2.2.2.1.2.2.2.1, .int .i64 m.2.2.2.2.1.2.2.2.2, .slice A n c, .slice B p d]] w fun e w' => e = .returned (.bool (decide (m ∈ ts))) ∧ Below w.heap.size w w' := by
  have hA := (Below.refl w.heap.size w).alloc (Nat.le_refl _) (.cells #[.int .i64 m.1, .int .i64 m.2.1, .int .i64 m.2.2.1, .int .i64 m.2.2.2.1, .int .i64 m.2.2.2.2.1.1, .int .i64 m.2.2.2.2.1.2.1, .int .i64 m.2.2.2.2.1.2.2.1, .int .i64 m.2.2.2.2.1.2.2.2.1, .int .i64 m.2.2.2.2.1.2.2.2.2, .slice A n c, .slice B p d] 34)
  have hm := MBox.made h1 h2 hhi'
  have hs1 := hs.below msg_kept hA hhi
  have hz := hA.size
  have hlt := hm.lt
  have hn' := hide hs.len
  have hc1 := hs.cap
  have hc2 := hs.max
  unfold maxLen at hc2
  go_enter Try.func77, Try.ntmps77
  go_wp2_with fail
  generalize w.alloc (.cells #[.int .i64 m.1, .int .i64 m.2.1, .int .i64 m.2.2.1, .int .i64 m.2.2.2.1, .int .i64 m.2.2.2.2.1.1, .int .i64 m.2.2.2.2.1.2.1, .int .i64 m.2.2.2.2.1.2.2.1, .int .i64 m.2.2.2.2.1.2.2.2.1, .int .i64 m.2.2.2.2.1.2.2.2.2, .slice A n c, .slice B p d] 34) = w0 at *
  go_loopw [5] (fun i wr => ∃ k : Nat, k ≤ n0 ∧ i = .int .i64 k ∧ Hid (∀ j (h : j < ts.length), j < k → ¬ ts[j] = m) ∧ Below w0.heap.size w0 wr) (fun i _ => n0 - (intOf i).toNat)
  case atStart => exact ⟨0, Nat.zero_le _, rfl, fun j h h' => absurd h' (by omega), Below.refl _ _⟩
  case round =>
    obtain ⟨k, hk, rfl, hno, hbr⟩ := hrel
    have hBr := hA.trans (hbr.mono hz)
    have hzr := hbr.size
    by_cases hlt2 : k < n0
    · have hlx : k < ts.length := by have := hn'.out; omega
      obtain ⟨b', off, rfl, hlo, hbh⟩ := hs.addr hlx
      obtain ⟨A1, n1, c1, B1, p1, d1, a0, a1, a2, a3, a4, a5, a6, a7, a8, a9, a10, r0, r1⟩ := (hs1.below msg_kept hbr (Nat.le_trans hhi hz)).msg hlx
      obtain ⟨A2, B2, n2, c2, p2, d2, x0, x1, x2, x3, x4, x5, x6, x7, x8, x9, x10, q1, q2⟩ := (hm.below hbr hlt (Nat.le_trans hhi' hz)).cells
      have hsm := hide (fun W (h : Below wr.heap.size wr W) => l3Same_c ts[k] m A1 B1 A2 B2 n1 c1 p1 d1 n2 c2 p2 d2 lo hi lo' hi' W (r0.below (flat_kept _) h (by omega)) (r1.below vote_kept h (by omega)) (q1.below (flat_kept _) h (by omega)) (q2.below vote_kept h (by omega)) (by have := h.size; omega) (by have := h.size; omega))
      cases e : decide (ts[k] = m)
      · have e' := hide (of_decide_eq_false e)
        go_wp2
        refine wp_region_T (fun _ => True) [] [] [] [0, 1, 2, 3, 4, 5] (by kernel_rfl) (by kernel_rfl) (by kernel_rfl) trivial ?_; simp only [pickL, List.getElem?_cons_succ, List.getElem?_cons_zero]
        go_wp2_with (first
          | ((refine no_implicit_lambda% (g24_ ?_)); intro K hK) | (refine no_implicit_lambda% (g1_ ?_)) | ((refine no_implicit_lambda% (g2_ ?_)); intro K hK) | (refine no_implicit_lambda% (g3_ ?_))
          | (go_at_call 87; refine (hsm.out _ (below_drewN wr 1)).mono ?_; rintro e w1 ⟨rfl, hb1⟩; rw [e])
          | fail)
        go_roundw
        case rel => exact ⟨k + 1, by omega, by go_num, fun j hj hjk h => by
          by_cases h2 : j < k
          · exact hno.out j hj h2 h
          · obtain rfl : j = k := by omega
            exact e'.out h, hbr.drew.trans (hb1.mono hzr)⟩
        case measure => simp [intOf]; omega
      · have e' : Hid (m ∈ ts) := hide (of_decide_eq_true e ▸ List.getElem_mem hlx)
        go_wp2
        refine wp_region_T (fun _ => True) [] [] [] [0, 1, 2, 3, 4, 5] (by kernel_rfl) (by kernel_rfl) (by kernel_rfl) trivial ?_; simp only [pickL, List.getElem?_cons_succ, List.getElem?_cons_zero]
        go_wp2_with (first
          | ((refine no_implicit_lambda% (g24_ ?_)); intro K hK) | (refine no_implicit_lambda% (g1_ ?_)) | ((refine no_implicit_lambda% (g2_ ?_)); intro K hK) | (refine no_implicit_lambda% (g3_ ?_))
          | (go_at_call 87; refine (hsm.out _ (below_drewN wr 1)).mono ?_; rintro e w1 ⟨rfl, hb1⟩; rw [e])
          | fail)
        go_ret
        exact ⟨by simp [e'.out], hBr.drew.trans (hb1.mono hBr.size)⟩
    · obtain rfl : k = n0 := by omega
      go_wp2
      go_ret
      have : ¬ m ∈ ts := fun h => by
        obtain ⟨j, hj, he⟩ := List.mem_iff_getElem.1 h
        exact hno.out j hj (by have := hn'.out; omega) he
      exact ⟨by simp [this], hBr⟩
end Go.Proofs.Ytopmbnnjhoinkaa
