/-
  A law's nested arguments, opened: asks, claims, votes, letters, keepers (package laws' types). (Printed by gen_no.py.)
-/
import Derived.Test.YtocifmnkohgfjaaDoorNA
import Derived.ProofKit
namespace Go.Proofs.YtocifmnkohgfjaaDoor
open Go Go.RowKit Go.WideShapes Go.ChangeShapes Go.Deep
set_option linter.unusedVariables false
set_option linter.unusedSimpArgs false

section
variable {H : Type} {enc : TypeId × Value → H} {P : Program} {w : World} {base : Nat} {spare : Nat → Bool} {held : Bool}
theorem trod_fields {t : TypeId} {fs : Array Field} {fuel : Nat} {cs : List Value} {x : DataW H × List MemPlace} (ht : P.underlying t = some (.struct fs)) (h : DataW.trod enc P w base spare held fuel t cs = some x) :
    cs.length = P.cellsOf t ∧ ∀ (i : Nat) (f : Field), fs[i]? = some f → ∃ (n : Nat) (y : DataW H × List MemPlace), DataW.trod enc P w base spare held n f.type ((cs.drop f.offset).take (P.cellsOf f.type)) = some y := by
  obtain ⟨ys, n, _, _, hlen, hys, hf⟩ := DataW.trod_struct ht h
  refine ⟨hlen, fun i f hfi => ?_⟩
  have hi : i < ys.length := by rw [hys]; exact (Array.getElem?_eq_some_iff.1 hfi).1
  exact ⟨n, ys[i], (hf i f hfi).trans (List.getElem?_eq_getElem hi)⟩
/-- A slice, its elements read by 'helem'. -/
theorem trod_rdn {α : Type} {R : ElR α} {sz : Nat} {t e : TypeId} {fuel : Nat} {v : Value} {x : DataW H × List MemPlace} (ht : P.underlying t = some (.slice e)) (hC : P.cellsOf e = sz) (hsz : 0 < sz)
    (h : DataW.trod enc P w base spare held fuel t [v] = some x)
    (helem : ∀ (n : Nat) (cs : List Value) (y : DataW H × List MemPlace), DataW.trod enc P w base spare held n e cs = some y → cs.length = sz ∧ ∃ t : α, R w 0 w.heap.size cs t) :
    ∃ A n c, ∃ ts : List α, v = .slice A n c ∧ RdN sz R w 0 w.heap.size A n c ts := by
  rcases open_slice ht h with ⟨hcs, _⟩ | ⟨a, len, cap, m, n, D, Pl, hcs, hb, hl1, hm, hmm, hx, hi⟩
  · injection hcs with hv
    exact ⟨none, 0, 0, [], hv, RdN.nil_ _ _ _ _ _ _ _ (by simp [maxLen])⟩
  · injection hcs with hv
    have hlm : len ≤ m := by rw [hmm]; split <;> omega
    have hall : ∀ i, i < len → ∃ (y : α) (cs : List Value), cs.length = sz ∧ (∀ (j : Nat) (u : Value), cs[j]? = some u → w.cell? ((a.add (i * sz)).add j) = some u) ∧ R w 0 w.heap.size cs y := by
      intro i hil
      obtain ⟨cs', hc, ht'⟩ := hi i (by omega)
      rw [hC] at hc
      obtain ⟨_, hcl, hat⟩ := World.cells?_some hc
      obtain ⟨hl, y, hy⟩ := helem n cs' _ ht'
      refine ⟨y, cs', hl, fun j u hu => ?_, hy⟩
      have hj : j < sz := by rw [← hl]; exact (List.getElem?_eq_some_iff.1 hu).1
      rw [hat j hj]
      exact hu
    have hlist : ∀ k, k ≤ len → ∃ ts : List α, ts.length = k ∧ ∀ (i : Nat) (h : i < ts.length), ∃ cs : List Value, cs.length = sz ∧ (∀ (j : Nat) (u : Value), cs[j]? = some u → w.cell? ((a.add (i * sz)).add j) = some u) ∧ R w 0 w.heap.size cs ts[i] := by
      intro k
      induction k with
      | zero => intro _; exact ⟨[], rfl, fun i h => absurd h (by simp)⟩
      | succ k ih =>
        intro hk
        obtain ⟨ts, htl, h1⟩ := ih (by omega)
        obtain ⟨y, cs, hy⟩ := hall k (by omega)
        refine ⟨ts ++ [y], by simp [htl], fun i hi => ?_⟩
        by_cases hik : i < k
        · rw [List.getElem_append_left (by omega)]
          exact h1 i (by omega)
        · obtain rfl : i = k := by simp [htl] at hi; omega
          rw [List.getElem_append_right (by omega)]
          simp only [htl, Nat.sub_self, List.getElem_cons_zero]
          exact ⟨cs, hy⟩
    obtain ⟨ts, htl, h1⟩ := hlist len (Nat.le_refl _)
    refine ⟨some a, len, cap, ts, hv, htl.symm, hl1, hm, fun hne => ?_⟩
    have h0 : 0 < ts.length := by
      rcases Nat.eq_zero_or_pos ts.length with h | h
      · exact absurd (List.eq_nil_of_length_eq_zero h) hne
      · exact h
    obtain ⟨cs, h2, h3, h4⟩ := h1 0 h0
    have hc0 := h3 0 (cs[0]'(by omega)) (List.getElem?_eq_getElem _)
    obtain ⟨b, off, spot⟩ := a
    have hspot : spot = none := by
      have := World.cell?_spot hc0
      unfold Addr.add at this
      split at this <;> split at this <;> simp_all
    subst hspot
    have hadd : ∀ i j : Nat, ((⟨b, off, none⟩ : Addr).add i).add j = ⟨b, off + i + j, none⟩ := by
      intro i j
      unfold Addr.add
      by_cases hi0 : i = 0 <;> by_cases hj0 : j = 0 <;> simp [hi0, hj0]
    refine ⟨b, off, rfl, Nat.zero_le _, ?_, fun i hi => ?_⟩
    · have := hc0
      rw [hadd] at this
      rcases Nat.lt_or_ge b w.heap.size with h1 | h1
      · exact h1
      · simp [World.cell?, Array.getElem?_eq_none h1] at this
    · obtain ⟨cs, h2, h3, h4⟩ := h1 i hi
      refine ⟨cs, h2, fun j u hu => ?_, h4⟩
      have := h3 j u hu
      rw [hadd] at this
      exact this
theorem one_of_take {cs : List Value} {k n : Nat} (hl : cs.length = n) (hk : k < n) : ∃ v, (cs.drop k).take 1 = [v] := by
  rw [List.drop_eq_getElem_cons (by omega)]
  exact ⟨_, rfl⟩
end

section
variable {H : Type} {enc : TypeId × Value → H} {w : World} {base : Nat} {spare : Nat → Bool} {held : Bool}
set_option maxRecDepth 100000 in
theorem open_Req {fuel : Nat} {cs : List Value} {y : DataW H × List MemPlace} (h : DataW.trod enc Tryd.prog w base spare held fuel 23 cs = some y) : cs.length = 5 ∧ ∃ t : ReqV, cs = [.int .i64 t.1, .int .i64 t.2.1, .int .i64 t.2.2.1, .int .i64 t.2.2.2.1, .int .i64 t.2.2.2.2] := by
  obtain ⟨hl, hf⟩ := trod_fields Tryd.underlying23 h
  rw [show Tryd.prog.cellsOf 23 = 5 by kernel_rfl] at hl
  have c0 : Tryd.prog.cellsOf 3 = 1 := by kernel_rfl

  obtain ⟨n0, y0, h0⟩ := hf 0 _ rfl
  change DataW.trod enc Tryd.prog w base spare held n0 3 ((cs.drop 0).take (Tryd.prog.cellsOf 3)) = _ at h0
  rw [c0] at h0
  obtain ⟨a0, e0, _⟩ := DataW.trod_int Tryd.underlying3 h0
  obtain ⟨n1, y1, h1⟩ := hf 1 _ rfl
  change DataW.trod enc Tryd.prog w base spare held n1 3 ((cs.drop 1).take (Tryd.prog.cellsOf 3)) = _ at h1
  rw [c0] at h1
  obtain ⟨a1, e1, _⟩ := DataW.trod_int Tryd.underlying3 h1
  obtain ⟨n2, y2, h2⟩ := hf 2 _ rfl
  change DataW.trod enc Tryd.prog w base spare held n2 3 ((cs.drop 2).take (Tryd.prog.cellsOf 3)) = _ at h2
  rw [c0] at h2
  obtain ⟨a2, e2, _⟩ := DataW.trod_int Tryd.underlying3 h2
  obtain ⟨n3, y3, h3⟩ := hf 3 _ rfl
  change DataW.trod enc Tryd.prog w base spare held n3 3 ((cs.drop 3).take (Tryd.prog.cellsOf 3)) = _ at h3
  rw [c0] at h3
  obtain ⟨a3, e3, _⟩ := DataW.trod_int Tryd.underlying3 h3
  obtain ⟨n4, y4, h4⟩ := hf 4 _ rfl
  change DataW.trod enc Tryd.prog w base spare held n4 3 ((cs.drop 4).take (Tryd.prog.cellsOf 3)) = _ at h4
  rw [c0] at h4
  obtain ⟨a4, e4, _⟩ := DataW.trod_int Tryd.underlying3 h4
  have hcs : cs = (cs.drop 0).take 1 ++ (cs.drop 1).take 1 ++ (cs.drop 2).take 1 ++ (cs.drop 3).take 1 ++ (cs.drop 4).take 1 := by
    match cs, hl with
    | [v0, v1, v2, v3, v4], _ => rfl
  rw [e0, e1, e2, e3, e4] at hcs
  exact ⟨hl, (a0, a1, a2, a3, a4), hcs⟩

set_option maxRecDepth 100000 in
theorem open_Claim {fuel : Nat} {cs : List Value} {y : DataW H × List MemPlace} (h : DataW.trod enc Tryd.prog w base spare held fuel 66 cs = some y) : cs.length = 7 ∧ ∃ t : ClaimT, clR w 0 w.heap.size cs t := by
  obtain ⟨hl, hf⟩ := trod_fields Tryd.underlying66 h
  rw [show Tryd.prog.cellsOf 66 = 7 by kernel_rfl] at hl
  have c0 : Tryd.prog.cellsOf 3 = 1 := by kernel_rfl
  have c_1 : Tryd.prog.cellsOf 23 = 5 := by kernel_rfl
  obtain ⟨n0, y0, h0⟩ := hf 0 _ rfl
  change DataW.trod enc Tryd.prog w base spare held n0 3 ((cs.drop 0).take (Tryd.prog.cellsOf 3)) = _ at h0
  rw [c0] at h0
  obtain ⟨a0, e0, _⟩ := DataW.trod_int Tryd.underlying3 h0
  obtain ⟨n1, y1, h1⟩ := hf 1 _ rfl
  change DataW.trod enc Tryd.prog w base spare held n1 3 ((cs.drop 1).take (Tryd.prog.cellsOf 3)) = _ at h1
  rw [c0] at h1
  obtain ⟨a1, e1, _⟩ := DataW.trod_int Tryd.underlying3 h1
  obtain ⟨n2, y2, h2⟩ := hf 2 _ rfl
  change DataW.trod enc Tryd.prog w base spare held n2 23 ((cs.drop 2).take (Tryd.prog.cellsOf 23)) = _ at h2
  rw [c_1] at h2
  obtain ⟨_, a2, e2⟩ := open_Req h2
  have hcs : cs = (cs.drop 0).take 1 ++ (cs.drop 1).take 1 ++ (cs.drop 2).take 5 := by
    match cs, hl with
    | [v0, v1, v2, v3, v4, v5, v6], _ => rfl
  rw [e0, e1, e2] at hcs
  exact ⟨hl, (a0, a1, a2), hcs⟩

set_option maxRecDepth 100000 in
theorem open_Vote {fuel : Nat} {cs : List Value} {y : DataW H × List MemPlace} (h : DataW.trod enc Tryd.prog w base spare held fuel 55 cs = some y) : cs.length = 2 ∧ ∃ t : VoteT, voteR w 0 w.heap.size cs t := by
  obtain ⟨hl, hf⟩ := trod_fields Tryd.underlying55 h
  rw [show Tryd.prog.cellsOf 55 = 2 by kernel_rfl] at hl
  have c0 : Tryd.prog.cellsOf 3 = 1 := by kernel_rfl
  have c_1 : Tryd.prog.cellsOf 24 = 1 := by kernel_rfl
  obtain ⟨n0, y0, h0⟩ := hf 0 _ rfl
  change DataW.trod enc Tryd.prog w base spare held n0 3 ((cs.drop 0).take (Tryd.prog.cellsOf 3)) = _ at h0
  rw [c0] at h0
  obtain ⟨a0, e0, _⟩ := DataW.trod_int Tryd.underlying3 h0
  obtain ⟨n1, y1, h1⟩ := hf 1 _ rfl
  change DataW.trod enc Tryd.prog w base spare held n1 24 ((cs.drop 1).take (Tryd.prog.cellsOf 24)) = _ at h1
  rw [c_1] at h1
  obtain ⟨v1, e1⟩ := one_of_take (k := 1) hl (by omega)
  rw [e1] at h1
  obtain ⟨A1, m1, c1, a1, rfl, r1⟩ := trod_rdn (R := clR) (sz := 7) Tryd.underlying24 (by kernel_rfl) (by omega) h1 (fun n cs y hy => open_Claim hy)
  have hcs : cs = (cs.drop 0).take 1 ++ (cs.drop 1).take 1 := by
    match cs, hl with
    | [v0, v1], _ => rfl
  rw [e0, e1] at hcs
  exact ⟨hl, (a0, a1), A1, m1, c1, hcs, r1⟩

set_option maxRecDepth 100000 in
theorem open_Msg {fuel : Nat} {cs : List Value} {y : DataW H × List MemPlace} (h : DataW.trod enc Tryd.prog w base spare held fuel 27 cs = some y) : cs.length = 11 ∧ ∃ t : MsgT, msgR w 0 w.heap.size cs t := by
  obtain ⟨hl, hf⟩ := trod_fields Tryd.underlying27 h
  rw [show Tryd.prog.cellsOf 27 = 11 by kernel_rfl] at hl
  have c0 : Tryd.prog.cellsOf 3 = 1 := by kernel_rfl
  have c_1 : Tryd.prog.cellsOf 23 = 5 := by kernel_rfl
  have c_2 : Tryd.prog.cellsOf 24 = 1 := by kernel_rfl
  have c_3 : Tryd.prog.cellsOf 25 = 1 := by kernel_rfl
  obtain ⟨n0, y0, h0⟩ := hf 0 _ rfl
  change DataW.trod enc Tryd.prog w base spare held n0 3 ((cs.drop 0).take (Tryd.prog.cellsOf 3)) = _ at h0
  rw [c0] at h0
  obtain ⟨a0, e0, _⟩ := DataW.trod_int Tryd.underlying3 h0
  obtain ⟨n1, y1, h1⟩ := hf 1 _ rfl
  change DataW.trod enc Tryd.prog w base spare held n1 3 ((cs.drop 1).take (Tryd.prog.cellsOf 3)) = _ at h1
  rw [c0] at h1
  obtain ⟨a1, e1, _⟩ := DataW.trod_int Tryd.underlying3 h1
  obtain ⟨n2, y2, h2⟩ := hf 2 _ rfl
  change DataW.trod enc Tryd.prog w base spare held n2 3 ((cs.drop 2).take (Tryd.prog.cellsOf 3)) = _ at h2
  rw [c0] at h2
  obtain ⟨a2, e2, _⟩ := DataW.trod_int Tryd.underlying3 h2
  obtain ⟨n3, y3, h3⟩ := hf 3 _ rfl
  change DataW.trod enc Tryd.prog w base spare held n3 3 ((cs.drop 3).take (Tryd.prog.cellsOf 3)) = _ at h3
  rw [c0] at h3
  obtain ⟨a3, e3, _⟩ := DataW.trod_int Tryd.underlying3 h3
  obtain ⟨n4, y4, h4⟩ := hf 4 _ rfl
  change DataW.trod enc Tryd.prog w base spare held n4 23 ((cs.drop 4).take (Tryd.prog.cellsOf 23)) = _ at h4
  rw [c_1] at h4
  obtain ⟨_, a4, e4⟩ := open_Req h4
  obtain ⟨n5, y5, h5⟩ := hf 5 _ rfl
  change DataW.trod enc Tryd.prog w base spare held n5 24 ((cs.drop 9).take (Tryd.prog.cellsOf 24)) = _ at h5
  rw [c_2] at h5
  obtain ⟨v5, e5⟩ := one_of_take (k := 9) hl (by omega)
  rw [e5] at h5
  obtain ⟨A5, m5, c5, a5, rfl, r5⟩ := trod_rdn (R := clR) (sz := 7) Tryd.underlying24 (by kernel_rfl) (by omega) h5 (fun n cs y hy => open_Claim hy)
  obtain ⟨n6, y6, h6⟩ := hf 6 _ rfl
  change DataW.trod enc Tryd.prog w base spare held n6 25 ((cs.drop 10).take (Tryd.prog.cellsOf 25)) = _ at h6
  rw [c_3] at h6
  obtain ⟨v6, e6⟩ := one_of_take (k := 10) hl (by omega)
  rw [e6] at h6
  obtain ⟨A6, m6, c6, a6, rfl, r6⟩ := trod_rdn (R := voteR) (sz := 2) Tryd.underlying25 (by kernel_rfl) (by omega) h6 (fun n cs y hy => open_Vote hy)
  have hcs : cs = (cs.drop 0).take 1 ++ (cs.drop 1).take 1 ++ (cs.drop 2).take 1 ++ (cs.drop 3).take 1 ++ (cs.drop 4).take 5 ++ (cs.drop 9).take 1 ++ (cs.drop 10).take 1 := by
    match cs, hl with
    | [v0, v1, v2, v3, v4, v5, v6, v7, v8, v9, v10], _ => rfl
  rw [e0, e1, e2, e3, e4, e5, e6] at hcs
  exact ⟨hl, (a0, a1, a2, a3, a4, a5, a6), A5, m5, c5, A6, m6, c6, hcs, r5, r6⟩

end
end Go.Proofs.YtocifmnkohgfjaaDoor
