/-
  What 'FVd' rests on (texts of this seat put together: TD TE TX1 TX2).
  Conditions: none.
-/
import Derived.Test.YtopmbnnjhoinkaaVV17
import Derived.Test.YtopmbnnjhoinkaaVV25
namespace Go.Proofs.Ytopmbnnjhoinkaa
open Go Go.RowKit Rg
set_option linter.unusedVariables false
set_option linter.unusedSimpArgs false
set_option maxHeartbeats 1000000
theorem rdn_of {α : Type} {sz n d : Nat} {R : ElR α} {Q : α → Prop} {A : Option Addr} {w : World} (hn : n ≤ d) (hd : d ≤ maxLen)
    (h : 0 < n → ∃ g off, A = some ⟨g, off, none⟩ ∧ g < w.heap.size ∧ ∀ i, i < n → ∃ (t : α) (cs : List Value), cs.length = sz ∧ (∀ (j : Nat) (u : Value), cs[j]? = some u → w.cell? ⟨g, off + i * sz + j, none⟩ = some u) ∧ R w 0 w.heap.size cs t ∧ Q t) :
    ∃ ts : List α, RdN sz R w 0 w.heap.size A n d ts ∧ ∀ t ∈ ts, Q t := by
  by_cases h0 : n = 0
  · subst h0
    exact ⟨[], ⟨rfl, hn, hd, fun h => absurd rfl h⟩, fun t ht => by cases ht⟩
  · obtain ⟨g, off, rfl, hg, f⟩ := h (by omega)
    have f' : ∀ i : Fin n, ∃ t : α, ∃ cs : List Value, cs.length = sz ∧ (∀ (j : Nat) (u : Value), cs[j]? = some u → w.cell? ⟨g, off + i.1 * sz + j, none⟩ = some u) ∧ R w 0 w.heap.size cs t ∧ Q t := fun i => f i.1 i.2
    refine ⟨List.ofFn fun i => (f' i).choose, ⟨by simp, hn, hd, fun _ => ⟨g, off, rfl, Nat.zero_le _, hg, fun i hi => ?_⟩⟩, fun t ht => ?_⟩
    · have hi' : i < n := by simpa using hi
      obtain ⟨cs, h1, h2, h3, h4⟩ := (f' ⟨i, hi'⟩).choose_spec
      refine ⟨cs, h1, h2, ?_⟩
      rw [List.getElem_ofFn]
      exact h3
    · obtain ⟨i, hi, rfl⟩ := List.mem_iff_getElem.1 ht
      rw [List.getElem_ofFn]
      obtain ⟨cs, h1, h2, h3, h4⟩ := (f' ⟨i, by simpa using hi⟩).choose_spec
      exact h4
section
variable {T D : Nat} {c : Cx} {w : World}
theorem TW.rowLt (hT : TW T D c w) {e : TypeId} {g off n d : Nat} (hv : SlV c e (.slice (some ⟨g, off, none⟩) n d)) : g < w.heap.size := by
  rcases hv with hx | ⟨g', q, n', d', N, hx, _, _, h5, _⟩
  · cases hx
  · injection hx with hx
    injection hx with hx
    injection hx with hx
    subst hx
    exact hT.lt h5
theorem TW.rdC (hT : TW T D c w) {A : Option Addr} {n d : Nat} (hv : SlV c 27 (.slice A n d)) : ∃ ts : List ClaimT, RdN 7 clR w 0 w.heap.size A n d ts ∧ ∀ t ∈ ts, t.1 ≤ 100 :=
  rdn_of hv.cap.1 hv.cap.2 fun h0 => by
    obtain ⟨g, off, rfl⟩ := hv.addr h0
    refine ⟨g, off, rfl, hT.rowLt hv, fun i hi => ?_⟩
    obtain ⟨us, h1, h2⟩ := hT.elem hv hi
    obtain ⟨t, rfl, h3⟩ := h2.claim
    exact ⟨t, _, rfl, h1, rfl, h3⟩
def OkVote (t : VoteT) : Prop := t.2.length ≤ 100 ∧ ∀ c ∈ t.2, c.1 ≤ 100
theorem TW.voteT (hT : TW T D c w) {us : List Value} (h : TyE T D c 42 us) : ∃ t : VoteT, us.length = 2 ∧ voteR w 0 w.heap.size us t ∧ OkVote t := by
  obtain ⟨i, A, n, d, rfl, h1, h2⟩ := h.vote
  obtain ⟨ts, h3, h4⟩ := hT.rdC h1
  exact ⟨(i, ts), rfl, ⟨A, n, d, rfl, h3⟩, by rw [show ((i, ts) : VoteT).2 = ts from rfl, ← h3.len]; exact h2, h4⟩
theorem TW.rdV (hT : TW T D c w) {A : Option Addr} {n d : Nat} (hv : SlV c 42 (.slice A n d)) : ∃ ts : List VoteT, RdN 2 voteR w 0 w.heap.size A n d ts ∧ ∀ t ∈ ts, OkVote t :=
  rdn_of hv.cap.1 hv.cap.2 fun h0 => by
    obtain ⟨g, off, rfl⟩ := hv.addr h0
    refine ⟨g, off, rfl, hT.rowLt hv, fun i hi => ?_⟩
    obtain ⟨us, h1, h2⟩ := hT.elem hv hi
    obtain ⟨t, h3, h4, h5⟩ := hT.voteT h2
    exact ⟨t, us, h3, h1, h4, h5⟩
def OkMsgT (m : MsgT) : Prop := m.2.2.2.1 ≤ 100 ∧ (m.2.2.2.2.2.1.length ≤ 100 ∧ ∀ c ∈ m.2.2.2.2.2.1, c.1 ≤ 100) ∧ m.2.2.2.2.2.2.length ≤ 100 ∧ ∀ v ∈ m.2.2.2.2.2.2, OkVote v
theorem TW.msgT (hT : TW T D c w) {us : List Value} (h : TyE T D c 34 us) : ∃ (m : MsgT) (A : Option Addr) (n d : Nat) (B : Option Addr) (p q : Nat), us = [.int .i64 m.1, .int .i64 m.2.1, .int .i64 m.2.2.1, .int .i64 m.2.2.2.1, .int .i64 m.2.2.2.2.1.1, .int .i64 m.2.2.2.2.1.2.1, .int .i64 m.2.2.2.2.1.2.2.1, .int .i64 m.2.2.2.2.1.2.2.2.1, .int .i64 m.2.2.2.2.1.2.2.2.2, .slice A n d, .slice B p q] ∧
    RdN 7 clR w 0 w.heap.size A n d m.2.2.2.2.2.1 ∧ RdN 2 voteR w 0 w.heap.size B p q m.2.2.2.2.2.2 ∧ OkMsgT m := by
  obtain ⟨kd, fr, vw, sq, t, A, n, d, B, p, q, rfl, h1, h2, h3, h4, h5⟩ := h.msg
  obtain ⟨cs, h6, h7⟩ := hT.rdC h2
  obtain ⟨vs, h8, h9⟩ := hT.rdV h4
  exact ⟨(kd, fr, vw, sq, t, cs, vs), A, n, d, B, p, q, rfl, h6, h8, h1, ⟨by have := h6.len; show cs.length ≤ 100; omega, h7⟩, by have := h8.len; show vs.length ≤ 100; omega, h9⟩
theorem TW.rdM (hT : TW T D c w) {A : Option Addr} {n d : Nat} (hv : SlV c 34 (.slice A n d)) : ∃ ts : List MsgT, RdN 11 msgR w 0 w.heap.size A n d ts ∧ ∀ t ∈ ts, OkMsgT t :=
  rdn_of hv.cap.1 hv.cap.2 fun h0 => by
    obtain ⟨g, off, rfl⟩ := hv.addr h0
    refine ⟨g, off, rfl, hT.rowLt hv, fun i hi => ?_⟩
    obtain ⟨us, h1, h2⟩ := hT.elem hv hi
    obtain ⟨m, A, n, d, B, p, q, rfl, h3, h4, h5⟩ := hT.msgT h2
    exact ⟨m, _, rfl, h1, ⟨A, n, d, B, p, q, rfl, h3, h4⟩, h5⟩
end
def bareP : List Value → Prop
  | .int .i64 kd :: _ :: _ :: .int .i64 sq :: .int .i64 r0 :: .int .i64 r1 :: .int .i64 r2 :: .int .i64 r3 :: .int .i64 r4 :: _ :: .slice _ p _ :: _ => kd = 5 → sq = 0 ∧ r0 = 0 ∧ r1 = 0 ∧ r2 = 0 ∧ r3 = 0 ∧ r4 = 0 ∧ p = 0
  | _ => False
theorem noneR_five {r : ReqV} (h : noneR r = true) : r.1 = 0 ∧ r.2.1 = 0 ∧ r.2.2.1 = 0 ∧ r.2.2.2.1 = 0 ∧ r.2.2.2.2 = 0 := by
  simp [noneR] at h
  obtain ⟨a, b, c, d, e⟩ := r
  simp_all
section
variable {T D : Nat} {c : Cx} {w : World} {us : List Value} {A : Option Addr} {n d : Nat}
theorem l3Has_t (hT : TW T D c w) (hs : SlV c 34 (.slice A n d)) (hm : TyE T D c 34 us) :
    Calls Try.prog 77 #[.slice A n d, .agg us.toArray] w fun e w' => ∃ b : Bool, e = .returned (.bool b) ∧ Below w.heap.size w w' := by
  obtain ⟨m, A', n', d', B, p, q, rfl, h1, h2, _⟩ := hT.msgT hm
  obtain ⟨ts, h3, _⟩ := hT.rdM hs
  exact (l3Has_c ts m A n d 0 w.heap.size 0 w.heap.size A' B n' d' p q w h3 h1 h2 (Nat.le_refl _) (Nat.le_refl _)).mono fun e w' ⟨h, hb⟩ => ⟨_, h, hb⟩
theorem l3Ok_t (hT : TW T D c w) (hm : TyE T D c 34 us) :
    Calls Try.prog 81 #[.agg us.toArray] w fun e w' => ∃ b : Bool, e = .returned (.bool b) ∧ (b = true → bareP us) ∧ Below w.heap.size w w' := by
  obtain ⟨m, A', n', d', B, p, q, rfl, h1, h2, _⟩ := hT.msgT hm
  refine (l3Ok_c m A' B n' d' p q 0 w.heap.size w h1 h2 (Nat.le_refl _)).mono fun e w' ⟨h, hb⟩ => ⟨_, h, fun ho => ?_, hb⟩
  intro h5
  have hp := h2.len
  have h5' : m.1 = 5 := h5
  unfold okMsg at ho
  simp only [h5'] at ho
  simp at ho
  obtain ⟨_, h6, h7, _, h8⟩ := ho
  obtain ⟨a1, a2, a3, a4, a5⟩ := noneR_five h7
  refine ⟨h6, a1, a2, a3, a4, a5, ?_⟩
  rw [hp, h8]
  rfl
theorem topOf_le100 (cs : List ClaimT) (h : ∀ c ∈ cs, c.1 ≤ 100) : topOf cs ≤ 100 := by
  induction cs using rev_ind with
  | h0 => decide
  | h1 xs x ih =>
    rw [topOf_snoc]
    split
    · exact h x (by simp)
    · exact ih fun c hc => h c (by simp [hc])
theorem l4Top_t (hT : TW T D c w) (hs : SlV c 42 (.slice A n d)) :
    Calls Try.prog 72 #[.slice A n d] w fun e w' => ∃ k : Nat, e = .returned (.int .i64 (k : Int)) ∧ k ≤ 100 ∧ w = w' := by
  obtain ⟨ts, h3, h4⟩ := hT.rdV hs
  have h5 : topOf (clsOf ts) ≤ 100 := topOf_le100 _ fun c hc => by
    obtain ⟨v, hv, hc⟩ := List.mem_flatMap.1 hc
    exact (h4 v hv).2 c hc
  have h6 := topOf_nonneg (clsOf ts)
  exact (l4Top_c A n d 0 w.heap.size ts w h3).mono fun e w' ⟨h, hb⟩ => ⟨(topOf (clsOf ts)).toNat, by rw [Int.toNat_of_nonneg h6]; exact h, by omega, hb⟩
theorem l4Pick_t (hT : TW T D c w) (hs : SlV c 42 (.slice A n d)) (seq : Int) :
    Calls Try.prog 73 #[.slice A n d, .int .i64 seq] w fun e w' => ∃ t : ReqV, e = .returned (.agg #[.int .i64 t.1, .int .i64 t.2.1, .int .i64 t.2.2.1, .int .i64 t.2.2.2.1, .int .i64 t.2.2.2.2]) ∧ Below w.heap.size w w' := by
  obtain ⟨ts, h3, h4⟩ := hT.rdV hs
  exact (l4Pick_c A n d 0 w.heap.size ts seq w h3 (Nat.le_refl _)).mono fun e w' ⟨h, hb⟩ => ⟨_, h, hb⟩
theorem l3VotesOk_t (hT : TW T D c w) (hs : SlV c 42 (.slice A n d)) :
    Calls Try.prog 61 #[.slice A n d] w fun e w' => ∃ b : Bool, e = .returned (.bool b) ∧ Below w.heap.size w w' := by
  obtain ⟨ts, h3, h4⟩ := hT.rdV hs
  exact (l3VotesOk_c A n d 0 w.heap.size ts w h3 (Nat.le_refl _)).mono fun e w' ⟨h, hb⟩ => ⟨_, h, hb⟩
theorem l4Asked_t (hT : TW T D c w) (hs : SlV c 34 (.slice A n d)) (r0 r1 r2 r3 r4 : Int) :
    Calls Try.prog 100 #[.slice A n d, .agg #[.int .i64 r0, .int .i64 r1, .int .i64 r2, .int .i64 r3, .int .i64 r4]] w fun e w' => ∃ b : Bool, e = .returned (.bool b) ∧ Below w.heap.size w w' := by
  obtain ⟨ts, h3, h4⟩ := hT.rdM hs
  exact (l4Asked_c ts (r0, r1, r2, r3, r4) A n d 0 w.heap.size w h3 (Nat.le_refl _)).mono fun e w' ⟨h, hb⟩ => ⟨_, h, hb⟩
end
section
variable {T D : Nat} {c : Cx} {w : World} {g off n d i : Nat}
theorem TW.claimAt (hT : TW T D c w) (hv : SlV c 27 (.slice (some ⟨g, off, none⟩) n d)) (hi : i < n) : ∃ t : ClaimT,
    w.cell? ⟨g, off + i * 7, none⟩ = some (.int .i64 t.1) ∧ w.cell? ⟨g, off + i * 7 + 1, none⟩ = some (.int .i64 t.2.1) ∧ w.cell? ⟨g, off + i * 7 + 2, none⟩ = some (.int .i64 t.2.2.1) ∧ w.cell? ⟨g, off + i * 7 + 3, none⟩ = some (.int .i64 t.2.2.2.1) ∧ w.cell? ⟨g, off + i * 7 + 4, none⟩ = some (.int .i64 t.2.2.2.2.1) ∧ w.cell? ⟨g, off + i * 7 + 5, none⟩ = some (.int .i64 t.2.2.2.2.2.1) ∧ w.cell? ⟨g, off + i * 7 + 6, none⟩ = some (.int .i64 t.2.2.2.2.2.2) ∧ t.1 ≤ 100 := by
  obtain ⟨us, h1, h2⟩ := hT.elem hv hi
  obtain ⟨t, rfl, h3⟩ := h2.claim
  exact ⟨t, h1 0 _ rfl, h1 1 _ rfl, h1 2 _ rfl, h1 3 _ rfl, h1 4 _ rfl, h1 5 _ rfl, h1 6 _ rfl, h3⟩
theorem TW.reqAt (hT : TW T D c w) (hv : SlV c 25 (.slice (some ⟨g, off, none⟩) n d)) (hi : i < n) : ∃ t : ReqV,
    w.cell? ⟨g, off + i * 5, none⟩ = some (.int .i64 t.1) ∧ w.cell? ⟨g, off + i * 5 + 1, none⟩ = some (.int .i64 t.2.1) ∧ w.cell? ⟨g, off + i * 5 + 2, none⟩ = some (.int .i64 t.2.2.1) ∧ w.cell? ⟨g, off + i * 5 + 3, none⟩ = some (.int .i64 t.2.2.2.1) ∧ w.cell? ⟨g, off + i * 5 + 4, none⟩ = some (.int .i64 t.2.2.2.2) := by
  obtain ⟨us, h1, h2⟩ := hT.elem hv hi
  obtain ⟨t, rfl⟩ := h2.req
  exact ⟨t, h1 0 _ rfl, h1 1 _ rfl, h1 2 _ rfl, h1 3 _ rfl, h1 4 _ rfl⟩
theorem TW.voteAt (hT : TW T D c w) (hv : SlV c 42 (.slice (some ⟨g, off, none⟩) n d)) (hi : i < n) : ∃ (fr : Int) (A : Option Addr) (m q : Nat),
    w.cell? ⟨g, off + i * 2, none⟩ = some (.int .i64 fr) ∧ w.cell? ⟨g, off + i * 2 + 1, none⟩ = some (.slice A m q) ∧ SlV c 27 (.slice A m q) ∧ m ≤ 100 := by
  obtain ⟨us, h1, h2⟩ := hT.elem hv hi
  obtain ⟨fr, A, m, q, rfl, h3, h4⟩ := h2.vote
  exact ⟨fr, A, m, q, h1 0 _ rfl, h1 1 _ rfl, h3, h4⟩
theorem TW.msgAt (hT : TW T D c w) (hv : SlV c 34 (.slice (some ⟨g, off, none⟩) n d)) (hi : i < n) : ∃ (kd fr vw sq : Int) (t : ReqV) (A : Option Addr) (m q : Nat) (B : Option Addr) (p f : Nat),
    w.cell? ⟨g, off + i * 11, none⟩ = some (.int .i64 kd) ∧ w.cell? ⟨g, off + i * 11 + 1, none⟩ = some (.int .i64 fr) ∧ w.cell? ⟨g, off + i * 11 + 2, none⟩ = some (.int .i64 vw) ∧ w.cell? ⟨g, off + i * 11 + 3, none⟩ = some (.int .i64 sq) ∧ w.cell? ⟨g, off + i * 11 + 4, none⟩ = some (.int .i64 t.1) ∧ w.cell? ⟨g, off + i * 11 + 5, none⟩ = some (.int .i64 t.2.1) ∧ w.cell? ⟨g, off + i * 11 + 6, none⟩ = some (.int .i64 t.2.2.1) ∧ w.cell? ⟨g, off + i * 11 + 7, none⟩ = some (.int .i64 t.2.2.2.1) ∧ w.cell? ⟨g, off + i * 11 + 8, none⟩ = some (.int .i64 t.2.2.2.2) ∧ w.cell? ⟨g, off + i * 11 + 9, none⟩ = some (.slice A m q) ∧ w.cell? ⟨g, off + i * 11 + 10, none⟩ = some (.slice B p f) ∧
    sq ≤ 100 ∧ SlV c 27 (.slice A m q) ∧ m ≤ 100 ∧ SlV c 42 (.slice B p f) ∧ p ≤ 100 := by
  obtain ⟨us, h1, h2⟩ := hT.elem hv hi
  obtain ⟨kd, fr, vw, sq, t, A, m, q, B, p, f, rfl, h3, h4, h5, h6, h7⟩ := h2.msg
  exact ⟨kd, fr, vw, sq, t, A, m, q, B, p, f, h1 0 _ rfl, h1 1 _ rfl, h1 2 _ rfl, h1 3 _ rfl, h1 4 _ rfl, h1 5 _ rfl, h1 6 _ rfl, h1 7 _ rfl, h1 8 _ rfl, h1 9 _ rfl, h1 10 _ rfl, h3, h4, h5, h6, h7⟩
theorem TW.repAt (hT : TW T D c w) (hv : SlV c 87 (.slice (some ⟨g, off, none⟩) n d)) (hi : i < n) : ∃ (me vw : Int) (lv : Bool) (nx : Int) (A : Option Addr) (n1 d1 : Nat) (B : Option Addr) (n2 d2 : Nat) (C : Option Addr) (n3 d3 : Nat),
    w.cell? ⟨g, off + i * 7, none⟩ = some (.int .i64 me) ∧ w.cell? ⟨g, off + i * 7 + 1, none⟩ = some (.int .i64 vw) ∧ w.cell? ⟨g, off + i * 7 + 2, none⟩ = some (.bool lv) ∧ w.cell? ⟨g, off + i * 7 + 3, none⟩ = some (.int .i64 nx) ∧ w.cell? ⟨g, off + i * 7 + 4, none⟩ = some (.slice A n1 d1) ∧ w.cell? ⟨g, off + i * 7 + 5, none⟩ = some (.slice B n2 d2) ∧ w.cell? ⟨g, off + i * 7 + 6, none⟩ = some (.slice C n3 d3) ∧
    TyE T D c 87 [.int .i64 me, .int .i64 vw, .bool lv, .int .i64 nx, .slice A n1 d1, .slice B n2 d2, .slice C n3 d3] := by
  obtain ⟨us, h1, h2⟩ := hT.elem hv hi
  obtain ⟨me, vw, lv, nx, A, n1, d1, B, n2, d2, C, n3, d3, rfl, _⟩ := h2.rep
  exact ⟨me, vw, lv, nx, A, n1, d1, B, n2, d2, C, n3, d3, h1 0 _ rfl, h1 1 _ rfl, h1 2 _ rfl, h1 3 _ rfl, h1 4 _ rfl, h1 5 _ rfl, h1 6 _ rfl, h2⟩
end
section
variable {k : Bs} {P T D : Nat} {c : Cx} {L : List LE} {V : List VE} {w : World}
theorem St.oldB (h : St k P T D c L V w) {g : Nat} {ob : Obj} (ho : k.w0.heap[g]? = some ob) (hG : k.G ≠ some g) : w.heap[g]? = some ob := (h.on.block g (lt_of_heap ho) hG).trans ho
theorem St.oldc (h : St k P T D c L V w) {p : Addr} {v : Value} (hc : k.w0.cell? p = some v) (hG : k.G ≠ some p.block) : w.cell? p = some v := (World.cell?_of_block (h.on.block p.block (lt_of_cell hc) hG)).trans hc
theorem St.oldN {c0 : Cx} {w0 : World} (h : St ⟨c0, w0, none⟩ P T D c L V w) {p : Addr} {v : Value} (hc : w0.cell? p = some v) : w.cell? p = some v := h.oldc hc (by intro h; cases h)
theorem St.msO (h : St k P T D c L V w) {g : Nat} {ob : Obj} (ho : k.w0.heap[g]? = some ob) (hG : k.G ≠ some g) : MS ((g, ob) :: objs L) w := MS.cons (h.oldB ho hG) h.ms
theorem St.msO2 (h : St k P T D c L V w) {g g' : Nat} {ob ob' : Obj} (ho : k.w0.heap[g]? = some ob) (hG : k.G ≠ some g) (ho' : k.w0.heap[g']? = some ob') (hG' : k.G ≠ some g') : MS ((g, ob) :: (g', ob') :: objs L) w := MS.cons (h.oldB ho hG) (h.msO ho' hG')
theorem TW.rowOb {e : TypeId} {g off n d : Nat} (hT : TW T D c w) (hv : SlV c e (.slice (some ⟨g, off, none⟩) n d)) : ∃ ob, w.heap[g]? = some ob := ⟨w.heap[g]'(hT.rowLt hv), Array.getElem?_eq_getElem _⟩
theorem wp_region_StO {Pg : Program} {id : Nat} {a : Act} {l : List Oper} {Q : Exit → Act → World → Prop} (hS : St k P T D c L V w) {g : Nat} {ob : Obj} (ho : k.w0.heap[g]? = some ob) (hG : k.G ≠ some g) (zs : List TypeId) (et sl : List Tmp) (la : Nat) (t : OrdF) (hz : sizedB Pg zs = true) (hm : Pg.follows .mixedOrders = true)
    (hB : (Region.noSelect l.toArray && decide (t.len = l.length) && okOF zs .any l.toArray et sl la t (Array.replicate l.length false)) = true)
    (h : wpOF Pg l.toArray (MS ((g, ob) :: objs L)) et sl la (fun a' w' => Q .normal a' w') t a w.drew) : (Code.region id l.toArray true).wp Pg Q a w := wp_region_OF (MS ((g, ob) :: objs L)) zs et sl la t hz hm hB (hS.drew.msO ho hG) h
theorem wp_region_StO2 {Pg : Program} {id : Nat} {a : Act} {l : List Oper} {Q : Exit → Act → World → Prop} (hS : St k P T D c L V w) {g g' : Nat} {ob ob' : Obj} (ho : k.w0.heap[g]? = some ob) (hG : k.G ≠ some g) (ho' : k.w0.heap[g']? = some ob') (hG' : k.G ≠ some g') (zs : List TypeId) (et sl : List Tmp) (la : Nat) (t : OrdF) (hz : sizedB Pg zs = true) (hm : Pg.follows .mixedOrders = true)
    (hB : (Region.noSelect l.toArray && decide (t.len = l.length) && okOF zs .any l.toArray et sl la t (Array.replicate l.length false)) = true)
    (h : wpOF Pg l.toArray (MS ((g, ob) :: (g', ob') :: objs L)) et sl la (fun a' w' => Q .normal a' w') t a w.drew) : (Code.region id l.toArray true).wp Pg Q a w := wp_region_OF (MS ((g, ob) :: (g', ob') :: objs L)) zs et sl la t hz hm hB (hS.drew.msO2 ho hG ho' hG') h
end
def PRep (T D : Nat) (c0 : Cx) (w0 : World) (e : Ending) (w' : World) : Prop := ∃ (c' : Cx) (rs : List Value), e = .returned (.agg rs.toArray) ∧ TyE T D c' tR rs ∧ Ext w0.heap.size c0 c' ∧ TW T D c' w' ∧ Below w0.heap.size w0 w'
theorem PRep.mk {T D : Nat} {c0 c' : Cx} {w0 w' : World} {e : Ending} {rs : List Value} (h1 : e = .returned (.agg rs.toArray)) (h2 : TyE T D c' tR rs) (h : Ext w0.heap.size c0 c' ∧ TW T D c' w' ∧ Below w0.heap.size w0 w') : PRep T D c0 w0 e w' := ⟨c', rs, h1, h2, h⟩
section
variable {T D : Nat} {c0 : Cx} {w0 : World} {rs cs ms : List Value}
set_option maxRecDepth 100000 in
set_option maxHeartbeats 4000000 in
theorem l5Take_t (hT : TW T D c0 w0) (hr : TyE T D c0 tR rs) (hq : TyE T D c0 tC cs) (hB : T ≤ 1000000) :
    Calls Try.prog 98 #[.agg rs.toArray, .agg cs.toArray] w0 fun e w' => PRep (T + 1) D c0 w0 e w' := by
  have hS : St ⟨c0, w0, none⟩ 0 (T + 1) (D) c0 [] [] w0 := (St.start hT (fun g hg => by cases hg)).raise (by omega) (by omega)
  obtain ⟨me, vw, lv, nx, A1, n1, d1, A2, n2, d2, A3, n3, d3, rfl, g1, g2, g3, g4, g5, g6, g7, g8⟩ := hr.rep
  obtain ⟨t, rfl, h2⟩ := hq.claim
  replace hr := hr.up (show T ≤ T + 1 by omega) (Nat.le_refl D) (Cx.le.refl c0)
  replace hq := hq.up (show T ≤ T + 1 by omega) (Nat.le_refl D) (Cx.le.refl c0)
  go_enter Try.func98, Try.ntmps98
  go_wp2_with (first
    | ((refine no_implicit_lambda% (hdE ?_)); intro K hK; (first
      | ((with_reducible refine at_dst 2 ?_ ?_); (focus rfl); (refine no_implicit_lambda% (aB ?_)); (try clear hc ht hv); clear hS; intro b2 w hS hc ht hv)
      | ((with_reducible refine at_dst 3 ?_ ?_); (focus rfl); (refine no_implicit_lambda% (aB ?_)); (try clear hc ht hv); clear hS; intro b3 w hS hc ht hv)
      | ((with_reducible refine at_dst 4 ?_ ?_); (focus rfl); (refine no_implicit_lambda% (alzR ?_)); (try clear hc ht hv); clear hS; intro b4 w hS hc ht hv)
      | ((with_reducible refine at_dst 5 ?_ ?_); (focus rfl); ((refine no_implicit_lambda% (r0zCnoP ?_)); (try clear hc ht hv); clear hS; intro c b w hS hx; (try clear hx); intro hc ht hv))
      | ((with_reducible refine at_dst 10 ?_ ?_); (focus rfl); ((refine no_implicit_lambda% (r1zCnoP ?_)); (try clear hc ht hv); clear hS; intro c b w hS hx; (try clear hx); intro hc ht hv))
      | ((with_reducible refine at_dst 8 ?_ ?_); (focus rfl); ((refine no_implicit_lambda% (apzC ?_)); (try clear hc ht hv); clear hS; intro c A8 d8 w hS hx; (try clear hx); intro hc ht hv))
      | ((with_reducible refine at_dst 11 ?_ ?_); (focus rfl); ((refine no_implicit_lambda% (apzC ?_)); (try clear hc ht hv); clear hS; intro c A11 d11 w hS hx; (try clear hx); intro hc ht hv))
      | ((refine no_implicit_lambda% (sazR ?_)); (try clear hc ht hv); clear hS; intro w hS hc ht hv)
      | ((refine no_implicit_lambda% (stS ?_)); (try clear hc ht hv); clear hS; intro w hS hc ht hv)))
    | ((refine no_implicit_lambda% (rgspecl5Take1 ?_)); (try clear hc ht hv); clear hS; intro hS hc ht hv)
    | ((with_reducible refine wpOF_both ?_ ?_) <;> (refine no_implicit_lambda% (pk_ ?_))) | ((with_reducible refine wpOF_three ?_ ?_ ?_) <;> (refine no_implicit_lambda% (pk_ ?_))) | ((with_reducible refine MS.and_ ?_ ?_); (focus (exact msA)); intro hM) | (refine no_implicit_lambda% (ofS ?_)) | ((refine no_implicit_lambda% (ofK ?_)); intro K hK) | (refine no_implicit_lambda% (ofL ?_)) | ((refine no_implicit_lambda% (ofM ?_)); intro K hK) | ((refine no_implicit_lambda% (ofX ?_)); intro K hK) | (refine no_implicit_lambda% (ofN ?_)) | ((with_reducible apply wpT_split); (focus rfl); (focus rfl); (focus rfl); all_goals (intro hxx; simp only [hxx]))
    | fail)
  all_goals ((try simp only [Exit.inBlock, Exit.then]); refine bodyPost_ret (by simp [results, Try.results98, go_sem, hc]; rfl) rfl (PRep.mk (by rfl) (hS.ty 0 rfl) hS.fin))
end
def PMsg (T D : Nat) (c0 : Cx) (w0 : World) (us : List Value) (e : Ending) (w' : World) : Prop := ∃ (c' : Cx) (ms : List Value), e = .returned (.agg ms.toArray) ∧ TyE T D c' tM ms ∧ Ext w0.heap.size c0 c' ∧ TW T D c' w' ∧ Below w0.heap.size w0 w' ∧ (bareP us → bareP ms)
theorem PMsg.mk {T D : Nat} {c0 c' : Cx} {w0 w' : World} {e : Ending} {us ms : List Value} (h1 : e = .returned (.agg ms.toArray)) (h2 : TyE T D c' tM ms) (h : Ext w0.heap.size c0 c' ∧ TW T D c' w' ∧ Below w0.heap.size w0 w') (h3 : bareP us → bareP ms) : PMsg T D c0 w0 us e w' := ⟨c', ms, h1, h2, h.1, h.2.1, h.2.2, h3⟩
section
variable {T D : Nat} {c0 : Cx} {w0 : World} {us : List Value}
set_option maxRecDepth 100000 in
set_option maxHeartbeats 4000000 in
theorem l3Copy_t (hT : TW T D c0 w0) (hm : TyE T D c0 tM us) :
    Calls Try.prog 66 #[.agg us.toArray] w0 fun e w' => PMsg T D c0 w0 us e w' := by
  obtain ⟨kd, fr, mv, sq, mr, B1, p1, q1, B2, p2, q2, rfl, m1, m2, m3, m4, m5⟩ := hm.msg
  have hS : St ⟨c0, w0, none⟩ 0 (T) (D) c0 [] [] w0 := (St.start hT (fun g hg => by cases hg)).raise (by omega) (by omega)
  go_enter Try.func66, Try.ntmps66
  go_wp2_with (first
    | ((refine no_implicit_lambda% (hdE ?_)); intro K hK; (first
      | ((with_reducible refine at_dst 1 ?_ ?_); (focus rfl); (refine no_implicit_lambda% (aB ?_)); (try clear hc ht hv); clear hS; intro b1 w hS hc ht hv)
      | ((with_reducible refine at_dst 2 ?_ ?_); (focus rfl); (refine no_implicit_lambda% (alzM ?_)); (try clear hc ht hv); clear hS; intro b2 w hS hc ht hv)
      | ((with_reducible refine at_dst 5 ?_ ?_); (focus rfl); ((refine no_implicit_lambda% (r0zCnoP ?_)); (try clear hc ht hv); clear hS; intro c b w hS hx; (try clear hx); intro hc ht hv))
      | ((with_reducible refine at_dst 10 ?_ ?_); (focus rfl); ((refine no_implicit_lambda% (r0zVnoP ?_)); (try clear hc ht hv); clear hS; intro c b w hS hx; (try clear hx); intro hc ht hv))
      | ((with_reducible refine at_dst 25 ?_ ?_); (focus rfl); ((refine no_implicit_lambda% (r0zCnoP ?_)); (try clear hc ht hv); clear hS; intro c b w hS hx; (try clear hx); intro hc ht hv))
      | ((with_reducible refine at_dst 34 ?_ ?_); (focus rfl); ((refine no_implicit_lambda% (r1zVnoP ?_)); (try clear hc ht hv); clear hS; intro c b w hS hx; (try clear hx); intro hc ht hv))
      | ((with_reducible refine at_dst 8 ?_ ?_); (focus rfl); ((refine no_implicit_lambda% (apzC ?_)); (try clear hc ht hv); clear hS; intro c A8 d8 w hS hx; (try clear hx); intro hc ht hv))
      | ((with_reducible refine at_dst 32 ?_ ?_); (focus rfl); ((refine no_implicit_lambda% (apzC ?_)); (try clear hc ht hv); clear hS; intro c A32 d32 w hS hx; (try clear hx); intro hc ht hv))
      | ((with_reducible refine at_dst 35 ?_ ?_); (focus rfl); ((refine no_implicit_lambda% (apzV ?_)); (try clear hc ht hv); clear hS; intro c A35 d35 w hS hx; (try clear hx); intro hc ht hv))
      | ((refine no_implicit_lambda% (sazM ?_)); (try clear hc ht hv); clear hS; intro w hS hc ht hv)
      | ((refine no_implicit_lambda% (stS ?_)); (try clear hc ht hv); clear hS; intro w hS hc ht hv)))
    | ((refine no_implicit_lambda% (rgspecl3Copy6XO ?_)); (try clear hc ht hv); clear hS; intro hS hc ht hv)
    | ((with_reducible refine wpOF_both ?_ ?_) <;> (refine no_implicit_lambda% (pk_ ?_))) | ((with_reducible refine wpOF_three ?_ ?_ ?_) <;> (refine no_implicit_lambda% (pk_ ?_))) | ((with_reducible refine MS.and_ ?_ ?_); (focus (exact msA)); intro hM) | (refine no_implicit_lambda% (ofS ?_)) | ((refine no_implicit_lambda% (ofK ?_)); intro K hK) | (refine no_implicit_lambda% (ofL ?_)) | ((refine no_implicit_lambda% (ofM ?_)); intro K hK) | ((refine no_implicit_lambda% (ofX ?_)); intro K hK) | (refine no_implicit_lambda% (ofN ?_)) | ((with_reducible apply wpT_split); (focus rfl); (focus rfl); (focus rfl); all_goals (intro hxx; simp only [hxx]))
    | fail)
  go_loopw [3, 4] (fun tv iv wr => ∃ (i : Nat) (c : Cx) (A : Option Addr) (d : Nat), i ≤ p2 ∧ iv = .int .i64 (i : Int) ∧ tv = .slice A i d ∧ St ⟨c0, w0, none⟩ 0 T D c [(b2, 34, [.int .i64 0, .int .i64 0, .int .i64 0, .int .i64 0, .int .i64 0, .int .i64 0, .int .i64 0, .int .i64 0, .int .i64 0, .slice none 0 0, .slice none 0 0]), (b1, 34, [.int .i64 kd, .int .i64 fr, .int .i64 mv, .int .i64 sq, .int .i64 mr.1, .int .i64 mr.2.1, .int .i64 mr.2.2.1, .int .i64 mr.2.2.2.1, .int .i64 mr.2.2.2.2, .slice A8 p1 d8, .slice B2 p2 q2])] [(42, noP, .slice A i d), (27, noP, .slice A8 p1 d8)] wr) (fun _ iv _ => p2 - (intOf iv).toNat)
  case atStart => exact ⟨0, c, _, _, Nat.zero_le _, rfl, rfl, hS⟩
  case round =>
    (try clear hc ht hv); clear hS
    obtain ⟨i, c, A, d, hi, rfl, rfl, hS⟩ := hrel
    by_cases hlt : i < p2
    · obtain ⟨g, off, rfl⟩ := m4.addr hlt
      obtain ⟨fr', Ac, nc, dc, a0, a1, s1, l1⟩ := hT.voteAt m4 hlt
      obtain ⟨ob, hob⟩ := hT.rowOb m4
      have hoG : (Bs.mk c0 w0 none).G ≠ some g := (by intro h; cases h)
      (try clear hc ht hv); (refine no_implicit_lambda% (fct ?_)); intro hc ht hv; (refine no_implicit_lambda% (fxcbd98 ?_)); intro e0 e1 e2
      go_wp2_with (first
    | ((refine no_implicit_lambda% (hdE ?_)); intro K hK; (first
      | ((with_reducible refine at_dst 1 ?_ ?_); (focus rfl); (refine no_implicit_lambda% (aB ?_)); (try clear hc ht hv); (try clear e0 e1 e2); clear hS; intro b1 w hS hc ht hv; (refine no_implicit_lambda% (fxcbd98 ?_)); intro e0 e1 e2)
      | ((with_reducible refine at_dst 2 ?_ ?_); (focus rfl); (refine no_implicit_lambda% (alzM ?_)); (try clear hc ht hv); (try clear e0 e1 e2); clear hS; intro b2 w hS hc ht hv; (refine no_implicit_lambda% (fxcbd98 ?_)); intro e0 e1 e2)
      | ((with_reducible refine at_dst 5 ?_ ?_); (focus rfl); ((refine no_implicit_lambda% (r0zCnoP ?_)); (try clear hc ht hv); (try clear e0 e1 e2); clear hS; intro c b w hS hx; (try clear hx); intro hc ht hv; (refine no_implicit_lambda% (fxcbd98 ?_)); intro e0 e1 e2))
      | ((with_reducible refine at_dst 10 ?_ ?_); (focus rfl); ((refine no_implicit_lambda% (r0zVnoP ?_)); (try clear hc ht hv); (try clear e0 e1 e2); clear hS; intro c b w hS hx; (try clear hx); intro hc ht hv; (refine no_implicit_lambda% (fxcbd98 ?_)); intro e0 e1 e2))
      | ((with_reducible refine at_dst 25 ?_ ?_); (focus rfl); ((refine no_implicit_lambda% (r0zCnoP ?_)); (try clear hc ht hv); (try clear e0 e1 e2); clear hS; intro c b w hS hx; (try clear hx); intro hc ht hv; (refine no_implicit_lambda% (fxcbd98 ?_)); intro e0 e1 e2))
      | ((with_reducible refine at_dst 34 ?_ ?_); (focus rfl); ((refine no_implicit_lambda% (r1zVnoP ?_)); (try clear hc ht hv); (try clear e0 e1 e2); clear hS; intro c b w hS hx; (try clear hx); intro hc ht hv; (refine no_implicit_lambda% (fxcbd98 ?_)); intro e0 e1 e2))
      | ((with_reducible refine at_dst 8 ?_ ?_); (focus rfl); ((refine no_implicit_lambda% (apzC ?_)); (try clear hc ht hv); (try clear e0 e1 e2); clear hS; intro c A8 d8 w hS hx; (try clear hx); intro hc ht hv; (refine no_implicit_lambda% (fxcbd98 ?_)); intro e0 e1 e2))
      | ((with_reducible refine at_dst 32 ?_ ?_); (focus rfl); ((refine no_implicit_lambda% (apzC ?_)); (try clear hc ht hv); (try clear e0 e1 e2); clear hS; intro c A32 d32 w hS hx; (try clear hx); intro hc ht hv; (refine no_implicit_lambda% (fxcbd98 ?_)); intro e0 e1 e2))
      | ((with_reducible refine at_dst 35 ?_ ?_); (focus rfl); ((refine no_implicit_lambda% (apzV ?_)); (try clear hc ht hv); (try clear e0 e1 e2); clear hS; intro c A35 d35 w hS hx; (try clear hx); intro hc ht hv; (refine no_implicit_lambda% (fxcbd98 ?_)); intro e0 e1 e2))
      | ((refine no_implicit_lambda% (sazM ?_)); (try clear hc ht hv); (try clear e0 e1 e2); clear hS; intro w hS hc ht hv; (refine no_implicit_lambda% (fxcbd98 ?_)); intro e0 e1 e2)
      | ((refine no_implicit_lambda% (stS ?_)); (try clear hc ht hv); (try clear e0 e1 e2); clear hS; intro w hS hc ht hv; (refine no_implicit_lambda% (fxcbd98 ?_)); intro e0 e1 e2)))
    | ((refine no_implicit_lambda% (rgspecl3Copy6XO ?_)); (try clear hc ht hv); (try clear e0 e1 e2); clear hS; intro hS hc ht hv; (refine no_implicit_lambda% (fxcbd98 ?_)); intro e0 e1 e2)
    | ((with_reducible refine wpOF_both ?_ ?_) <;> (refine no_implicit_lambda% (pk_ ?_))) | ((with_reducible refine wpOF_three ?_ ?_ ?_) <;> (refine no_implicit_lambda% (pk_ ?_))) | ((with_reducible refine MS.and_ ?_ ?_); (focus (exact msA)); intro hM) | (refine no_implicit_lambda% (ofS ?_)) | ((refine no_implicit_lambda% (ofK ?_)); intro K hK) | (refine no_implicit_lambda% (ofL ?_)) | ((refine no_implicit_lambda% (ofM ?_)); intro K hK) | ((refine no_implicit_lambda% (ofX ?_)); intro K hK) | (refine no_implicit_lambda% (ofN ?_)) | ((with_reducible apply wpT_split); (focus rfl); (focus rfl); (focus rfl); all_goals (intro hxx; simp only [hxx]))
    | fail)
      go_roundw
      case rel => exact ⟨i + 1, c, A35, d35, by omega, by go_num, rfl, hS.tailV.tailV⟩
      case measure => simp [intOf]; omega
    · obtain rfl : i = p2 := by omega
      (try clear hc ht hv); (refine no_implicit_lambda% (fct ?_)); intro hc ht hv
      go_wp2_with (first
    | ((refine no_implicit_lambda% (hdE ?_)); intro K hK; (first
      | ((with_reducible refine at_dst 1 ?_ ?_); (focus rfl); (refine no_implicit_lambda% (aB ?_)); (try clear hc ht hv); clear hS; intro b1 w hS hc ht hv)
      | ((with_reducible refine at_dst 2 ?_ ?_); (focus rfl); (refine no_implicit_lambda% (alzM ?_)); (try clear hc ht hv); clear hS; intro b2 w hS hc ht hv)
      | ((with_reducible refine at_dst 5 ?_ ?_); (focus rfl); ((refine no_implicit_lambda% (r0zCnoP ?_)); (try clear hc ht hv); clear hS; intro c b w hS hx; (try clear hx); intro hc ht hv))
      | ((with_reducible refine at_dst 10 ?_ ?_); (focus rfl); ((refine no_implicit_lambda% (r0zVnoP ?_)); (try clear hc ht hv); clear hS; intro c b w hS hx; (try clear hx); intro hc ht hv))
      | ((with_reducible refine at_dst 25 ?_ ?_); (focus rfl); ((refine no_implicit_lambda% (r0zCnoP ?_)); (try clear hc ht hv); clear hS; intro c b w hS hx; (try clear hx); intro hc ht hv))
      | ((with_reducible refine at_dst 34 ?_ ?_); (focus rfl); ((refine no_implicit_lambda% (r1zVnoP ?_)); (try clear hc ht hv); clear hS; intro c b w hS hx; (try clear hx); intro hc ht hv))
      | ((with_reducible refine at_dst 8 ?_ ?_); (focus rfl); ((refine no_implicit_lambda% (apzC ?_)); (try clear hc ht hv); clear hS; intro c A8 d8 w hS hx; (try clear hx); intro hc ht hv))
      | ((with_reducible refine at_dst 32 ?_ ?_); (focus rfl); ((refine no_implicit_lambda% (apzC ?_)); (try clear hc ht hv); clear hS; intro c A32 d32 w hS hx; (try clear hx); intro hc ht hv))
      | ((with_reducible refine at_dst 35 ?_ ?_); (focus rfl); ((refine no_implicit_lambda% (apzV ?_)); (try clear hc ht hv); clear hS; intro c A35 d35 w hS hx; (try clear hx); intro hc ht hv))
      | ((refine no_implicit_lambda% (sazM ?_)); (try clear hc ht hv); clear hS; intro w hS hc ht hv)
      | ((refine no_implicit_lambda% (stS ?_)); (try clear hc ht hv); clear hS; intro w hS hc ht hv)))
    | ((refine no_implicit_lambda% (rgspecl3Copy6XO ?_)); (try clear hc ht hv); clear hS; intro hS hc ht hv)
    | ((with_reducible refine wpOF_both ?_ ?_) <;> (refine no_implicit_lambda% (pk_ ?_))) | ((with_reducible refine wpOF_three ?_ ?_ ?_) <;> (refine no_implicit_lambda% (pk_ ?_))) | ((with_reducible refine MS.and_ ?_ ?_); (focus (exact msA)); intro hM) | (refine no_implicit_lambda% (ofS ?_)) | ((refine no_implicit_lambda% (ofK ?_)); intro K hK) | (refine no_implicit_lambda% (ofL ?_)) | ((refine no_implicit_lambda% (ofM ?_)); intro K hK) | ((refine no_implicit_lambda% (ofX ?_)); intro K hK) | (refine no_implicit_lambda% (ofN ?_)) | ((with_reducible apply wpT_split); (focus rfl); (focus rfl); (focus rfl); all_goals (intro hxx; simp only [hxx]))
    | fail)
      all_goals ((try simp only [Exit.inBlock, Exit.then]); refine bodyPost_ret (by simp [results, Try.results66, go_sem, hc]; rfl) rfl (PMsg.mk (by rfl) (hS.ty 0 rfl) hS.fin (fun h => h)))
end
end Go.Proofs.Ytopmbnnjhoinkaa
