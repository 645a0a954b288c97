/-
  What 'LAc' rests on (texts of this seat put together: NF RegB NP NSw NO).
  Conditions: none.
-/
import Derived.Test.YtopmbnnjhoinkaaGreatZZ3
import Derived.Test.YtopmbnnjhoinkaaGreatZZ4
import Derived.Maps.OwnSet
import Derived.ProofKit
import Derived.WalkKit
namespace Go.Proofs.YtopmbnnjhoinkaaGreat
open Go.RowKit Rg
set_option linter.unusedVariables false
set_option linter.unusedSimpArgs false
set_option maxHeartbeats 1000000
def Cs (sz : Nat) : Type := {l : List Value // l.length = sz ∧ ∀ u ∈ l, u.oneCell' = true}
def Cs.val {sz : Nat} (c : Cs sz) : List Value := Subtype.val c
theorem Cs.len {sz : Nat} (c : Cs sz) : c.val.length = sz := c.2.1
theorem Cs.one {sz : Nat} (c : Cs sz) : ∀ u ∈ c.val, u.oneCell' = true := c.2.2
def FL {α : Type} {sz : Nat} (F : ElR α) (w : World) : Nat → Nat → List (Cs sz) → List α → Prop
  | lo, hi, [], [] => lo ≤ hi
  | lo, hi, c :: cs, t :: ts => ∃ m, lo ≤ m ∧ F w lo m c.val t ∧ FL F w m hi cs ts
  | _, _, [], _ :: _ => False
  | _, _, _ :: _, [] => False
section
variable {α : Type} {sz : Nat} {F R : ElR α} {w w' : World}
theorem FL.le : ∀ {lo hi : Nat} {cs : List (Cs sz)} {ts : List α}, FL F w lo hi cs ts → lo ≤ hi
  | lo, hi, [], [], h => h
  | lo, hi, c :: cs, t :: ts, ⟨m, h1, _, h2⟩ => Nat.le_trans h1 h2.le
theorem FL.len : ∀ {lo hi : Nat} {cs : List (Cs sz)} {ts : List α}, FL F w lo hi cs ts → cs.length = ts.length
  | lo, hi, [], [], h => rfl
  | lo, hi, c :: cs, t :: ts, ⟨m, h1, _, h2⟩ => by simp [h2.len]
theorem FL.keep (K : Kept F) : ∀ {lo hi : Nat} {cs : List (Cs sz)} {ts : List α}, FL F w lo hi cs ts → (∀ b, lo ≤ b → b < hi → w'.heap[b]? = w.heap[b]?) → FL F w' lo hi cs ts
  | lo, hi, [], [], h, _ => h
  | lo, hi, c :: cs, t :: ts, ⟨m, h1, h3, h2⟩, hk => ⟨m, h1, K.keep h3 (fun b hb hb2 => hk b hb (by have := h2.le; omega)), h2.keep K (fun b hb hb2 => hk b (by omega) hb2)⟩
theorem FL.snoc (K : Kept F) : ∀ {lo mid hi : Nat} {cs : List (Cs sz)} {ts : List α} {c : Cs sz} {t : α}, FL F w lo mid cs ts → mid ≤ hi → F w mid hi c.val t → FL F w lo hi (cs ++ [c]) (ts ++ [t])
  | lo, mid, hi, [], [], c, t, h, hm, h2 => ⟨hi, by have h' : lo ≤ mid := h; omega, K.mono h2 h (Nat.le_refl _), Nat.le_refl _⟩
  | lo, mid, hi, d :: cs, u :: ts, c, t, ⟨m, h1, h3, h2⟩, hm, h4 => ⟨m, h1, h3, h2.snoc K hm h4⟩
theorem FL.hi_mono : ∀ {lo hi hi' : Nat} {cs : List (Cs sz)} {ts : List α}, FL F w lo hi cs ts → hi ≤ hi' → FL F w lo hi' cs ts
  | lo, hi, hi', [], [], h, hh => Nat.le_trans h hh
  | lo, hi, hi', c :: cs, t :: ts, ⟨m, h1, h3, h2⟩, hh => ⟨m, h1, h3, h2.hi_mono hh⟩
theorem FL.at_ (K : Kept F) : ∀ {lo hi : Nat} {cs : List (Cs sz)} {ts : List α}, FL F w lo hi cs ts → ∀ (i : Nat) (hc : i < cs.length) (ht : i < ts.length), F w lo hi cs[i].val ts[i]
  | lo, hi, [], [], h, i, hc, _ => absurd hc (by simp)
  | lo, hi, c :: cs, t :: ts, ⟨m, h1, h3, h2⟩, 0, _, _ => K.mono h3 (Nat.le_refl _) h2.le
  | lo, hi, c :: cs, t :: ts, ⟨m, h1, h3, h2⟩, i + 1, hc, ht => K.mono (h2.at_ K i (by simpa using hc) (by simpa using ht)) h1 (Nat.le_refl _)
end
def Fr {α : Type} (sz : Nat) (e : TypeId) (F : ElR α) (w : World) (lo hi : Nat) (A : Option Addr) (n c : Nat) (ts : List α) : Prop :=
  ∃ (g : Nat) (ls : List (Cs sz)), A = some ⟨g, 0, none⟩ ∧ lo ≤ g ∧ g < hi ∧ Own Cs.val sz e w lo (.slice A n c) ls ∧ FL F w (g + 1) hi ls ts
section
variable {α : Type} {sz : Nat} {e : TypeId} {F R : ElR α} {w w' : World} {lo hi n c : Nat} {A : Option Addr} {ts : List α}
theorem Fr.keep (K : Kept F) (h : Fr sz e F w lo hi A n c ts) (hk : ∀ b, lo ≤ b → b < hi → w'.heap[b]? = w.heap[b]?) : Fr sz e F w' lo hi A n c ts := by
  obtain ⟨g, ls, rfl, h1, h2, h3, h4⟩ := h
  exact ⟨g, ls, rfl, h1, h2, h3.keep (fun b hb => by simp [Value.ownBlock] at hb; subst hb; exact hk _ h1 h2), h4.keep K (fun b hb hb2 => hk b (by omega) hb2)⟩
theorem Fr.mono (K : Kept F) {lo' hi' : Nat} (h : Fr sz e F w lo hi A n c ts) (hl : lo' ≤ lo) (hh : hi ≤ hi') : Fr sz e F w lo' hi' A n c ts := by
  obtain ⟨g, ls, rfl, h1, h2, h3, h4⟩ := h
  exact ⟨g, ls, rfl, by omega, by omega, h3.mono hl, h4.hi_mono hh⟩
theorem Fr.len (h : Fr sz e F w lo hi A n c ts) : n = ts.length := by
  obtain ⟨g, ls, rfl, h1, h2, h3, h4⟩ := h
  rw [h3.lenEq, h4.len]
theorem Fr.below (K : Kept F) {B : Nat} (h : Fr sz e F w lo hi A n c ts) (hb : Below B w w') (hB : hi ≤ B) : Fr sz e F w' lo hi A n c ts := h.keep K fun b _ h2 => hb.block b (by omega)
theorem Fr.rdn (K : Kept F) (KR : Kept R) (hF : ∀ {w lo hi cs t}, F w lo hi cs t → R w lo hi cs t) (h : Fr sz e F w lo hi A n c ts) : RdN sz R w lo hi A n c ts := by
  obtain ⟨g, ls, rfl, h1, h2, h3, h4⟩ := h
  have hl := h4.len
  obtain ⟨hn, hnc, hs⟩ := h3.slAt Cs.len
  refine ⟨by rw [hn, hl], hnc, h3.cap.2, fun hne => ?_⟩
  have hne' : ls ≠ [] := by
    intro h
    rw [h] at hl
    exact hne (List.eq_nil_of_length_eq_zero hl.symm)
  obtain ⟨b, off, he, _, _, h6⟩ := hs hne'
  injection he with he
  injection he with e1 e2
  subst e1; subst e2
  refine ⟨g, 0, rfl, h1, h2, fun i hi => ?_⟩
  have hi' : i < ls.length := by omega
  exact ⟨ls[i].val, ls[i].len, fun j u hu => h6 i ls[i] (List.getElem?_eq_getElem hi') j u hu, KR.mono (hF (h4.at_ K i hi' hi)) (by omega) (Nat.le_refl _)⟩
end
def OwnB {α : Type} (enc : α → List Value) (sz : Nat) (e : TypeId) (w : World) (lo hi : Nat) (A : Option Addr) (n c : Nat) (xs : List α) : Prop :=
  Own enc sz e w lo (.slice A n c) xs ∧ ∀ k, (Value.slice A n c).ownBlock = some k → k < hi
section
variable {α : Type} {enc : α → List Value} {sz : Nat} {e : TypeId} {w w' : World} {lo hi n c : Nat} {A : Option Addr} {xs : List α}
theorem OwnB.keep (h : OwnB enc sz e w lo hi A n c xs) (hk : ∀ b, lo ≤ b → b < hi → w'.heap[b]? = w.heap[b]?) : OwnB enc sz e w' lo hi A n c xs :=
  ⟨h.1.keep fun b hb => hk b (h.1.lt b hb).1 (h.2 b hb), h.2⟩
theorem OwnB.mono {lo' hi' : Nat} (h : OwnB enc sz e w lo hi A n c xs) (hl : lo' ≤ lo) (hh : hi ≤ hi') : OwnB enc sz e w lo' hi' A n c xs :=
  ⟨h.1.mono hl, fun k hk => by have := h.2 k hk; omega⟩
theorem OwnB.rdn (hl : ∀ x, (enc x).length = sz) (h : OwnB enc sz e w lo hi A n c xs) : RdN sz (flatR enc) w lo hi A n c xs := by
  obtain ⟨h1, h2, h3⟩ := h.1.slAt hl
  refine Sl.rdn hl (fun hne => ?_) h1 h2 h.1.cap.2
  obtain ⟨b, off, rfl, h4, h5, h6⟩ := h3 hne
  have hk : 0 < n := by
    have : xs.length ≠ 0 := fun h => hne (List.eq_nil_of_length_eq_zero h)
    omega
  obtain ⟨g, he, _, _⟩ := h.1.addrAt hk
  injection he with he
  injection he with e1 e2
  exact ⟨b, off, rfl, h4, h.2 b (by subst e2; simp [Value.ownBlock]), h6⟩
end
/-! Votes, letters, keepers of the call's own ('tC', 'tV', 'tM': the types' numbers). -/
abbrev tC : TypeId := 41
abbrev tV : TypeId := 77
abbrev tM : TypeId := 46
abbrev OwnC (w : World) (lo hi : Nat) (A : Option Addr) (n c : Nat) (xs : List ClaimT) : Prop := OwnB encClaim 7 tC w lo hi A n c xs
def voteF : ElR VoteT := fun w lo hi cs t => ∃ A n c, cs = [.int .i64 t.1, .slice A n c] ∧ OwnC w lo hi A n c t.2
theorem voteF_kept : Kept voteF := ⟨fun ⟨A, n, c, h1, h2⟩ hk => ⟨A, n, c, h1, h2.keep hk⟩, fun ⟨A, n, c, h1, h2⟩ hl hh => ⟨A, n, c, h1, h2.mono hl hh⟩⟩
theorem voteF_R {w : World} {lo hi : Nat} {cs : List Value} {t : VoteT} : voteF w lo hi cs t → voteR w lo hi cs t := fun ⟨A, n, c, h1, h2⟩ => ⟨A, n, c, h1, h2.rdn encClaim_len⟩
abbrev FrV (w : World) (lo hi : Nat) (A : Option Addr) (n c : Nat) (ts : List VoteT) : Prop := Fr 2 tV voteF w lo hi A n c ts
theorem FrV.rd {w : World} {lo hi n c : Nat} {A : Option Addr} {ts : List VoteT} (h : FrV w lo hi A n c ts) : RdN 2 voteR w lo hi A n c ts := Fr.rdn voteF_kept vote_kept voteF_R h
def msgF : ElR MsgT := fun w lo hi cs m => ∃ mid A n c B p d, lo ≤ mid ∧ mid ≤ hi ∧ cs = [.int .i64 m.1, .int .i64 m.2.1, .int .i64 m.2.2.1, .int .i64 m.2.2.2.1, .int .i64 m.2.2.2.2.1.1, .int .i64 m.2.2.2.2.1.2.1, .int .i64 m.2.2.2.2.1.2.2.1, .int .i64 m.2.2.2.2.1.2.2.2.1, .int .i64 m.2.2.2.2.1.2.2.2.2, .slice A n c, .slice B p d] ∧
  OwnC w lo mid A n c m.2.2.2.2.2.1 ∧ FrV w mid hi B p d m.2.2.2.2.2.2
theorem msgF_kept : Kept msgF := ⟨fun ⟨mid, A, n, c, B, p, d, a1, a2, h1, h2, h3⟩ hk => ⟨mid, A, n, c, B, p, d, a1, a2, h1, h2.keep (fun b hb hb2 => hk b hb (by omega)), h3.keep voteF_kept (fun b hb hb2 => hk b (by omega) hb2)⟩,
  fun ⟨mid, A, n, c, B, p, d, a1, a2, h1, h2, h3⟩ hl hh => ⟨mid, A, n, c, B, p, d, by omega, by omega, h1, h2.mono hl (Nat.le_refl _), h3.mono voteF_kept (Nat.le_refl _) hh⟩⟩
theorem msgF_R {w : World} {lo hi : Nat} {cs : List Value} {m : MsgT} : msgF w lo hi cs m → msgR w lo hi cs m := fun ⟨mid, A, n, c, B, p, d, a1, a2, h1, h2, h3⟩ => ⟨A, n, c, B, p, d, h1, (h2.mono (Nat.le_refl _) a2).rdn encClaim_len, (FrV.rd h3).mono vote_kept a1 (Nat.le_refl _)⟩
abbrev FrM (w : World) (lo hi : Nat) (A : Option Addr) (n c : Nat) (ts : List MsgT) : Prop := Fr 11 tM msgF w lo hi A n c ts
theorem FrM.rd {w : World} {lo hi n c : Nat} {A : Option Addr} {ts : List MsgT} (h : FrM w lo hi A n c ts) : RdN 11 msgR w lo hi A n c ts := Fr.rdn msgF_kept msg_kept msgF_R h
def repF : ElR RepT := fun w lo hi cs r => ∃ m1 m2 A n c B p d E q f, lo ≤ m1 ∧ m1 ≤ m2 ∧ m2 ≤ hi ∧ cs = [.int .i64 r.1, .int .i64 r.2.1, .bool r.2.2.1, .int .i64 r.2.2.2.1, .slice A n c, .slice B p d, .slice E q f] ∧
  OwnC w lo m1 A n c r.2.2.2.2.1 ∧ FrM w m1 m2 B p d r.2.2.2.2.2.1 ∧ OwnC w m2 hi E q f r.2.2.2.2.2.2
theorem repF_kept : Kept repF := ⟨fun ⟨m1, m2, A, n, c, B, p, d, E, q, f, a1, a2, a3, h1, h2, h3, h4⟩ hk => ⟨m1, m2, A, n, c, B, p, d, E, q, f, a1, a2, a3, h1, h2.keep (fun b hb hb2 => hk b hb (by omega)), h3.keep msgF_kept (fun b hb hb2 => hk b (by omega) (by omega)), h4.keep (fun b hb hb2 => hk b (by omega) hb2)⟩,
  fun ⟨m1, m2, A, n, c, B, p, d, E, q, f, a1, a2, a3, h1, h2, h3, h4⟩ hl hh => ⟨m1, m2, A, n, c, B, p, d, E, q, f, by omega, a2, by omega, h1, h2.mono hl (Nat.le_refl _), h3, h4.mono (Nat.le_refl _) hh⟩⟩
theorem repF_R {w : World} {lo hi : Nat} {cs : List Value} {r : RepT} : repF w lo hi cs r → repR w lo hi cs r := fun ⟨m1, m2, A, n, c, B, p, d, E, q, f, a1, a2, a3, h1, h2, h3, h4⟩ => ⟨A, n, c, B, p, d, E, q, f, h1, (h2.mono (Nat.le_refl _) (by omega)).rdn encClaim_len, (FrM.rd h3).mono msg_kept a1 a3, (h4.mono (by omega) (Nat.le_refl _)).rdn encClaim_len⟩
abbrev tR : TypeId := 31
abbrev FrR (w : World) (lo hi : Nat) (A : Option Addr) (n c : Nat) (ts : List RepT) : Prop := Fr 7 tR repF w lo hi A n c ts
theorem FrR.rd {w : World} {lo hi n c : Nat} {A : Option Addr} {ts : List RepT} (h : FrR w lo hi A n c ts) : RdN 7 repR w lo hi A n c ts := Fr.rdn repF_kept rep_kept repF_R h
end Go.Proofs.YtopmbnnjhoinkaaGreat
namespace Go.Proofs.YtopmbnnjhoinkaaGreat.Rg
open Go Go.RowKit
set_option linter.unusedVariables false
set_option linter.unusedSimpArgs false
set_option maxHeartbeats 1000000
structure SinceB (K : Nat) (w0 w2 : World) : Prop where
  size : w0.heap.size ≤ w2.heap.size
  block : ∀ b, b < K → w2.heap[b]? = w0.heap[b]?
section
variable {K K' : Nat} {w0 w w' : World}
theorem SinceB.refl (K : Nat) (w : World) : SinceB K w w := ⟨Nat.le_refl _, fun _ _ => rfl⟩
theorem SinceB.drew (K : Nat) (w : World) : SinceB K w w.drew := ⟨Nat.le_refl _, fun _ _ => rfl⟩
theorem SinceB.drewR (h : SinceB K w0 w) : SinceB K w0 w.drew := ⟨h.size, h.block⟩
theorem SinceB.below (h : SinceB K w0 w) (hb : Below K' w w') (hK : K ≤ K') : SinceB K w0 w' :=
  ⟨Nat.le_trans h.size hb.size, fun b hb' => (hb.block b (Nat.lt_of_lt_of_le hb' hK)).trans (h.block b hb')⟩
theorem SinceB.only {g : Option Nat} (h : SinceB K w0 w) (hb : Only K' g w w') (hK : K ≤ K') (hg : ∀ k, g = some k → K ≤ k) : SinceB K w0 w' :=
  ⟨Nat.le_trans h.size hb.size, fun b hb' => (hb.block b (Nat.lt_of_lt_of_le hb' hK) (fun e => by have := hg b e; omega)).trans (h.block b hb')⟩
theorem SinceB.alloc (h : SinceB K w0 w) (hK : K ≤ w.heap.size) (o : Obj) : SinceB K w0 (w.alloc o) := h.below ((Below.refl w.heap.size w).alloc (Nat.le_refl _) o) hK
theorem SinceB.set (h : SinceB K w0 w) {p : Addr} (hp : K ≤ p.block) (u : Value) : SinceB K w0 (w.setCell p u) := h.below ((Below.refl K w).setCell hp u) (Nat.le_refl _)
theorem SinceB.and_ {R : Prop} (h : SinceB K w0 w) (k : SinceB K w0 w → R) : SinceB K w0 w ∧ R := ⟨h, k h⟩
end
end Go.Proofs.YtopmbnnjhoinkaaGreat.Rg
namespace Go.Proofs.YtopmbnnjhoinkaaGreat
open Go.RowKit
set_option linter.unusedVariables false
set_option linter.unusedSimpArgs false
set_option maxHeartbeats 1000000
def goodC (ts : List ClaimT) (i : Nat) : Prop := ∃ h : i < ts.length, okCl ts[i] = true ∧ ∀ h0 : 0 < i, ts[i - 1].1 < ts[i].1
def okCls (ts : List ClaimT) : Prop := ∀ i, i < ts.length → goodC ts i
instance (ts : List ClaimT) (i : Nat) : Decidable (goodC ts i) := by unfold goodC; infer_instance
instance (ts : List ClaimT) : Decidable (okCls ts) := by unfold okCls; infer_instance
def goodV (ts : List VoteT) (i : Nat) : Prop := ∃ h : i < ts.length, inB ts[i].1 0 3 = true ∧ okCls ts[i].2 ∧ ∀ h0 : 0 < i, ts[i - 1].1 < ts[i].1
def okVs (ts : List VoteT) : Prop := ∀ i, i < ts.length → goodV ts i
instance (ts : List VoteT) (i : Nat) : Decidable (goodV ts i) := by unfold goodV; infer_instance
instance (ts : List VoteT) : Decidable (okVs ts) := by unfold okVs; infer_instance
theorem allTo_succ {G : Nat → Prop} {k : Nat} (h : ∀ i, i < k → G i) (hk : G k) : ∀ i, i < k + 1 → G i := fun i hi => by
  by_cases h2 : i < k
  · exact h i h2
  · obtain rfl : i = k := by omega
    exact hk
def okMsg (m : MsgT) : Bool :=
  if m.1 = 1 then (m.2.1 == 0) && ((m.2.2.1 == 0) && ((m.2.2.2.1 == 0) && (okR m.2.2.2.2.1 && decide (m.2.2.2.2.2.1.length + m.2.2.2.2.2.2.length = 0))))
  else if !inB m.2.1 0 3 || !inB m.2.2.1 0 6 then false
  else if m.1 = 2 then inB m.2.2.2.1 1 5 && (okR m.2.2.2.2.1 && decide (m.2.2.2.2.2.1.length + m.2.2.2.2.2.2.length = 0))
  else if m.1 = 3 ∨ m.1 = 4 then inB m.2.2.2.1 1 5 && (okN m.2.2.2.2.1 && decide (m.2.2.2.2.2.1.length + m.2.2.2.2.2.2.length = 0))
  else if m.1 = 5 then (m.2.2.2.1 == 0) && (noneR m.2.2.2.2.1 && (decide (okCls m.2.2.2.2.2.1) && decide (m.2.2.2.2.2.2.length = 0)))
  else if m.1 = 6 then (m.2.2.2.1 == 0) && (noneR m.2.2.2.2.1 && (decide (m.2.2.2.2.2.1.length = 0) && decide (okVs m.2.2.2.2.2.2)))
  else false
def bareM (m : MsgT) : MsgT :=
  if m.1 = 1 then (m.1, 0, 0, 0, m.2.2.2.2.1, [], [])
  else if m.1 = 2 ∨ m.1 = 3 ∨ m.1 = 4 then (m.1, m.2.1, m.2.2.1, m.2.2.2.1, m.2.2.2.2.1, [], [])
  else if m.1 = 5 then (m.1, m.2.1, m.2.2.1, 0, (0, 0, 0, 0, 0), m.2.2.2.2.2.1, [])
  else if m.1 = 6 then (m.1, m.2.1, m.2.2.1, 0, (0, 0, 0, 0, 0), [], m.2.2.2.2.2.2)
  else (m.1, m.2.1, m.2.2.1, 0, (0, 0, 0, 0, 0), [], [])
def okMsgI (m : MsgT) : Bool :=
  inB m.1 1 6 && (decide (m = bareM m) && (inB m.2.1 0 3 && (inB m.2.2.1 0 6 &&
    (if m.1 = 1 then okR m.2.2.2.2.1 else if m.1 = 2 then inB m.2.2.2.1 1 5 && okR m.2.2.2.2.1 else if m.1 = 3 ∨ m.1 = 4 then inB m.2.2.2.1 1 5 && okN m.2.2.2.2.1 else if m.1 = 5 then decide (okCls m.2.2.2.2.2.1) else decide (okVs m.2.2.2.2.2.2)))))
theorem okMsgI_eq (m : MsgT) : okMsgI m = okMsg m := by
  obtain ⟨k, f, v, s, r, cs, vs⟩ := m
  have h00 : inB 0 0 3 = true := by decide
  have h06 : inB 0 0 6 = true := by decide
  have hin : inB k 1 6 = true ↔ k = 1 ∨ k = 2 ∨ k = 3 ∨ k = 4 ∨ k = 5 ∨ k = 6 := by
    unfold inB; rw [decide_eq_true_eq]; omega
  by_cases hk : k = 1 ∨ k = 2 ∨ k = 3 ∨ k = 4 ∨ k = 5 ∨ k = 6
  · have hin' := hin.2 hk
    rw [Bool.eq_iff_iff]
    rcases hk with rfl | rfl | rfl | rfl | rfl | rfl <;>
      simp [okMsgI, okMsg, bareM, hin', noneR, Prod.ext_iff] <;> grind
  · have hin' : inB k 1 6 = false := by
      rw [Bool.eq_false_iff]; exact fun h => hk (hin.1 h)
    have h1 : ¬ k = 1 := fun h => hk (by simp [h])
    have h2 : ¬ k = 2 := fun h => hk (by simp [h])
    have h3 : ¬ k = 3 := fun h => hk (by simp [h])
    have h4 : ¬ k = 4 := fun h => hk (by simp [h])
    have h5 : ¬ k = 5 := fun h => hk (by simp [h])
    have h6 : ¬ k = 6 := fun h => hk (by simp [h])
    simp [okMsgI, okMsg, hin', h1, h2, h3, h4, h5, h6]
/-! What is picked. -/
def clsOf (vs : List VoteT) : List ClaimT := vs.flatMap fun v => v.2
def topOf (cs : List ClaimT) : Int := cs.foldl (fun t c => if t < c.1 then c.1 else t) 0
abbrev PickS := Bool × Int × ReqV
def pickStep (seq : Int) (s : PickS) (c : ClaimT) : PickS := if c.1 = seq ∧ (s.1 = false ∨ s.2.1 < c.2.1) then (true, c.2.1, c.2.2) else s
def pickS (seq : Int) (cs : List ClaimT) : PickS := cs.foldl (pickStep seq) (false, 0, (0, 0, 0, 0, 0))
def pickOf (cs : List ClaimT) (seq : Int) : ReqV := (pickS seq cs).2.2
theorem topOf_snoc (cs : List ClaimT) (c : ClaimT) : topOf (cs ++ [c]) = if topOf cs < c.1 then c.1 else topOf cs := by rw [topOf, List.foldl_append]; rfl
theorem rev_ind {α : Type} {P : List α → Prop} (h0 : P []) (h1 : ∀ xs x, P xs → P (xs ++ [x])) (xs : List α) : P xs := by
  have key : ∀ ys : List α, P ys.reverse := by
    intro ys
    induction ys with
    | nil => exact h0
    | cons y ys ih => rw [List.reverse_cons]; exact h1 _ _ ih
  have := key xs.reverse
  rwa [List.reverse_reverse] at this
theorem topOf_nonneg (cs : List ClaimT) : 0 ≤ topOf cs := by
  refine rev_ind (P := fun cs => 0 ≤ topOf cs) (by simp [topOf]) (fun cs c ih => ?_) cs
  rw [topOf_snoc]; split <;> omega
end Go.Proofs.YtopmbnnjhoinkaaGreat
namespace Go.Proofs.YtopmbnnjhoinkaaGreat
open Go.RowKit Go.Maps
set_option linter.unusedVariables false
set_option linter.unusedSimpArgs false
set_option maxHeartbeats 1000000
def cnt4 (f : Int → Bool) : Nat := (if f 0 then 1 else 0) + (if f 1 then 1 else 0) + (if f 2 then 1 else 0) + (if f 3 then 1 else 0)
def key4 (k : Int) : Lit := .int .i64 k
structure SetD (D : DataW Unit) (f : Int → Bool) : Prop where
  tidy : Tidy D
  mem : ∀ k, 0 ≤ k → k ≤ 3 → Maps.has D (key4 k) = f k
  size : Maps.size D = cnt4 f
theorem key4_is (k : Int) : WideAt.IsKeyLit (key4 k) := trivial
theorem key4_ne {a b : Int} (h : a ≠ b) : key4 a ≠ key4 b := fun e => by injection e with _ e; exact h e
theorem SetD.put {D : DataW Unit} {f g : Int → Bool} {k : Int} (h : SetD D f) (h0 : 0 ≤ k) (h3 : k ≤ 3) (d : DataW Unit) (hg : ∀ j, 0 ≤ j → j ≤ 3 → g j = (f j || decide (j = k))) : SetD (D.put (key4 k) d) g := by
  refine ⟨h.tidy.put (key4_is k) d, fun j j0 j3 => ?_, ?_⟩
  · by_cases e : j = k
    · subst e
      rw [has_put_same h.tidy.isMap (key4_is _), hg j j0 j3]; simp
    · rw [has_put_other (key4_ne e), h.mem j j0 j3, hg j j0 j3]; simp [e]
  · rw [size_put h.tidy, h.mem k h0 h3, h.size]
    unfold cnt4
    rw [hg 0 (by omega) (by omega), hg 1 (by omega) (by omega), hg 2 (by omega) (by omega), hg 3 (by omega) (by omega)]
    obtain rfl | rfl | rfl | rfl : k = 0 ∨ k = 1 ∨ k = 2 ∨ k = 3 := by omega
    all_goals
      cases f 0 <;> cases f 1 <;> cases f 2 <;> cases f 3 <;> simp
theorem SetD.congr {D : DataW Unit} {f g : Int → Bool} (h : SetD D f) (hg : ∀ j, 0 ≤ j → j ≤ 3 → g j = f j) : SetD D g :=
  ⟨h.tidy, fun k h0 h3 => by rw [h.mem k h0 h3, hg k h0 h3], by
    rw [h.size]; unfold cnt4
    rw [hg 0 (by omega) (by omega), hg 1 (by omega) (by omega), hg 2 (by omega) (by omega), hg 3 (by omega) (by omega)]⟩
end Go.Proofs.YtopmbnnjhoinkaaGreat
namespace Go.Proofs.YtopmbnnjhoinkaaGreat
open Go Go.RowKit Go.WideShapes Go.ChangeShapes Go.Deep
set_option linter.unusedVariables false
set_option linter.unusedSimpArgs false
set_option maxHeartbeats 1000000
section
variable {H : Type} {enc : TypeId × Value → H} {P : Program} {w : World} {base : Nat} {spare : Nat → Bool} {held : Bool}
end
section
variable {H : Type} {enc : TypeId × Value → H} {w : World} {base : Nat} {spare : Nat → Bool} {held : Bool}
end
end Go.Proofs.YtopmbnnjhoinkaaGreat
