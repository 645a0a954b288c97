/-
  Nested data: slices whose elements hold slices, read as lists ('RdN'); what keeps that.
  Conditions: none (plain words over any world).
-/
import Derived.Test.YtajmfonepnkofaaDoorGA
import Derived.Test.YtajmfonepnkofaaDoorOpen
import Derived.WalkSpells
import Derived.WalkLawsBesides
namespace Go.Proofs.YtajmfonepnkofaaDoor
open Go.RowKit Rg
set_option linter.unusedVariables false
set_option linter.unusedSimpArgs false

/-- What an element's cells hold (all they point to lies in blocks from lo on, below hi). -/
abbrev ElR (α : Type) := World → Nat → Nat → List Value → α → Prop
structure Kept {α : Type} (R : ElR α) : Prop where
  keep : ∀ {w w' : World} {lo hi : Nat} {cs : List Value} {t : α}, R w lo hi cs t → (∀ b, lo ≤ b → b < hi → w'.heap[b]? = w.heap[b]?) → R w' lo hi cs t
  mono : ∀ {w : World} {lo hi lo' hi' : Nat} {cs : List Value} {t : α}, R w lo hi cs t → lo' ≤ lo → hi ≤ hi' → R w lo' hi' cs t

/-- A slice that reads as a list. -/
structure RdN {α : Type} (sz : Nat) (R : ElR α) (w : World) (lo hi : Nat) (A : Option Addr) (n c : Nat) (ts : List α) : Prop where
  len : n = ts.length
  cap : n ≤ c
  max : c ≤ maxLen
  row : ts ≠ [] → ∃ b off, A = some ⟨b, off, none⟩ ∧ lo ≤ b ∧ b < hi ∧ ∀ (i : Nat) (h : i < ts.length), ∃ cs : List Value, cs.length = sz ∧ (∀ (j : Nat) (u : Value), cs[j]? = some u → w.cell? ⟨b, off + i * sz + j, none⟩ = some u) ∧ R w lo hi cs ts[i]

section
variable {α : Type} {sz : Nat} {R : ElR α} {w w' : World} {lo hi : Nat} {A : Option Addr} {n c : Nat} {ts : List α}

theorem RdN.keep (K : Kept R) (h : RdN sz R w lo hi A n c ts) (hk : ∀ b, lo ≤ b → b < hi → w'.heap[b]? = w.heap[b]?) : RdN sz R w' lo hi A n c ts :=
  ⟨h.len, h.cap, h.max, fun hne => by
    obtain ⟨b, off, e, h1, h2, h3⟩ := h.row hne
    refine ⟨b, off, e, h1, h2, fun i hi => ?_⟩
    obtain ⟨cs, h4, h5, h6⟩ := h3 i hi
    exact ⟨cs, h4, fun j u hu => (World.cell?_of_block (hk b h1 h2)).trans (h5 j u hu), K.keep h6 hk⟩⟩
theorem RdN.below (K : Kept R) {B : Nat} (h : RdN sz R w lo hi A n c ts) (hb : Below B w w') (hB : hi ≤ B) : RdN sz R w' lo hi A n c ts :=
  h.keep K fun b _ h2 => hb.block b (by omega)
theorem RdN.mono (K : Kept R) {lo' hi' : Nat} (h : RdN sz R w lo hi A n c ts) (hl : lo' ≤ lo) (hh : hi ≤ hi') : RdN sz R w lo' hi' A n c ts :=
  ⟨h.len, h.cap, h.max, fun hne => by
    obtain ⟨b, off, e, h1, h2, h3⟩ := h.row hne
    refine ⟨b, off, e, by omega, by omega, fun i hi => ?_⟩
    obtain ⟨cs, h4, h5, h6⟩ := h3 i hi
    exact ⟨cs, h4, h5, K.mono h6 hl hh⟩⟩
theorem RdN.nil_ (sz : Nat) (R : ElR α) (w : World) (lo hi : Nat) (A : Option Addr) (c : Nat) (hc : c ≤ maxLen) : RdN sz R w lo hi A 0 c [] := ⟨rfl, Nat.zero_le _, hc, fun h => absurd rfl h⟩
theorem RdN.addr (h : RdN sz R w lo hi A n c ts) {k : Nat} (hk : k < ts.length) : ∃ b off, A = some ⟨b, off, none⟩ ∧ lo ≤ b ∧ b < hi := by
  obtain ⟨b, off, e, h1, h2, _⟩ := h.row (by rintro rfl; simp at hk)
  exact ⟨b, off, e, h1, h2⟩
theorem RdN.at_ {b off : Nat} (h : RdN sz R w lo hi (some ⟨b, off, none⟩) n c ts) {k : Nat} (hk : k < ts.length) : ∃ cs : List Value, cs.length = sz ∧ (∀ (j : Nat) (u : Value), cs[j]? = some u → w.cell? ⟨b, off + k * sz + j, none⟩ = some u) ∧ R w lo hi cs ts[k] := by
  obtain ⟨b', off', e, h1, h2, h3⟩ := h.row (by rintro rfl; simp at hk)
  injection e with e
  injection e with e1 e2
  subst e1; subst e2
  exact h3 k hk
theorem RdN.lt {b off : Nat} (h : RdN sz R w lo hi (some ⟨b, off, none⟩) n c ts) {k : Nat} (hk : k < ts.length) : lo ≤ b ∧ b < hi := by
  obtain ⟨b', off', e, h1, h2⟩ := h.addr hk
  injection e with e
  injection e with e1 e2
  subst e1; subst e2
  exact ⟨h1, h2⟩
/-- 's[:k]' -/
theorem RdN.take_ (h : RdN sz R w lo hi A n c ts) (k : Nat) (hk : k ≤ n) : RdN sz R w lo hi A k c (ts.take k) :=
  ⟨by have := h.len; simp; omega, Nat.le_trans hk h.cap, h.max, fun hne => by
    obtain ⟨b, off, e, h1, h2, h3⟩ := h.row (by rintro rfl; simp at hne)
    refine ⟨b, off, e, h1, h2, fun i hi => ?_⟩
    have hi' : i < ts.length := by simp at hi; omega
    obtain ⟨cs, h4, h5, h6⟩ := h3 i hi'
    exact ⟨cs, h4, h5, by rw [List.getElem_take]; exact h6⟩⟩
/-- 's[k:]' -/
theorem RdN.drop_ {b off : Nat} (h : RdN sz R w lo hi (some ⟨b, off, none⟩) n c ts) (k : Nat) (hk : k ≤ n) : RdN sz R w lo hi (some ⟨b, off + k * sz, none⟩) (n - k) (c - k) (ts.drop k) :=
  ⟨by have := h.len; simp; omega, by have := h.cap; omega, by have := h.max; omega, fun hne => by
    obtain ⟨b', off', e, h1, h2, h3⟩ := h.row (by rintro rfl; simp at hne)
    injection e with e
    injection e with e1 e2
    subst e1; subst e2
    refine ⟨b, _, rfl, h1, h2, fun i hi => ?_⟩
    have hi' : k + i < ts.length := by simp at hi; omega
    obtain ⟨cs, h4, h5, h6⟩ := h3 (k + i) hi'
    refine ⟨cs, h4, fun j u hu => ?_, by rw [List.getElem_drop]; exact h6⟩
    have := h5 j u hu
    rw [Nat.add_mul, ← Nat.add_assoc] at this
    exact this⟩
end

/-- Elements of plain cells. -/
def flatR {α : Type} (enc : α → List Value) : ElR α := fun _ _ _ cs t => cs = enc t
theorem flat_kept {α : Type} (enc : α → List Value) : Kept (flatR enc) := ⟨fun h _ => h, fun h _ _ => h⟩
section
variable {α : Type} {enc : α → List Value} {sz : Nat} {w : World} {lo hi : Nat} {A : Option Addr} {n c : Nat} {xs : List α}
theorem Sl.rdn (hl : ∀ x, (enc x).length = sz) (hs : Sl enc sz w lo hi A xs) (hn : n = xs.length) (hc : n ≤ c) (hm : c ≤ maxLen) : RdN sz (flatR enc) w lo hi A n c xs :=
  ⟨hn, hc, hm, fun hne => by
    obtain ⟨b, off, e, h1, h2, h3⟩ := hs hne
    exact ⟨b, off, e, h1, h2, fun i hi => ⟨enc xs[i], hl _, fun j u hu => h3 i xs[i] (List.getElem?_eq_getElem hi) j u hu, rfl⟩⟩⟩
theorem RdN.sl (h : RdN sz (flatR enc) w lo hi A n c xs) : Sl enc sz w lo hi A xs := fun hne => by
  obtain ⟨b, off, e, h1, h2, h3⟩ := h.row hne
  refine ⟨b, off, e, h1, h2, fun i x hx j u hu => ?_⟩
  have hi : i < xs.length := (List.getElem?_eq_some_iff.1 hx).1
  obtain ⟨cs, h4, h5, h6⟩ := h3 i hi
  have : xs[i] = x := by rw [List.getElem?_eq_getElem hi] at hx; injection hx
  rw [this] at h6
  have h7 : cs = enc x := h6
  rw [← h7] at hu
  exact h5 j u hu
theorem Own.rdn {e : TypeId} (hl : ∀ x, (enc x).length = sz) (h : Own enc sz e w lo (.slice A n c) xs) : RdN sz (flatR enc) w lo w.heap.size A n c xs := by
  obtain ⟨h1, h2, h3⟩ := h.slAt hl
  exact h3.rdn hl h1 h2 h.cap.2
end

/-! Asks, claims, votes, letters, keepers, worlds. -/
abbrev ClaimT := Int × Int × ReqV
def encClaim (t : ClaimT) : List Value := [.int .i64 t.1, .int .i64 t.2.1, .int .i64 t.2.2.1, .int .i64 t.2.2.2.1, .int .i64 t.2.2.2.2.1, .int .i64 t.2.2.2.2.2.1, .int .i64 t.2.2.2.2.2.2]
theorem encClaim_len (t : ClaimT) : (encClaim t).length = 7 := rfl
theorem encClaim_one (t : ClaimT) : ∀ u ∈ encClaim t, u.oneCell' = true := by
  intro u hu; simp [encClaim] at hu; rcases hu with rfl | rfl | rfl | rfl | rfl | rfl | rfl <;> rfl
abbrev clR : ElR ClaimT := flatR encClaim
abbrev VoteT := Int × List ClaimT
def voteR : ElR VoteT := fun w lo hi cs t => ∃ A n c, cs = [.int .i64 t.1, .slice A n c] ∧ RdN 7 clR w lo hi A n c t.2
theorem vote_kept : Kept voteR := ⟨fun ⟨A, n, c, h1, h2⟩ hk => ⟨A, n, c, h1, h2.keep (flat_kept _) hk⟩, fun ⟨A, n, c, h1, h2⟩ hl hh => ⟨A, n, c, h1, h2.mono (flat_kept _) hl hh⟩⟩
abbrev MsgT := Int × Int × Int × Int × ReqV × List ClaimT × List VoteT
def msgR : ElR MsgT := fun w lo hi cs m => ∃ A n c B p d, cs = [.int .i64 m.1, .int .i64 m.2.1, .int .i64 m.2.2.1, .int .i64 m.2.2.2.1, .int .i64 m.2.2.2.2.1.1, .int .i64 m.2.2.2.2.1.2.1, .int .i64 m.2.2.2.2.1.2.2.1, .int .i64 m.2.2.2.2.1.2.2.2.1, .int .i64 m.2.2.2.2.1.2.2.2.2, .slice A n c, .slice B p d] ∧
  RdN 7 clR w lo hi A n c m.2.2.2.2.2.1 ∧ RdN 2 voteR w lo hi B p d m.2.2.2.2.2.2
theorem msg_kept : Kept msgR := ⟨fun ⟨A, n, c, B, p, d, h1, h2, h3⟩ hk => ⟨A, n, c, B, p, d, h1, h2.keep (flat_kept _) hk, h3.keep vote_kept hk⟩, fun ⟨A, n, c, B, p, d, h1, h2, h3⟩ hl hh => ⟨A, n, c, B, p, d, h1, h2.mono (flat_kept _) hl hh, h3.mono vote_kept hl hh⟩⟩
abbrev RepT := Int × Int × Bool × Int × List ClaimT × List MsgT × List ClaimT
def repR : ElR RepT := fun w lo hi cs r => ∃ A n c B p d E q f, cs = [.int .i64 r.1, .int .i64 r.2.1, .bool r.2.2.1, .int .i64 r.2.2.2.1, .slice A n c, .slice B p d, .slice E q f] ∧
  RdN 7 clR w lo hi A n c r.2.2.2.2.1 ∧ RdN 11 msgR w lo hi B p d r.2.2.2.2.2.1 ∧ RdN 7 clR w lo hi E q f r.2.2.2.2.2.2
theorem rep_kept : Kept repR := ⟨fun ⟨A, n, c, B, p, d, E, q, f, h1, h2, h3, h4⟩ hk => ⟨A, n, c, B, p, d, E, q, f, h1, h2.keep (flat_kept _) hk, h3.keep msg_kept hk, h4.keep (flat_kept _) hk⟩,
  fun ⟨A, n, c, B, p, d, E, q, f, h1, h2, h3, h4⟩ hl hh => ⟨A, n, c, B, p, d, E, q, f, h1, h2.mono (flat_kept _) hl hh, h3.mono msg_kept hl hh, h4.mono (flat_kept _) hl hh⟩⟩

abbrev WorldT := Int × List RepT × List MsgT
def worldR : ElR WorldT := fun w lo hi cs t => ∃ A n c B p d, cs = [.int .i64 t.1, .slice A n c, .slice B p d] ∧ RdN 7 repR w lo hi A n c t.2.1 ∧ RdN 11 msgR w lo hi B p d t.2.2
instance : DecidableEq ReqV := fun a b => inferInstance
instance : DecidableEq ClaimT := fun a b => inferInstance
instance : DecidableEq VoteT := fun a b => inferInstance
instance : DecidableEq MsgT := fun a b => @instDecidableEqProd _ _ _ (@instDecidableEqProd _ _ _ (@instDecidableEqProd _ _ _ (@instDecidableEqProd _ _ _ (@instDecidableEqProd _ _ _ (@instDecidableEqProd _ _ _ _))))) a b
instance : DecidableEq RepT := fun a b => @instDecidableEqProd _ _ _ (@instDecidableEqProd _ _ _ (@instDecidableEqProd _ _ _ (@instDecidableEqProd _ _ _ (@instDecidableEqProd _ _ _ (@instDecidableEqProd _ _ _ _))))) a b

section
variable {w : World} {lo hi b off n c k : Nat}
theorem RdN.claim {ts : List ClaimT} (h : RdN 7 clR w lo hi (some ⟨b, off, none⟩) n c ts) (hk : k < ts.length) :
    w.cell? ⟨b, off + k * 7, none⟩ = some (.int .i64 ts[k].1) ∧ w.cell? ⟨b, off + k * 7 + 1, none⟩ = some (.int .i64 ts[k].2.1) ∧ w.cell? ⟨b, off + k * 7 + 2, none⟩ = some (.int .i64 ts[k].2.2.1) ∧ w.cell? ⟨b, off + k * 7 + 3, none⟩ = some (.int .i64 ts[k].2.2.2.1) ∧ w.cell? ⟨b, off + k * 7 + 4, none⟩ = some (.int .i64 ts[k].2.2.2.2.1) ∧ w.cell? ⟨b, off + k * 7 + 5, none⟩ = some (.int .i64 ts[k].2.2.2.2.2.1) ∧ w.cell? ⟨b, off + k * 7 + 6, none⟩ = some (.int .i64 ts[k].2.2.2.2.2.2) := by
  obtain ⟨cs, _, h5, h6⟩ := h.at_ hk
  have h7 : cs = encClaim ts[k] := h6
  subst h7
  exact ⟨h5 0 _ rfl, h5 1 _ rfl, h5 2 _ rfl, h5 3 _ rfl, h5 4 _ rfl, h5 5 _ rfl, h5 6 _ rfl⟩
theorem RdN.vote {ts : List VoteT} (h : RdN 2 voteR w lo hi (some ⟨b, off, none⟩) n c ts) (hk : k < ts.length) :
    ∃ A n' c', w.cell? ⟨b, off + k * 2, none⟩ = some (.int .i64 ts[k].1) ∧ w.cell? ⟨b, off + k * 2 + 1, none⟩ = some (.slice A n' c') ∧ RdN 7 clR w lo hi A n' c' ts[k].2 := by
  obtain ⟨cs, _, h5, A, n', c', rfl, h6⟩ := h.at_ hk
  exact ⟨A, n', c', h5 0 _ rfl, h5 1 _ rfl, h6⟩
theorem RdN.msg {ts : List MsgT} (h : RdN 11 msgR w lo hi (some ⟨b, off, none⟩) n c ts) (hk : k < ts.length) :
    ∃ A n' c' B p d, w.cell? ⟨b, off + k * 11, none⟩ = some (.int .i64 ts[k].1) ∧ w.cell? ⟨b, off + k * 11 + 1, none⟩ = some (.int .i64 ts[k].2.1) ∧ w.cell? ⟨b, off + k * 11 + 2, none⟩ = some (.int .i64 ts[k].2.2.1) ∧ w.cell? ⟨b, off + k * 11 + 3, none⟩ = some (.int .i64 ts[k].2.2.2.1) ∧
      w.cell? ⟨b, off + k * 11 + 4, none⟩ = some (.int .i64 ts[k].2.2.2.2.1.1) ∧ w.cell? ⟨b, off + k * 11 + 5, none⟩ = some (.int .i64 ts[k].2.2.2.2.1.2.1) ∧ w.cell? ⟨b, off + k * 11 + 6, none⟩ = some (.int .i64 ts[k].2.2.2.2.1.2.2.1) ∧ w.cell? ⟨b, off + k * 11 + 7, none⟩ = some (.int .i64 ts[k].2.2.2.2.1.2.2.2.1) ∧ w.cell? ⟨b, off + k * 11 + 8, none⟩ = some (.int .i64 ts[k].2.2.2.2.1.2.2.2.2) ∧
      w.cell? ⟨b, off + k * 11 + 9, none⟩ = some (.slice A n' c') ∧ w.cell? ⟨b, off + k * 11 + 10, none⟩ = some (.slice B p d) ∧ RdN 7 clR w lo hi A n' c' ts[k].2.2.2.2.2.1 ∧ RdN 2 voteR w lo hi B p d ts[k].2.2.2.2.2.2 := by
  obtain ⟨cs, _, h5, A, n', c', B, p, d, rfl, h6, h7⟩ := h.at_ hk
  exact ⟨A, n', c', B, p, d, h5 0 _ rfl, h5 1 _ rfl, h5 2 _ rfl, h5 3 _ rfl, h5 4 _ rfl, h5 5 _ rfl, h5 6 _ rfl, h5 7 _ rfl, h5 8 _ rfl, h5 9 _ rfl, h5 10 _ rfl, h6, h7⟩
theorem RdN.rep {ts : List RepT} (h : RdN 7 repR w lo hi (some ⟨b, off, none⟩) n c ts) (hk : k < ts.length) :
    ∃ A n' c' B p d E q f, w.cell? ⟨b, off + k * 7, none⟩ = some (.int .i64 ts[k].1) ∧ w.cell? ⟨b, off + k * 7 + 1, none⟩ = some (.int .i64 ts[k].2.1) ∧ w.cell? ⟨b, off + k * 7 + 2, none⟩ = some (.bool ts[k].2.2.1) ∧ w.cell? ⟨b, off + k * 7 + 3, none⟩ = some (.int .i64 ts[k].2.2.2.1) ∧
      w.cell? ⟨b, off + k * 7 + 4, none⟩ = some (.slice A n' c') ∧ w.cell? ⟨b, off + k * 7 + 5, none⟩ = some (.slice B p d) ∧ w.cell? ⟨b, off + k * 7 + 6, none⟩ = some (.slice E q f) ∧ RdN 7 clR w lo hi A n' c' ts[k].2.2.2.2.1 ∧ RdN 11 msgR w lo hi B p d ts[k].2.2.2.2.2.1 ∧ RdN 7 clR w lo hi E q f ts[k].2.2.2.2.2.2 := by
  obtain ⟨cs, _, h5, A, n', c', B, p, d, E, q, f, rfl, h6, h7, h8⟩ := h.at_ hk
  exact ⟨A, n', c', B, p, d, E, q, f, h5 0 _ rfl, h5 1 _ rfl, h5 2 _ rfl, h5 3 _ rfl, h5 4 _ rfl, h5 5 _ rfl, h5 6 _ rfl, h6, h7, h8⟩
end

/-! How many elements there are in all. -/
def szVote (t : VoteT) : Nat := t.2.length
def szVotes (ts : List VoteT) : Nat := ts.length + (ts.map szVote).sum
def szMsg (m : MsgT) : Nat := m.2.2.2.2.2.1.length + szVotes m.2.2.2.2.2.2
def szMsgs (ts : List MsgT) : Nat := ts.length + (ts.map szMsg).sum
def szRep (r : RepT) : Nat := r.2.2.2.2.1.length + szMsgs r.2.2.2.2.2.1 + r.2.2.2.2.2.2.length
def szReps (ts : List RepT) : Nat := ts.length + (ts.map szRep).sum
def szWorld (t : WorldT) : Nat := szReps t.2.1 + szMsgs t.2.2
theorem sum_at {α : Type} (f : α → Nat) : ∀ (ts : List α) (k : Nat) (hk : k < ts.length), f ts[k] ≤ (ts.map f).sum
  | t :: ts, 0, _ => by simp only [List.getElem_cons_zero, List.map_cons, List.sum_cons]; omega
  | t :: ts, k + 1, hk => by
    have := sum_at f ts k (by simpa using hk)
    simp only [List.getElem_cons_succ, List.map_cons, List.sum_cons]
    omega
theorem sum_take_succ {α : Type} (f : α → Nat) (ts : List α) (k : Nat) (hk : k < ts.length) : ((ts.take (k + 1)).map f).sum = ((ts.take k).map f).sum + f ts[k] := by
  rw [List.take_succ_eq_append_getElem hk, List.map_append, List.sum_append]
  simp only [List.map_cons, List.map_nil, List.sum_cons, List.sum_nil]
  omega
theorem sum_take_le {α : Type} (f : α → Nat) (ts : List α) (k : Nat) : ((ts.take k).map f).sum ≤ (ts.map f).sum := by
  have : ts.map f = (ts.take k).map f ++ (ts.drop k).map f := by rw [← List.map_append, List.take_append_drop]
  rw [this, List.sum_append]
  omega
/-- What a size check returns. -/
def szO (left total : Nat) : Int := if left < total then -1 else (left : Int) - total
end Go.Proofs.YtajmfonepnkofaaDoor
