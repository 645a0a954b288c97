/-
  Nested slices that the call itself made ('Fr'): each part in blocks of its own, one behind the other.
  Conditions: none (plain words over any world).
-/
import Derived.Test.YtocifmnkohgfjaaDoorNA
namespace Go.Proofs.YtocifmnkohgfjaaDoor
open Go.RowKit Rg
set_option linter.unusedVariables false
set_option linter.unusedSimpArgs false

/-- An element's cells. -/
def Cs (sz : Nat) : Type := {l : List Value // l.length = sz ∧ ∀ u ∈ l, u.oneCell' = true}
def Cs.val {sz : Nat} (c : Cs sz) : List Value := Subtype.val c
theorem Cs.len {sz : Nat} (c : Cs sz) : c.val.length = sz := c.2.1
theorem Cs.one {sz : Nat} (c : Cs sz) : ∀ u ∈ c.val, u.oneCell' = true := c.2.2
/-- The elements' parts, in blocks from lo on, below hi: each behind the one before. -/
def FL {α : Type} {sz : Nat} (F : ElR α) (w : World) : Nat → Nat → List (Cs sz) → List α → Prop
  | lo, hi, [], [] => lo ≤ hi
  | lo, hi, c :: cs, t :: ts => ∃ m, lo ≤ m ∧ F w lo m c.val t ∧ FL F w m hi cs ts
  | _, _, [], _ :: _ => False
  | _, _, _ :: _, [] => False
section
variable {α : Type} {sz : Nat} {F R : ElR α} {w w' : World}
theorem FL.le : ∀ {lo hi : Nat} {cs : List (Cs sz)} {ts : List α}, FL F w lo hi cs ts → lo ≤ hi
  | lo, hi, [], [], h => h
  | lo, hi, c :: cs, t :: ts, ⟨m, h1, _, h2⟩ => Nat.le_trans h1 h2.le
theorem FL.len : ∀ {lo hi : Nat} {cs : List (Cs sz)} {ts : List α}, FL F w lo hi cs ts → cs.length = ts.length
  | lo, hi, [], [], h => rfl
  | lo, hi, c :: cs, t :: ts, ⟨m, h1, _, h2⟩ => by simp [h2.len]
theorem FL.keep (K : Kept F) : ∀ {lo hi : Nat} {cs : List (Cs sz)} {ts : List α}, FL F w lo hi cs ts → (∀ b, lo ≤ b → b < hi → w'.heap[b]? = w.heap[b]?) → FL F w' lo hi cs ts
  | lo, hi, [], [], h, _ => h
  | lo, hi, c :: cs, t :: ts, ⟨m, h1, h3, h2⟩, hk => ⟨m, h1, K.keep h3 (fun b hb hb2 => hk b hb (by have := h2.le; omega)), h2.keep K (fun b hb hb2 => hk b (by omega) hb2)⟩
theorem FL.snoc (K : Kept F) : ∀ {lo mid hi : Nat} {cs : List (Cs sz)} {ts : List α} {c : Cs sz} {t : α}, FL F w lo mid cs ts → mid ≤ hi → F w mid hi c.val t → FL F w lo hi (cs ++ [c]) (ts ++ [t])
  | lo, mid, hi, [], [], c, t, h, hm, h2 => ⟨hi, by have h' : lo ≤ mid := h; omega, K.mono h2 h (Nat.le_refl _), Nat.le_refl _⟩
  | lo, mid, hi, d :: cs, u :: ts, c, t, ⟨m, h1, h3, h2⟩, hm, h4 => ⟨m, h1, h3, h2.snoc K hm h4⟩
theorem FL.hi_mono : ∀ {lo hi hi' : Nat} {cs : List (Cs sz)} {ts : List α}, FL F w lo hi cs ts → hi ≤ hi' → FL F w lo hi' cs ts
  | lo, hi, hi', [], [], h, hh => Nat.le_trans h hh
  | lo, hi, hi', c :: cs, t :: ts, ⟨m, h1, h3, h2⟩, hh => ⟨m, h1, h3, h2.hi_mono hh⟩
theorem FL.at_ (K : Kept F) : ∀ {lo hi : Nat} {cs : List (Cs sz)} {ts : List α}, FL F w lo hi cs ts → ∀ (i : Nat) (hc : i < cs.length) (ht : i < ts.length), F w lo hi cs[i].val ts[i]
  | lo, hi, [], [], h, i, hc, _ => absurd hc (by simp)
  | lo, hi, c :: cs, t :: ts, ⟨m, h1, h3, h2⟩, 0, _, _ => K.mono h3 (Nat.le_refl _) h2.le
  | lo, hi, c :: cs, t :: ts, ⟨m, h1, h3, h2⟩, i + 1, hc, ht => K.mono (h2.at_ K i (by simpa using hc) (by simpa using ht)) h1 (Nat.le_refl _)
end

/-- A nested slice that the call itself made. -/
def Fr {α : Type} (sz : Nat) (e : TypeId) (F : ElR α) (w : World) (lo hi : Nat) (A : Option Addr) (n c : Nat) (ts : List α) : Prop :=
  ∃ (g : Nat) (ls : List (Cs sz)), A = some ⟨g, 0, none⟩ ∧ lo ≤ g ∧ g < hi ∧ Own Cs.val sz e w lo (.slice A n c) ls ∧ FL F w (g + 1) hi ls ts
section
variable {α : Type} {sz : Nat} {e : TypeId} {F R : ElR α} {w w' : World} {lo hi n c : Nat} {A : Option Addr} {ts : List α}
theorem Fr.keep (K : Kept F) (h : Fr sz e F w lo hi A n c ts) (hk : ∀ b, lo ≤ b → b < hi → w'.heap[b]? = w.heap[b]?) : Fr sz e F w' lo hi A n c ts := by
  obtain ⟨g, ls, rfl, h1, h2, h3, h4⟩ := h
  exact ⟨g, ls, rfl, h1, h2, h3.keep (fun b hb => by simp [Value.ownBlock] at hb; subst hb; exact hk _ h1 h2), h4.keep K (fun b hb hb2 => hk b (by omega) hb2)⟩
theorem Fr.mono (K : Kept F) {lo' hi' : Nat} (h : Fr sz e F w lo hi A n c ts) (hl : lo' ≤ lo) (hh : hi ≤ hi') : Fr sz e F w lo' hi' A n c ts := by
  obtain ⟨g, ls, rfl, h1, h2, h3, h4⟩ := h
  exact ⟨g, ls, rfl, by omega, by omega, h3.mono hl, h4.hi_mono hh⟩
theorem Fr.len (h : Fr sz e F w lo hi A n c ts) : n = ts.length := by
  obtain ⟨g, ls, rfl, h1, h2, h3, h4⟩ := h
  rw [h3.lenEq, h4.len]
theorem Fr.below (K : Kept F) {B : Nat} (h : Fr sz e F w lo hi A n c ts) (hb : Below B w w') (hB : hi ≤ B) : Fr sz e F w' lo hi A n c ts := h.keep K fun b _ h2 => hb.block b (by omega)
theorem Fr.rdn (K : Kept F) (KR : Kept R) (hF : ∀ {w lo hi cs t}, F w lo hi cs t → R w lo hi cs t) (h : Fr sz e F w lo hi A n c ts) : RdN sz R w lo hi A n c ts := by
  obtain ⟨g, ls, rfl, h1, h2, h3, h4⟩ := h
  have hl := h4.len
  obtain ⟨hn, hnc, hs⟩ := h3.slAt Cs.len
  refine ⟨by rw [hn, hl], hnc, h3.cap.2, fun hne => ?_⟩
  have hne' : ls ≠ [] := by
    intro h
    rw [h] at hl
    exact hne (List.eq_nil_of_length_eq_zero hl.symm)
  obtain ⟨b, off, he, _, _, h6⟩ := hs hne'
  injection he with he
  injection he with e1 e2
  subst e1; subst e2
  refine ⟨g, 0, rfl, h1, h2, fun i hi => ?_⟩
  have hi' : i < ls.length := by omega
  exact ⟨ls[i].val, ls[i].len, fun j u hu => h6 i ls[i] (List.getElem?_eq_getElem hi') j u hu, KR.mono (hF (h4.at_ K i hi' hi)) (by omega) (Nat.le_refl _)⟩
end

/-- A plain slice of the call's own, its block below hi. -/
def OwnB {α : Type} (enc : α → List Value) (sz : Nat) (e : TypeId) (w : World) (lo hi : Nat) (A : Option Addr) (n c : Nat) (xs : List α) : Prop :=
  Own enc sz e w lo (.slice A n c) xs ∧ ∀ k, (Value.slice A n c).ownBlock = some k → k < hi
section
variable {α : Type} {enc : α → List Value} {sz : Nat} {e : TypeId} {w w' : World} {lo hi n c : Nat} {A : Option Addr} {xs : List α}
theorem OwnB.keep (h : OwnB enc sz e w lo hi A n c xs) (hk : ∀ b, lo ≤ b → b < hi → w'.heap[b]? = w.heap[b]?) : OwnB enc sz e w' lo hi A n c xs :=
  ⟨h.1.keep fun b hb => hk b (h.1.lt b hb).1 (h.2 b hb), h.2⟩
theorem OwnB.mono {lo' hi' : Nat} (h : OwnB enc sz e w lo hi A n c xs) (hl : lo' ≤ lo) (hh : hi ≤ hi') : OwnB enc sz e w lo' hi' A n c xs :=
  ⟨h.1.mono hl, fun k hk => by have := h.2 k hk; omega⟩
theorem Own.ownB (h : Own enc sz e w lo (.slice A n c) xs) : OwnB enc sz e w lo w.heap.size A n c xs := ⟨h, fun k hk => (h.lt k hk).2⟩
theorem OwnB.rdn (hl : ∀ x, (enc x).length = sz) (h : OwnB enc sz e w lo hi A n c xs) : RdN sz (flatR enc) w lo hi A n c xs := by
  obtain ⟨h1, h2, h3⟩ := h.1.slAt hl
  refine Sl.rdn hl (fun hne => ?_) h1 h2 h.1.cap.2
  obtain ⟨b, off, rfl, h4, h5, h6⟩ := h3 hne
  have hk : 0 < n := by
    have : xs.length ≠ 0 := fun h => hne (List.eq_nil_of_length_eq_zero h)
    omega
  obtain ⟨g, he, _, _⟩ := h.1.addrAt hk
  injection he with he
  injection he with e1 e2
  exact ⟨b, off, rfl, h4, h.2 b (by subst e2; simp [Value.ownBlock]), h6⟩
end

/-! Votes, letters, keepers of the call's own ('tC', 'tV', 'tM': the types' numbers). -/
abbrev tC : TypeId := 63
abbrev tV : TypeId := 49
abbrev tM : TypeId := 34
abbrev OwnC (w : World) (lo hi : Nat) (A : Option Addr) (n c : Nat) (xs : List ClaimT) : Prop := OwnB encClaim 7 tC w lo hi A n c xs
def voteF : ElR VoteT := fun w lo hi cs t => ∃ A n c, cs = [.int .i64 t.1, .slice A n c] ∧ OwnC w lo hi A n c t.2
theorem voteF_kept : Kept voteF := ⟨fun ⟨A, n, c, h1, h2⟩ hk => ⟨A, n, c, h1, h2.keep hk⟩, fun ⟨A, n, c, h1, h2⟩ hl hh => ⟨A, n, c, h1, h2.mono hl hh⟩⟩
theorem voteF_R {w : World} {lo hi : Nat} {cs : List Value} {t : VoteT} : voteF w lo hi cs t → voteR w lo hi cs t := fun ⟨A, n, c, h1, h2⟩ => ⟨A, n, c, h1, h2.rdn encClaim_len⟩
abbrev FrV (w : World) (lo hi : Nat) (A : Option Addr) (n c : Nat) (ts : List VoteT) : Prop := Fr 2 tV voteF w lo hi A n c ts
theorem FrV.rd {w : World} {lo hi n c : Nat} {A : Option Addr} {ts : List VoteT} (h : FrV w lo hi A n c ts) : RdN 2 voteR w lo hi A n c ts := Fr.rdn voteF_kept vote_kept voteF_R h
def msgF : ElR MsgT := fun w lo hi cs m => ∃ mid A n c B p d, lo ≤ mid ∧ mid ≤ hi ∧ cs = [.int .i64 m.1, .int .i64 m.2.1, .int .i64 m.2.2.1, .int .i64 m.2.2.2.1, .int .i64 m.2.2.2.2.1.1, .int .i64 m.2.2.2.2.1.2.1, .int .i64 m.2.2.2.2.1.2.2.1, .int .i64 m.2.2.2.2.1.2.2.2.1, .int .i64 m.2.2.2.2.1.2.2.2.2, .slice A n c, .slice B p d] ∧
  OwnC w lo mid A n c m.2.2.2.2.2.1 ∧ FrV w mid hi B p d m.2.2.2.2.2.2
theorem msgF_kept : Kept msgF := ⟨fun ⟨mid, A, n, c, B, p, d, a1, a2, h1, h2, h3⟩ hk => ⟨mid, A, n, c, B, p, d, a1, a2, h1, h2.keep (fun b hb hb2 => hk b hb (by omega)), h3.keep voteF_kept (fun b hb hb2 => hk b (by omega) hb2)⟩,
  fun ⟨mid, A, n, c, B, p, d, a1, a2, h1, h2, h3⟩ hl hh => ⟨mid, A, n, c, B, p, d, by omega, by omega, h1, h2.mono hl (Nat.le_refl _), h3.mono voteF_kept (Nat.le_refl _) hh⟩⟩
theorem msgF_R {w : World} {lo hi : Nat} {cs : List Value} {m : MsgT} : msgF w lo hi cs m → msgR w lo hi cs m := fun ⟨mid, A, n, c, B, p, d, a1, a2, h1, h2, h3⟩ => ⟨A, n, c, B, p, d, h1, (h2.mono (Nat.le_refl _) a2).rdn encClaim_len, (FrV.rd h3).mono vote_kept a1 (Nat.le_refl _)⟩
abbrev FrM (w : World) (lo hi : Nat) (A : Option Addr) (n c : Nat) (ts : List MsgT) : Prop := Fr 11 tM msgF w lo hi A n c ts
theorem FrM.rd {w : World} {lo hi n c : Nat} {A : Option Addr} {ts : List MsgT} (h : FrM w lo hi A n c ts) : RdN 11 msgR w lo hi A n c ts := Fr.rdn msgF_kept msg_kept msgF_R h
def repF : ElR RepT := fun w lo hi cs r => ∃ m1 m2 A n c B p d E q f, lo ≤ m1 ∧ m1 ≤ m2 ∧ m2 ≤ hi ∧ cs = [.int .i64 r.1, .int .i64 r.2.1, .bool r.2.2.1, .int .i64 r.2.2.2.1, .slice A n c, .slice B p d, .slice E q f] ∧
  OwnC w lo m1 A n c r.2.2.2.2.1 ∧ FrM w m1 m2 B p d r.2.2.2.2.2.1 ∧ OwnC w m2 hi E q f r.2.2.2.2.2.2
theorem repF_kept : Kept repF := ⟨fun ⟨m1, m2, A, n, c, B, p, d, E, q, f, a1, a2, a3, h1, h2, h3, h4⟩ hk => ⟨m1, m2, A, n, c, B, p, d, E, q, f, a1, a2, a3, h1, h2.keep (fun b hb hb2 => hk b hb (by omega)), h3.keep msgF_kept (fun b hb hb2 => hk b (by omega) (by omega)), h4.keep (fun b hb hb2 => hk b (by omega) hb2)⟩,
  fun ⟨m1, m2, A, n, c, B, p, d, E, q, f, a1, a2, a3, h1, h2, h3, h4⟩ hl hh => ⟨m1, m2, A, n, c, B, p, d, E, q, f, by omega, a2, by omega, h1, h2.mono hl (Nat.le_refl _), h3, h4.mono (Nat.le_refl _) hh⟩⟩
theorem repF_R {w : World} {lo hi : Nat} {cs : List Value} {r : RepT} : repF w lo hi cs r → repR w lo hi cs r := fun ⟨m1, m2, A, n, c, B, p, d, E, q, f, a1, a2, a3, h1, h2, h3, h4⟩ => ⟨A, n, c, B, p, d, E, q, f, h1, (h2.mono (Nat.le_refl _) (by omega)).rdn encClaim_len, (FrM.rd h3).mono msg_kept a1 a3, (h4.mono (by omega) (Nat.le_refl _)).rdn encClaim_len⟩
end Go.Proofs.YtocifmnkohgfjaaDoor
