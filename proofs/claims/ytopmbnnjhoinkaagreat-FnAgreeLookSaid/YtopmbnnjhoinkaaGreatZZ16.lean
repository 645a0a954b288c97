/-
  What 'LAc' rests on (texts of this seat put together: TA TB TC TJ TM).
  Conditions: none.
-/
import Derived.Test.YtopmbnnjhoinkaaGreatZZ15
import Derived.Test.YtopmbnnjhoinkaaGreatZZ2
import Derived.WalkKit
namespace Go.Proofs.YtopmbnnjhoinkaaGreat
open Go Go.RowKit Rg
set_option linter.unusedVariables false
set_option linter.unusedSimpArgs false
set_option maxHeartbeats 1000000
abbrev tW : TypeId := 26
abbrev tE : TypeId := 87
abbrev tQ : TypeId := 39
abbrev Cx := Nat → Option (TypeId × Nat)
inductive CT where
  | any
  | le (m : Int)
  | rng (lo hi : Int)
  | bool
  | sl (e : TypeId) (mx : Nat)
def F0 (e : TypeId) : List CT :=
  if e = 41 then [.le 100, .any, .any, .any, .any, .any, .any]
  else if e = 77 then [.any, .sl 41 100]
  else if e = 46 then [.any, .any, .any, .le 100, .any, .any, .any, .any, .any, .sl 41 100, .sl 77 100]
  else if e = 26 then [.any, .sl 31 4, .sl 46 200]
  else if e = 87 then [.any, .any, .any, .any, .any, .any, .le 100, .any, .any, .any, .any, .any, .sl 41 100, .sl 77 100]
  else if e = 39 then [.any, .any, .any, .any, .any]
  else []
def F (T D : Nat) (e : TypeId) : List CT := if e = 31 then [.rng 0 3, .any, .bool, .any, .sl 41 T, .sl 46 120, .sl 41 D] else F0 e
def isz (e : TypeId) : Nat := (F 0 0 e).length
theorem F_len (T D : Nat) (e : TypeId) : (F T D e).length = isz e := by
  unfold isz F
  split <;> rfl
def SlV (c : Cx) (e : TypeId) (v : Value) : Prop :=
  v = .slice none 0 0 ∨ ∃ g k n d N, v = .slice (some ⟨g, k * isz e, none⟩) n d ∧ n ≤ d ∧ d ≤ maxLen ∧ c g = some (e, N) ∧ k * isz e + d * isz e ≤ N
def slen : Value → Nat
  | .slice _ n _ => n
  | _ => 0
def CT.ok (c : Cx) : CT → Value → Prop
  | .any, v => ∃ x, v = .int .i64 x
  | .le m, v => ∃ x, v = .int .i64 x ∧ x ≤ m
  | .rng lo hi, v => ∃ x, v = .int .i64 x ∧ lo ≤ x ∧ x ≤ hi
  | .bool, v => ∃ b, v = .bool b
  | .sl e mx, v => SlV c e v ∧ slen v ≤ mx
def Tys (c : Cx) : List CT → List Value → Prop
  | [], [] => True
  | t :: ts, v :: vs => t.ok c v ∧ Tys c ts vs
  | [], _ :: _ => False
  | _ :: _, [] => False
def TyE (T D : Nat) (c : Cx) (e : TypeId) (vs : List Value) : Prop := Tys c (F T D e) vs
def Cx.le (c c' : Cx) : Prop := ∀ b x, c b = some x → c' b = some x
theorem Cx.le.refl (c : Cx) : Cx.le c c := fun _ _ h => h
theorem Cx.le.trans {a b c : Cx} (h : Cx.le a b) (k : Cx.le b c) : Cx.le a c := fun i x hx => k i x (h i x hx)
structure Ext (N : Nat) (c c' : Cx) : Prop where
  le : Cx.le c c'
  old : ∀ b, b < N → c' b = c b
theorem Ext.refl (N : Nat) (c : Cx) : Ext N c c := ⟨Cx.le.refl c, fun _ _ => rfl⟩
theorem Ext.trans {N N' : Nat} {a b c : Cx} (h : Ext N a b) (k : Ext N' b c) (hN : N ≤ N') : Ext N a c := ⟨h.le.trans k.le, fun i hi => (k.old i (by omega)).trans (h.old i hi)⟩
section
variable {c c' : Cx} {T D T' D' : Nat} {e : TypeId} {v : Value} {vs : List Value} {ts : List CT}
theorem SlV.mono (h : SlV c e v) (hc : Cx.le c c') : SlV c' e v := by
  rcases h with h | ⟨g, k, n, d, N, h1, h2, h3, h4, h5⟩
  · exact .inl h
  · exact .inr ⟨g, k, n, d, N, h1, h2, h3, hc _ _ h4, h5⟩
theorem SlV.nil_ (c : Cx) (e : TypeId) : SlV c e (.slice none 0 0) := .inl rfl
theorem SlV.form (h : SlV c e v) : ∃ A n d, v = .slice A n d ∧ n ≤ d ∧ d ≤ maxLen := by
  rcases h with h | ⟨g, k, n, d, N, h1, h2, h3, _⟩
  · exact ⟨none, 0, 0, h, Nat.le_refl _, by simp [maxLen]⟩
  · exact ⟨_, n, d, h1, h2, h3⟩
theorem SlV.cap {A : Option Addr} {n d : Nat} (h : SlV c e (.slice A n d)) : n ≤ d ∧ d ≤ maxLen := by
  obtain ⟨A', n', d', h1, h2, h3⟩ := h.form
  injection h1 with h4 h5 h6
  subst h5; subst h6
  exact ⟨h2, h3⟩
theorem SlV.addr {A : Option Addr} {n d i : Nat} (h : SlV c e (.slice A n d)) (hi : i < n) : ∃ g off, A = some ⟨g, off, none⟩ := by
  rcases h with h | ⟨g, k, n', d', N, h1, _⟩
  · injection h with h1 h2 h3; omega
  · injection h1 with h1; exact ⟨_, _, h1⟩
theorem CT.ok.mono {t : CT} (h : t.ok c v) (hc : Cx.le c c') : t.ok c' v := by
  cases t
  case sl e mx => exact ⟨h.1.mono hc, h.2⟩
  all_goals exact h
theorem CT.ok.one {t : CT} (h : t.ok c v) : v.oneCell' = true := by
  cases t
  case sl e mx =>
    obtain ⟨A, n, d, rfl, _⟩ := h.1.form
    rfl
  case any => obtain ⟨x, rfl⟩ := h; rfl
  case le => obtain ⟨x, rfl, _⟩ := h; rfl
  case rng => obtain ⟨x, rfl, _⟩ := h; rfl
  case bool => obtain ⟨x, rfl⟩ := h; rfl
theorem Tys.len : ∀ {ts : List CT} {vs : List Value}, Tys c ts vs → vs.length = ts.length
  | [], [], _ => rfl
  | t :: ts, v :: vs, h => by simp [Tys.len h.2]
  | [], _ :: _, h => h.elim
  | _ :: _, [], h => h.elim
theorem Tys.get : ∀ {ts : List CT} {vs : List Value}, Tys c ts vs → ∀ (j : Nat) (u : Value), vs[j]? = some u → ∃ t, ts[j]? = some t ∧ t.ok c u
  | [], [], _, j, u, hu => by simp at hu
  | t :: ts, v :: vs, h, 0, u, hu => by simp at hu; subst hu; exact ⟨t, rfl, h.1⟩
  | t :: ts, v :: vs, h, j + 1, u, hu => by
    obtain ⟨t', h1, h2⟩ := Tys.get h.2 j u (by simpa using hu)
    exact ⟨t', by simpa using h1, h2⟩
  | [], _ :: _, h, _, _, _ => h.elim
  | _ :: _, [], h, _, _, _ => h.elim
theorem Tys.of_get : ∀ {ts : List CT} {vs : List Value}, vs.length = ts.length → (∀ (j : Nat) (u : Value), vs[j]? = some u → ∃ t, ts[j]? = some t ∧ t.ok c u) → Tys c ts vs
  | [], [], _, _ => trivial
  | t :: ts, v :: vs, hl, h => by
    obtain ⟨t', h1, h2⟩ := h 0 v rfl
    simp at h1
    subst h1
    exact ⟨h2, Tys.of_get (by simpa using hl) fun j u hu => by
      obtain ⟨t', h1, h2⟩ := h (j + 1) u (by simpa using hu)
      exact ⟨t', by simpa using h1, h2⟩⟩
  | [], _ :: _, hl, _ => by simp at hl
  | _ :: _, [], hl, _ => by simp at hl
theorem F_up (hT : T ≤ T') (hD : D ≤ D') (hc : Cx.le c c') {j : Nat} {t : CT} (h : (F T D e)[j]? = some t) (ho : t.ok c v) : ∃ t', (F T' D' e)[j]? = some t' ∧ t'.ok c' v := by
  unfold F at h ⊢
  split at h
  · rename_i he
    rw [if_pos he]
    match j, h with
    | 0, h => injection h with h; subst h; exact ⟨_, rfl, ho.mono hc⟩
    | 1, h => injection h with h; subst h; exact ⟨_, rfl, ho.mono hc⟩
    | 2, h => injection h with h; subst h; exact ⟨_, rfl, ho.mono hc⟩
    | 3, h => injection h with h; subst h; exact ⟨_, rfl, ho.mono hc⟩
    | 4, h => injection h with h; subst h; exact ⟨_, rfl, ho.1.mono hc, Nat.le_trans ho.2 hT⟩
    | 5, h => injection h with h; subst h; exact ⟨_, rfl, ho.mono hc⟩
    | 6, h => injection h with h; subst h; exact ⟨_, rfl, ho.1.mono hc, Nat.le_trans ho.2 hD⟩
    | j + 7, h => simp at h
  · rename_i he
    rw [if_neg he]
    exact ⟨t, h, ho.mono hc⟩
theorem TyE.len (h : TyE T D c e vs) : vs.length = isz e := (Tys.len h).trans (F_len T D e)
theorem TyE.up (h : TyE T D c e vs) (hT : T ≤ T') (hD : D ≤ D') (hc : Cx.le c c') : TyE T' D' c' e vs :=
  Tys.of_get (by rw [F_len, h.len]) fun j u hu => by
    obtain ⟨t, h1, h2⟩ := Tys.get h j u hu
    exact F_up hT hD hc h1 h2
theorem TyE.mono (h : TyE T D c e vs) (hc : Cx.le c c') : TyE T D c' e vs := h.up (Nat.le_refl _) (Nat.le_refl _) hc
theorem TyE.one (h : TyE T D c e vs) : ∀ u ∈ vs, u.oneCell' = true := by
  intro u hu
  obtain ⟨j, hj, rfl⟩ := List.mem_iff_getElem.1 hu
  obtain ⟨t, _, h2⟩ := Tys.get h j vs[j] (List.getElem?_eq_getElem hj)
  exact h2.one
theorem TyE.set {j : Nat} {u : Value} {t : CT} (h : TyE T D c e vs) (ht : (F T D e)[j]? = some t) (hu : t.ok c u) : TyE T D c e (vs.set j u) :=
  Tys.of_get (by rw [List.length_set, h.len, F_len]) fun i x hx => by
    by_cases hij : j = i
    · subst hij
      rw [List.getElem?_set_self (by rw [h.len, ← F_len T D e]; exact (List.getElem?_eq_some_iff.1 ht).1)] at hx
      injection hx with hx
      subst hx
      exact ⟨t, ht, hu⟩
    · rw [List.getElem?_set_ne hij] at hx
      exact Tys.get h i x hx
end
def TW (T D : Nat) (c : Cx) (w : World) : Prop :=
  ∀ b e N, c b = some (e, N) → ∃ cs : Array Value, w.heap[b]? = some (.cells cs e (0, 0)) ∧ cs.size = N ∧ ∀ (j : Nat) (u : Value), cs[j]? = some u → ∃ t, (F T D e)[j % isz e]? = some t ∧ t.ok c u
section
variable {c c' : Cx} {T D T' D' : Nat} {e : TypeId} {v : Value} {vs : List Value} {ts : List CT} {w w' : World}
theorem TW.up (h : TW T D c w) (hT : T ≤ T') (hD : D ≤ D') : TW T' D' c w := fun b e N hb => by
  obtain ⟨cs, h1, h2, h3⟩ := h b e N hb
  refine ⟨cs, h1, h2, fun j u hu => ?_⟩
  obtain ⟨t, h4, h5⟩ := h3 j u hu
  exact F_up hT hD (Cx.le.refl c) h4 h5
theorem TW.lt (h : TW T D c w) {b : Nat} {x : TypeId × Nat} (hb : c b = some x) : b < w.heap.size := by
  obtain ⟨cs, h1, _⟩ := h b x.1 x.2 hb
  exact lt_of_heap h1
theorem TW.none_ (h : TW T D c w) {b : Nat} (hb : w.heap.size ≤ b) : c b = none := by
  cases hc : c b with
  | none => rfl
  | some x => have := h.lt hc; omega
theorem TW.keep (h : TW T D c w) (hk : ∀ b x, c b = some x → w'.heap[b]? = w.heap[b]?) : TW T D c w' := fun b e N hb => by
  obtain ⟨cs, h1, h2, h3⟩ := h b e N hb
  exact ⟨cs, (hk b _ hb).trans h1, h2, h3⟩
theorem TW.only {g : Option Nat} (h : TW T D c w) (ho : Only w.heap.size g w w') (hg : ∀ k, g = some k → c k = none) : TW T D c w' :=
  h.keep fun b x hb => ho.block b (h.lt hb) (fun e => by rw [hg b e] at hb; cases hb)
theorem TW.below (h : TW T D c w) (ho : Below w.heap.size w w') : TW T D c w' := h.keep fun b x hb => ho.block b (h.lt hb)
theorem TW.alloc (h : TW T D c w) (o : Obj) : TW T D c (w.alloc o) := h.below ((Below.refl _ _).alloc (Nat.le_refl _) o)
theorem TW.drew (h : TW T D c w) : TW T D c w.drew := h
theorem TW.setCell (h : TW T D c w) {p : Addr} (hp : c p.block = none) (u : Value) : TW T D c (w.setCell p u) :=
  h.keep fun b x hb => Below.heap_setCell w p u b (by rintro rfl; rw [hp] at hb; cases hb)
def Cx.put (c : Cx) (b : Nat) (x : TypeId × Nat) : Cx := fun i => if i = b then some x else c i
theorem Cx.put_same (c : Cx) (b : Nat) (x : TypeId × Nat) : c.put b x b = some x := if_pos rfl
theorem Cx.put_other (c : Cx) {b i : Nat} (x : TypeId × Nat) (h : i ≠ b) : c.put b x i = c i := if_neg h
theorem Ext.put {c : Cx} {b N : Nat} (x : TypeId × Nat) (hb : c b = none) (hN : N ≤ b) : Ext N c (c.put b x) :=
  ⟨fun i y hi => by
    by_cases h : i = b
    · subst h; rw [hb] at hi; cases hi
    · rw [Cx.put_other c x h]; exact hi,
   fun i hi => Cx.put_other c x (by omega)⟩
theorem TW.row (h : TW T D c w) {cs : Array Value} (hcs : ∀ (j : Nat) (u : Value), cs[j]? = some u → ∃ t, (F T D e)[j % isz e]? = some t ∧ t.ok c u) :
    TW T D (c.put w.heap.size (e, cs.size)) (w.alloc (.cells cs e)) := fun b e' N hb => by
  have hx : Cx.le c (c.put w.heap.size (e, cs.size)) := (Ext.put (N := 0) _ (h.none_ (Nat.le_refl _)) (Nat.zero_le _)).le
  by_cases hbs : b = w.heap.size
  · subst hbs
    rw [Cx.put_same] at hb
    injection hb with hb
    injection hb with h1 h2
    subst h1; subst h2
    refine ⟨cs, heap_alloc_new w _, rfl, fun j u hu => ?_⟩
    obtain ⟨t, h1, h2⟩ := hcs j u hu
    exact ⟨t, h1, h2.mono hx⟩
  · rw [Cx.put_other c _ hbs] at hb
    obtain ⟨cs', h1, h2, h3⟩ := h.alloc (.cells cs e) b e' N hb
    refine ⟨cs', h1, h2, fun j u hu => ?_⟩
    obtain ⟨t, h1, h2⟩ := h3 j u hu
    exact ⟨t, h1, h2.mono hx⟩
theorem TW.turn (h : TW T D c w) {b N : Nat} (hb : c b = some (e, N)) {cs : Array Value} (hsz : cs.size = N) (hcs : ∀ (j : Nat) (u : Value), cs[j]? = some u → ∃ t, (F T D e)[j % isz e]? = some t ∧ t.ok c u)
    (hn : w'.heap[b]? = some (.cells cs e (0, 0))) (hk : ∀ i, i ≠ b → i < w.heap.size → w'.heap[i]? = w.heap[i]?) : TW T D c w' := fun i e' N' hi => by
  by_cases hib : i = b
  · subst hib
    rw [hb] at hi
    injection hi with hi
    injection hi with h1 h2
    subst h1; subst h2
    exact ⟨cs, hn, hsz, hcs⟩
  · obtain ⟨cs', h1, h2, h3⟩ := h i e' N' hi
    exact ⟨cs', (hk i hib (h.lt hi)).trans h1, h2, h3⟩
end
theorem mod_row {sz : Nat} (k j : Nat) (hj : j < sz) : (k * sz + j) % sz = j := by
  rw [Nat.add_comm, Nat.add_mul_mod_self_right, Nat.mod_eq_of_lt hj]
section
variable {c : Cx} {T D : Nat} {e : TypeId} {w : World}
theorem TW.cells (hT : TW T D c w) {g off n d : Nat} (hv : SlV c e (.slice (some ⟨g, off, none⟩) n d)) : ∃ us : List Value, us.length = n * isz e ∧ (∀ (j : Nat) (u : Value), us[j]? = some u → w.cell? ⟨g, off + j, none⟩ = some u) ∧
    ∀ (j : Nat) (u : Value), us[j]? = some u → ∃ t, (F T D e)[j % isz e]? = some t ∧ t.ok c u := by
  rcases hv with h | ⟨g', k, n', d', N, h1, h2, h3, h4, h5⟩
  · cases h
  · injection h1 with h1 h6 h7
    injection h1 with h1
    injection h1 with h1 h8
    subst h1; subst h6; subst h7; subst h8
    obtain ⟨cs, h6, h7, h8⟩ := hT g e N h4
    have hle : k * isz e + n * isz e ≤ cs.size := by
      have := Nat.mul_le_mul_right (isz e) h2
      omega
    have hget : ∀ (j : Nat) (u : Value), ((cs.toList.drop (k * isz e)).take (n * isz e))[j]? = some u → cs[k * isz e + j]? = some u := by
      intro j u hu
      rw [List.getElem?_take] at hu
      split at hu
      · rw [List.getElem?_drop] at hu
        simpa using hu
      · cases hu
    refine ⟨(cs.toList.drop (k * isz e)).take (n * isz e), ?_, fun j u hu => ?_, fun j u hu => ?_⟩
    · rw [List.length_take, List.length_drop, Array.length_toList]; omega
    · simp only [World.cell?, h6]
      exact hget j u hu
    · obtain ⟨t, h9, h10⟩ := h8 _ u (hget j u hu)
      rw [Nat.add_comm, Nat.add_mul_mod_self_right] at h9
      exact ⟨t, h9, h10⟩
theorem TW.elem (hT : TW T D c w) {g off n d i : Nat} (hv : SlV c e (.slice (some ⟨g, off, none⟩) n d)) (hi : i < n) : ∃ us : List Value, (∀ (j : Nat) (u : Value), us[j]? = some u → w.cell? ⟨g, off + i * isz e + j, none⟩ = some u) ∧ TyE T D c e us := by
  obtain ⟨us, h1, h2, h3⟩ := hT.cells hv
  have hle : i * isz e + isz e ≤ n * isz e := by
    have := Nat.mul_le_mul_right (isz e) (show i + 1 ≤ n by omega)
    rw [Nat.add_mul] at this; omega
  have hget : ∀ (j : Nat) (u : Value), ((us.drop (i * isz e)).take (isz e))[j]? = some u → us[i * isz e + j]? = some u ∧ j < isz e := by
    intro j u hu
    rw [List.getElem?_take] at hu
    split at hu
    · rename_i hj
      rw [List.getElem?_drop] at hu
      exact ⟨hu, hj⟩
    · cases hu
  refine ⟨(us.drop (i * isz e)).take (isz e), fun j u hu => ?_, Tys.of_get ?_ fun j u hu => ?_⟩
  · have := h2 _ u (hget j u hu).1
    rw [← Nat.add_assoc] at this
    exact this
  · rw [List.length_take, List.length_drop, F_len]; omega
  · obtain ⟨h4, h5⟩ := hget j u hu
    obtain ⟨t, h6, h7⟩ := h3 _ u h4
    rw [mod_row _ _ h5] at h6
    exact ⟨t, h6, h7⟩
end
structure Bs where
  c0 : Cx
  w0 : World
  G : Option Nat
abbrev LE := Nat × TypeId × List Value
abbrev VE := TypeId × (List Value → Prop) × Value
structure St (k : Bs) (P T D : Nat) (c : Cx) (L : List LE) (V : List VE) (w : World) : Prop where
  ext : Ext k.w0.heap.size k.c0 c
  tw : TW T D c w
  on : Only k.w0.heap.size k.G k.w0 w
  rd : ∀ g, k.G = some g → Rd w g P ∧ g < k.w0.heap.size ∧ c g = none
  bx : ∀ x ∈ L, w.heap[x.1]? = some (.cells x.2.2.toArray x.2.1 (0, 0)) ∧ k.w0.heap.size ≤ x.1 ∧ c x.1 = none ∧ TyE T D c x.2.1 x.2.2
  nd : L.Pairwise (fun x y => x.1 ≠ y.1)
  vs : ∀ x ∈ V, SlV c x.1 x.2.2 ∧ ∃ ls : List (Cs (isz x.1)), Own Cs.val (isz x.1) x.1 w k.w0.heap.size x.2.2 ls ∧ ∀ y ∈ ls, x.2.1 y.val
  vd : V.Pairwise (fun x y => ∀ j, x.2.2.ownBlock = some j → y.2.2.ownBlock ≠ some j)
theorem Only.szB {B : Nat} {g : Option Nat} {w w' : World} (h : Only B g w w') : w.heap.size ≤ w'.heap.size := h.size
section
variable {k : Bs} {P T D P' T' D' : Nat} {c c' : Cx} {L : List LE} {V : List VE} {w w' : World}
theorem St.start {c : Cx} {w : World} {G : Option Nat} (hT : TW T D c w) (hr : ∀ g, G = some g → Rd w g P ∧ c g = none) : St ⟨c, w, G⟩ P T D c [] [] w :=
  ⟨Ext.refl _ _, hT, Only.refl _ _ _, fun g hg => ⟨(hr g hg).1, (hr g hg).1.lt, (hr g hg).2⟩, fun x hx => (by cases hx), List.Pairwise.nil, fun x hx => (by cases hx), List.Pairwise.nil⟩
theorem St.base (h : St k P T D c L V w) : k.w0.heap.size ≤ w.heap.size := h.on.size
theorem St.neG (h : St k P T D c L V w) {b : Nat} (hb : k.w0.heap.size ≤ b) : k.G ≠ some b := fun e => by have := (h.rd b e).2.1; omega
theorem St.move (h : St k P T D c L V w) (hx : Ext w.heap.size c c') (hT : TW T' D' c' w') (hTT : T ≤ T') (hDD : D ≤ D') (ho : Only w.heap.size k.G w w') (hr : ∀ g, k.G = some g → Rd w' g P') : St k P' T' D' c' L V w' := by
  have hb := h.base
  refine ⟨h.ext.trans hx hb, hT, h.on.trans (ho.mono hb), fun g hg => ?_, fun x hx' => ?_, h.nd, fun x hx' => ?_, h.vd⟩
  · obtain ⟨h1, h2, h3⟩ := h.rd g hg
    exact ⟨hr g hg, h2, by rw [hx.old g (by omega)]; exact h3⟩
  · obtain ⟨h1, h2, h3, h4⟩ := h.bx x hx'
    have hl := lt_of_heap h1
    exact ⟨(ho.block x.1 hl (h.neG h2)).trans h1, h2, by rw [hx.old x.1 hl]; exact h3, h4.up hTT hDD hx.le⟩
  · obtain ⟨h1, ls, h2, h3⟩ := h.vs x hx'
    exact ⟨h1.mono hx.le, ls, h2.only ho (Nat.le_refl _) (fun j hj => h.neG (h2.lt j hj).1), h3⟩
theorem St.raise (h : St k P T D c L V w) (hTT : T ≤ T') (hDD : D ≤ D') : St k P T' D' c L V w := h.move (Ext.refl _ _) (h.tw.up hTT hDD) hTT hDD (Only.refl _ _ _) (fun g hg => (h.rd g hg).1)
theorem St.below (h : St k P T D c L V w) (hx : Ext w.heap.size c c') (hT : TW T' D' c' w') (hTT : T ≤ T') (hDD : D ≤ D') (ho : Below w.heap.size w w') : St k P T' D' c' L V w' :=
  h.move hx hT hTT hDD (Only.of_below ho) (fun g hg => (h.rd g hg).1.keep ho)
theorem St.past (h : St k P T D c L V w) (ho : Below w.heap.size w w') : St k P T D c L V w' := h.below (Ext.refl _ _) (h.tw.below ho) (Nat.le_refl _) (Nat.le_refl _) ho
theorem St.alloc (h : St k P T D c L V w) (o : Obj) : St k P T D c L V (w.alloc o) := h.past ((Below.refl _ _).alloc (Nat.le_refl _) o)
theorem St.drew (h : St k P T D c L V w) : St k P T D c L V w.drew := h.past (Below.refl _ _).drew
theorem St.pastR {g : Nat} (h : St k P T D c L V w) (hg : k.G = some g) (ho : Only w.heap.size (some g) w w') (hr : Rd w' g P') : St k P' T D c L V w' :=
  h.move (Ext.refl _ _) (h.tw.only ho (fun j hj => by injection hj with hj; subst hj; exact (h.rd g hg).2.2)) (Nat.le_refl _) (Nat.le_refl _) (by rw [hg]; exact ho) (fun j hj => by rw [hg] at hj; injection hj with hj; subst hj; exact hr)
theorem St.tailL {x : LE} (h : St k P T D c (x :: L) V w) : St k P T D c L V w :=
  ⟨h.ext, h.tw, h.on, h.rd, fun y hy => h.bx y (List.mem_cons_of_mem _ hy), (List.pairwise_cons.1 h.nd).2, h.vs, h.vd⟩
theorem St.tailV {x : VE} (h : St k P T D c L (x :: V) w) : St k P T D c L V w :=
  ⟨h.ext, h.tw, h.on, h.rd, h.bx, h.nd, fun y hy => h.vs y (List.mem_cons_of_mem _ hy), (List.pairwise_cons.1 h.vd).2⟩
theorem St.tailV1 {x y : VE} (h : St k P T D c L (x :: y :: V) w) : St k P T D c L (x :: V) w :=
  ⟨h.ext, h.tw, h.on, h.rd, h.bx, h.nd, fun z hz => h.vs z (by rcases List.mem_cons.1 hz with rfl | h2; exact List.mem_cons_self; exact List.mem_cons_of_mem _ (List.mem_cons_of_mem _ h2)),
    by
      have h1 := List.pairwise_cons.1 h.vd
      have h2 := List.pairwise_cons.1 h1.2
      exact List.pairwise_cons.2 ⟨fun z hz => h1.1 z (List.mem_cons_of_mem _ hz), h2.2⟩⟩
theorem St.box {e : TypeId} {vs : List Value} (h : St k P T D c L V w) (hv : TyE T D c e vs) : St k P T D c ((w.heap.size, e, vs) :: L) V (w.alloc (.cells vs.toArray e)) := by
  have h1 := h.alloc (.cells vs.toArray e)
  refine ⟨h1.ext, h1.tw, h1.on, h1.rd, fun x hx => ?_, List.pairwise_cons.2 ⟨fun y hy => ?_, h1.nd⟩, h1.vs, h1.vd⟩
  · rcases List.mem_cons.1 hx with rfl | hx
    · exact ⟨heap_alloc_new w _, h.base, h.tw.none_ (Nat.le_refl _), hv⟩
    · exact h1.bx x hx
  · have := lt_of_heap (h.bx y hy).1
    show w.heap.size ≠ y.1
    omega
theorem pw_set {α : Type} {R : α → α → Prop} {l : List α} (hl : l.Pairwise R) {i : Nat} {x y : α} (hi : l[i]? = some x) (h1 : ∀ z, R x z → R y z) (h2 : ∀ z, R z x → R z y) : (l.set i y).Pairwise R := by
  induction l generalizing i with
  | nil => simp
  | cons a l ih =>
    obtain ⟨h3, h4⟩ := List.pairwise_cons.1 hl
    cases i with
    | zero =>
      simp at hi
      subst hi
      exact List.pairwise_cons.2 ⟨fun z hz => h1 z (h3 z hz), h4⟩
    | succ i =>
      simp at hi
      refine List.pairwise_cons.2 ⟨fun z hz => ?_, ih h4 hi⟩
      rcases List.mem_or_eq_of_mem_set hz with hz | rfl
      · exact h3 z hz
      · exact h2 a (h3 x (List.mem_of_getElem? hi))
theorem mem_set_iff {α : Type} {l : List α} {i : Nat} {y z : α} (h : z ∈ l.set i y) : z = y ∨ ∃ j, j ≠ i ∧ l[j]? = some z := by
  obtain ⟨j, hj, rfl⟩ := List.mem_iff_getElem.1 h
  by_cases hij : i = j
  · subst hij; left; simp
  · right
    refine ⟨j, fun e => hij e.symm, ?_⟩
    rw [List.getElem_set_ne hij]
    exact List.getElem?_eq_getElem _
theorem St.put {i b : Nat} {e : TypeId} {vs us : List Value} (h : St k P T D c L V w) (hi : L[i]? = some (b, e, vs)) (hv : TyE T D c e us) (ho : Only w.heap.size (some b) w w') (hn : w'.heap[b]? = some (.cells us.toArray e (0, 0))) : St k P T D c (L.set i (b, e, us)) V w' := by
  have hb := h.base
  obtain ⟨b1, b2, b3, b4⟩ := h.bx _ (List.mem_of_getElem? hi)
  have hlt := lt_of_heap b1
  have hne : ∀ j, c j ≠ none → (some b : Option Nat) ≠ some j := fun j hj e => by injection e with e; subst e; exact hj b3
  refine ⟨h.ext, h.tw.keep (fun j x hj => ho.block j (h.tw.lt hj) (hne j (by rw [hj]; simp))), h.on.trans ⟨ho.os, ho.tape, ho.output, ho.size, fun j hj hg => ho.block j (by omega) (fun e => by injection e with e; subst e; have : k.w0.heap.size ≤ b := b2; omega)⟩, fun g hg => ?_, fun x hx => ?_, ?_, fun x hx => ?_, h.vd⟩
  · obtain ⟨h1, h2, h3⟩ := h.rd g hg
    exact ⟨h1.only ho (fun j hj => by injection hj with hj; subst hj; have : k.w0.heap.size ≤ b := b2; omega), h2, h3⟩
  · rcases mem_set_iff hx with rfl | ⟨j, hj, hjx⟩
    · exact ⟨hn, b2, b3, hv⟩
    · obtain ⟨h1, h2, h3, h4⟩ := h.bx x (List.mem_of_getElem? hjx)
      refine ⟨(ho.block x.1 (lt_of_heap h1) (fun e => ?_)).trans h1, h2, h3, h4⟩
      injection e with e
      have hpw := List.pairwise_iff_getElem.1 h.nd
      obtain ⟨hil, hi'⟩ := List.getElem?_eq_some_iff.1 hi
      obtain ⟨hjl, hj'⟩ := List.getElem?_eq_some_iff.1 hjx
      rcases Nat.lt_or_gt_of_ne hj with hlt' | hlt'
      · exact hpw j i hjl hil hlt' (by rw [hj', hi']; exact e.symm)
      · exact hpw i j hil hjl hlt' (by rw [hj', hi']; exact e)
  · exact pw_set h.nd hi (fun z hz => hz) (fun z hz => hz)
  · obtain ⟨h1, ls, h2, h3⟩ := h.vs x hx
    refine ⟨h1, ls, h2.keep (fun j hj => ho.block j (h2.lt j hj).2 (fun e => ?_)), h3⟩
    injection e with e
    subst e
    rcases h1 with h1 | ⟨g, q, n, d, N, h1, _, _, h5, _⟩
    · rw [h1] at hj; simp [Value.ownBlock] at hj
    · rw [h1] at hj; simp [Value.ownBlock] at hj; subst hj; rw [b3] at h5; cases h5
theorem St.set {i b j : Nat} {e : TypeId} {vs : List Value} {u : Value} {t : CT} (h : St k P T D c L V w) (hi : L[i]? = some (b, e, vs)) (ht : (F T D e)[j]? = some t) (hu : t.ok c u) : St k P T D c (L.set i (b, e, vs.set j u)) V (w.setCell ⟨b, j, none⟩ u) := by
  obtain ⟨b1, b2, b3, b4⟩ := h.bx _ (List.mem_of_getElem? hi)
  have b1 : w.heap[b]? = some (.cells vs.toArray e (0, 0)) := b1
  refine h.put hi (b4.set ht hu) (Only.put (g := b) [u] (Only.refl _ _ _)) ?_
  simp [World.setCell, Array.getElem?_modify, b1]
theorem St.setAll {i b : Nat} {e : TypeId} {vs us : List Value} (h : St k P T D c L V w) (hi : L[i]? = some (b, e, vs)) (hv : TyE T D c e us) : St k P T D c (L.set i (b, e, us)) V (putCells w b 0 us) := by
  obtain ⟨b1, b2, b3, b4⟩ := h.bx _ (List.mem_of_getElem? hi)
  have hl : us.length = vs.length := by rw [hv.len, b4.len]
  refine h.put hi hv (Only.put us (Only.refl _ _ _)) ?_
  obtain ⟨cur', h1, h2, h3⟩ := heap_putCells us w b 0 _ _ b1 (by simp [hl])
  have : cur' = us.toArray := by
    apply Array.toList_inj.1
    rw [h3]
    simp [hl]
  rw [← this]
  exact h1
theorem St.addV {e : TypeId} {Pr : List Value → Prop} {v : Value} {lo : Nat} {ls : List (Cs (isz e))} (h : St k P T D c L V w) (hv : SlV c e v) (ho : Own Cs.val (isz e) e w lo v ls) (hP : ∀ y ∈ ls, Pr y.val) (hlo : k.w0.heap.size ≤ lo) (hn : ∀ x ∈ V, ∀ j, x.2.2.ownBlock = some j → j < lo) : St k P T D c L ((e, Pr, v) :: V) w := by
  refine ⟨h.ext, h.tw, h.on, h.rd, h.bx, h.nd, fun x hx => ?_, List.pairwise_cons.2 ⟨fun y hy j hj hj2 => ?_, h.vd⟩⟩
  · rcases List.mem_cons.1 hx with rfl | hx
    · exact ⟨hv, ls, ho.mono hlo, hP⟩
    · exact h.vs x hx
  · have h1 := hn y hy j hj2
    have h2 := (ho.lt j hj).1
    omega
theorem St.ownLt (h : St k P T D c L V w) : ∀ x ∈ V, ∀ j, x.2.2.ownBlock = some j → j < w.heap.size := fun x hx j hj => by
  obtain ⟨_, ls, h2, _⟩ := h.vs x hx
  exact (h2.lt j hj).2
theorem St.row {e : TypeId} {Pr : List Value → Prop} {n : Nat} {us : List Value} (h : St k P T D c L V w) (hn : n ≤ 1) (hu : n = 0 → us = []) (hv : n = 1 → TyE T D c e us ∧ Pr us) :
    St k P T D (c.put w.heap.size (e, us.length)) L ((e, Pr, .slice (some ⟨w.heap.size, 0, none⟩) n n) :: V) (w.alloc (.cells us.toArray e)) := by
  have hc : ∀ (j : Nat) (u : Value), us.toArray[j]? = some u → ∃ t, (F T D e)[j % isz e]? = some t ∧ t.ok c u := by
    intro j u hj
    rcases (show n = 0 ∨ n = 1 by omega) with h0 | h1
    · rw [hu h0] at hj; simp at hj
    · obtain ⟨h2, _⟩ := hv h1
      have hj' : us[j]? = some u := by simpa using hj
      have hlt : j < isz e := by rw [← h2.len]; exact (List.getElem?_eq_some_iff.1 hj').1
      rw [Nat.mod_eq_of_lt hlt]
      exact Tys.get h2 j u hj'
  have hT := h.tw.row hc
  simp only [List.size_toArray] at hT
  have hN : c w.heap.size = none := h.tw.none_ (Nat.le_refl _)
  have h1 := h.below (Ext.put (e, us.length) hN (Nat.le_refl _)) hT (Nat.le_refl _) (Nat.le_refl _) ((Below.refl _ _).alloc (Nat.le_refl _) (.cells us.toArray e))
  have hlen : n * isz e = us.length := by
    rcases (show n = 0 ∨ n = 1 by omega) with h0 | h1
    · rw [hu h0, h0]; simp
    · rw [(hv h1).1.len, h1]; simp
  obtain ⟨ls, hls1, hls2, hls3⟩ : ∃ ls : List (Cs (isz e)), ls.length = n ∧ ls.flatMap Cs.val = us ∧ ∀ y ∈ ls, Pr y.val := by
    rcases (show n = 0 ∨ n = 1 by omega) with h0 | h1
    · exact ⟨[], h0.symm, by rw [hu h0]; rfl, fun y hy => by cases hy⟩
    · obtain ⟨h2, h3⟩ := hv h1
      obtain ⟨y, hy⟩ : ∃ y : Cs (isz e), y.val = us := ⟨⟨us, h2.len, h2.one⟩, rfl⟩
      refine ⟨[y], h1.symm, by simp [hy], fun z hz => ?_⟩
      rw [List.mem_singleton] at hz
      subst hz
      rw [hy]
      exact h3
  have hS : SlV (c.put w.heap.size (e, us.length)) e (.slice (some ⟨w.heap.size, 0, none⟩) n n) := .inr ⟨w.heap.size, 0, n, n, us.length, by simp, Nat.le_refl _, by unfold maxLen; omega, Cx.put_same _ _ _, by omega⟩
  have hO : Own Cs.val (isz e) e (w.alloc (.cells us.toArray e)) w.heap.size (.slice (some ⟨w.heap.size, 0, none⟩) n n) ls := by
    have := Own.of_row (enc := (Cs.val : Cs (isz e) → List Value)) (sz := isz e) (e := e) (w := w.alloc (.cells us.toArray e)) (lo := w.heap.size) (xs := ls) (g := w.heap.size) (c := n) (cur := us.toArray) (Nat.le_refl _) (heap_alloc_new w _) (by omega) (by unfold maxLen; omega) (by simp [hlen]) (by
      rw [hls1, hlen, hls2]
      simp)
    rwa [hls1] at this
  exact h1.addV hS hO hls3 h.base h.ownLt
end
theorem zeroCells_get {z : Array Value} {n j : Nat} {u : Value} (hz : 0 < z.size) (h : (Builtin.zeroCells z n)[j]? = some u) : z[j % z.size]? = some u := by
  unfold Builtin.zeroCells at h
  rw [Array.getElem?_map] at h
  obtain ⟨i, hi, hu⟩ := Option.map_eq_some_iff.1 h
  have hi' : i = j := by
    rw [Array.getElem?_range] at hi
    split at hi <;> simp_all
  subst hi'
  have hlt : i % z.size < z.size := Nat.mod_lt _ hz
  rw [← hu, getElem!_pos z (i % z.size) hlt]
  exact Array.getElem?_eq_getElem hlt
def InfoOf (P : Program) (e : TypeId) (z : Value) (bytes : Nat) : Prop := (P.info? e).map (fun i => (i.zero, i.size, i.bytes)) = some (some z, isz e, bytes)
def ZeroOk (e : TypeId) (z : Value) : Prop := ∀ T D c, TyE T D c e z.cells.toList
section
variable {Pg : Program} {k : Bs} {P T D : Nat} {c : Cx} {L : List LE} {V : List VE} {w w' : World}
theorem St.app {t ty e : TypeId} {z : Value} {bytes : Nat} (ht : Pg.underlying t = some (.slice e)) (hi : InfoOf Pg e z bytes) (hz : ZeroOk e z) (hpos : 0 < isz e)
    (h : St k P T D c L V w) {i : Nat} {Pr : List Value → Prop} {A : Option Addr} {n d : Nat} (hV : V[i]? = some (e, Pr, .slice A n d)) {B : Option Addr} {m q : Nat} (hx : SlV c e (.slice B m q))
    (hxs : ∃ ms : List (Cs (isz e)), ms.length = m ∧ Sl Cs.val (isz e) w 0 w.heap.size B ms ∧ ∀ y ∈ ms, Pr y.val) (hbound : (n + m) * bytes ≤ 140737488355328 ∧ n + m ≤ maxLen) :
    ∃ c' A' d' w', (Builtin.append_ #[t, t] ty #[.slice A n d, .slice B m q]).run Pg w = .ok (.slice A' (n + m) d') w' ∧ St k P T D c' L (V.set i (e, Pr, .slice A' (n + m) d')) w' ∧ Ext w.heap.size c c' := by
  obtain ⟨ms, hml, hms, hmP⟩ := hxs
  obtain ⟨inf, hi1, hi2, hi3, hi4⟩ := info_parts hi
  have hzs : z.cells.size = isz e := by have := (hz T D c).len; simpa using this
  have hmem : (e, Pr, Value.slice A n d) ∈ V := List.mem_of_getElem? hV
  obtain ⟨hv, ls, hown, hlP⟩ := h.vs _ hmem
  have hown : Own Cs.val (isz e) e w k.w0.heap.size (.slice A n d) ls := hown
  have hv : SlV c e (.slice A n d) := hv
  have hll := hown.lenEq
  have fin : ∀ (c' : Cx) (A' : Option Addr) (d' : Nat) (w' : World), (Builtin.append_ #[t, t] ty #[.slice A n d, .slice B m q]).run Pg w = .ok (.slice A' (n + m) d') w' → Ext w.heap.size c c' → TW T D c' w' → SlV c' e (.slice A' (n + m) d') →
      Own Cs.val (isz e) e w' k.w0.heap.size (.slice A' (n + m) d') (ls ++ ms) → w.grownBy w' (Value.slice A n d).ownBlock → ((Value.slice A' (n + m) d').ownBlock = (Value.slice A n d).ownBlock ∨ (Value.slice A' (n + m) d').ownBlock = some w.heap.size) →
      ∃ c' A' d' w', (Builtin.append_ #[t, t] ty #[.slice A n d, .slice B m q]).run Pg w = .ok (.slice A' (n + m) d') w' ∧ St k P T D c' L (V.set i (e, Pr, .slice A' (n + m) d')) w' ∧ Ext w.heap.size c c' := by
    intro c' A' d' w' hrun hE hT' hS' hO' hg hloc
    refine ⟨c', A', d', w', hrun, ⟨h.ext.trans hE h.base, hT', ?_, fun g hg' => ?_, fun x hx' => ?_, h.nd, fun x hx' => ?_, ?_⟩, hE⟩
    · exact h.on.trans (Only.of_below ((Below.refl _ w).grown hg h.base fun j hj => (hown.lt j hj).1))
    · obtain ⟨h1, h2, h3⟩ := h.rd g hg'
      have hB : Below k.w0.heap.size w w' := (Below.refl _ w).grown hg h.base fun j hj => (hown.lt j hj).1
      exact ⟨h1.below hB h2, h2, by rw [hE.old g (by have := h.base; omega)]; exact h3⟩
    · obtain ⟨h1, h2, h3, h4⟩ := h.bx x hx'
      have hl := lt_of_heap h1
      refine ⟨(hg.block x.1 hl (fun e1 => ?_)).trans h1, h2, by rw [hE.old x.1 hl]; exact h3, h4.mono hE.le⟩
      rcases hv with hv | ⟨g, q', n', d'', N, hv, _, _, h5, _⟩
      · injection hv with e2 e3 e4
        rw [e2] at e1
        simp [Value.ownBlock] at e1
      · injection hv with e2 e3 e4
        rw [e2] at e1
        simp [Value.ownBlock] at e1
        rw [← e1, h3] at h5
        cases h5
    · rcases mem_set_iff hx' with rfl | ⟨j, hj, hjx⟩
      · exact ⟨hS', ls ++ ms, hO', fun y hy => (List.mem_append.1 hy).elim (hlP y) (hmP y)⟩
      · obtain ⟨h1, ls', h2, h3⟩ := h.vs x (List.mem_of_getElem? hjx)
        refine ⟨h1.mono hE.le, ls', h2.keep (fun b hb => hg.block b (h2.lt b hb).2 (fun e1 => ?_)), h3⟩
        have hpw := List.pairwise_iff_getElem.1 h.vd
        obtain ⟨hil, hi'⟩ := List.getElem?_eq_some_iff.1 hV
        obtain ⟨hjl, hj'⟩ := List.getElem?_eq_some_iff.1 hjx
        rcases Nat.lt_or_gt_of_ne hj with hlt' | hlt'
        · exact hpw j i hjl hil hlt' b (by rw [hj']; exact hb) (by rw [hi']; exact e1.symm)
        · exact hpw i j hil hjl hlt' b (by rw [hi']; exact e1.symm) (by rw [hj']; exact hb)
    · have hsym : ∀ (z1 : VE), z1 ∈ V → ∀ j, (Value.slice A' (n + m) d').ownBlock = some j → ((Value.slice A n d).ownBlock = some j → z1.2.2.ownBlock ≠ some j) → z1.2.2.ownBlock ≠ some j := by
        intro z1 hz1 j hj hor
        rcases hloc with h1 | h1
        · exact hor (h1 ▸ hj)
        · rw [hj] at h1
          injection h1 with h1
          intro h2
          have := h.ownLt z1 hz1 j h2
          omega
      clear hms hmP
      have hvd := h.vd
      have hall : ∀ z1 ∈ V, ∀ j, (Value.slice A' (n + m) d').ownBlock = some j → ((Value.slice A n d).ownBlock = some j → z1.2.2.ownBlock ≠ some j) → z1.2.2.ownBlock ≠ some j := hsym
      clear hsym
      have key : ∀ (V : List VE) (i : Nat), V[i]? = some (e, Pr, Value.slice A n d) → V.Pairwise (fun x y => ∀ j, x.2.2.ownBlock = some j → y.2.2.ownBlock ≠ some j) → (∀ z1 ∈ V, ∀ j, (Value.slice A' (n + m) d').ownBlock = some j → ((Value.slice A n d).ownBlock = some j → z1.2.2.ownBlock ≠ some j) → z1.2.2.ownBlock ≠ some j) →
          (V.set i (e, Pr, .slice A' (n + m) d')).Pairwise (fun x y => ∀ j, x.2.2.ownBlock = some j → y.2.2.ownBlock ≠ some j) := by
        intro V
        induction V with
        | nil => intro i hi; simp at hi
        | cons a V ih =>
          intro i hi hpw hal
          obtain ⟨p1, p2⟩ := List.pairwise_cons.1 hpw
          cases i with
          | zero =>
            simp at hi
            subst hi
            exact List.pairwise_cons.2 ⟨fun y hy j hj => hal y (List.mem_cons_of_mem _ hy) j hj (fun h1 => p1 y hy j h1), p2⟩
          | succ i =>
            simp at hi
            refine List.pairwise_cons.2 ⟨fun y hy j hj => ?_, ih i hi p2 (fun z1 hz1 => hal z1 (List.mem_cons_of_mem _ hz1))⟩
            rcases List.mem_or_eq_of_mem_set hy with hy | rfl
            · exact p1 y hy j hj
            · intro h1
              exact hal a List.mem_cons_self j h1 (fun h2 h3 => p1 _ (List.mem_of_getElem? hi) j h3 h2) hj
      exact key V i hV hvd hall
  subst hml
  have ownAt : ∀ {v' : Value} {w' : World}, Own Cs.val (isz e) e w' k.w0.heap.size v' (ls ++ ms) → ∃ A' d', v' = .slice A' (n + ms.length) d' := by
    intro v' w' ho
    obtain ⟨A', c1, h1, _⟩ := ho.form
    rw [List.length_append, ← hll] at h1
    exact ⟨A', c1, h1⟩
  by_cases hm0 : ms = []
  · subst hm0
    have hrun : (Builtin.append_ #[t, t] ty #[.slice A n d, .slice B 0 q]).run Pg w = .ok (.slice A n d) w := by
      rcases hown with ⟨h1, h3⟩ | ⟨g, cap, cur, h1, _, hh, hnc, _⟩
      · rw [h1]
        cases B <;> simp [Builtin.append_, run_underlying ht, sizeOf, typeInfo, hi1, Builtin.lenOf, Builtin.firstCells, loadCells, loadCellsFrom]
      · rw [h1]
        cases B <;> simp [Builtin.append_, run_underlying ht, sizeOf, typeInfo, hi1, Builtin.lenOf, Builtin.firstCells, loadCells, loadCellsFrom, hnc, storeCells]
    exact fin c A d w hrun (Ext.refl _ _) h.tw hv (by simpa using hown) (World.grownBy.refl w _) (.inl rfl)
  · obtain ⟨b, off, rfl, _, _, hc⟩ := hms hm0
    obtain ⟨us, hu1, hu2, hu3⟩ := h.tw.cells hx
    have hadd : ∀ j, ((⟨b, off, none⟩ : Addr).add j) = ⟨b, off + j, none⟩ := fun j => by
      unfold Addr.add
      split
      · rename_i h0; rw [h0]; rfl
      · rfl
    have husone : ∀ u ∈ us, u.oneCell' = true := fun u hu => by
      obtain ⟨j, hj, rfl⟩ := List.mem_iff_getElem.1 hu
      obtain ⟨t', _, h2⟩ := hu3 j us[j] (List.getElem?_eq_getElem hj)
      exact h2.one
    have hus : ∀ j u, us[j]? = some u → w.cell? ((⟨b, off, none⟩ : Addr).add j) = some u := fun j u hu => by rw [hadd]; exact hu2 j u hu
    have hmsl : 0 < ms.length := List.length_pos_iff.2 hm0
    have hzc : ∀ (c' : Cx) (N j : Nat) (u : Value), (Builtin.zeroCells z.cells N)[j]? = some u → ∃ t', (F T D e)[j % isz e]? = some t' ∧ t'.ok c' u := fun c' N j u hu => by
      have h1 := zeroCells_get (by omega) hu
      rw [hzs] at h1
      exact Tys.get (hz T D c') _ u (by simpa using h1)
    have hlsus : ms.flatMap Cs.val = us := by
      apply List.ext_getElem?
      intro j
      by_cases hj : j < ms.length * isz e
      · have hk : j / isz e < ms.length := Nat.div_lt_of_lt_mul (by rw [Nat.mul_comm]; exact hj)
        have hr : j % isz e < isz e := Nat.mod_lt _ hpos
        have hdm : j / isz e * isz e + j % isz e = j := by rw [Nat.mul_comm]; exact Nat.div_add_mod j (isz e)
        have hu' : (Cs.val ms[j / isz e])[j % isz e]? = some ((Cs.val ms[j / isz e])[j % isz e]'(by rw [Cs.len]; exact hr)) := List.getElem?_eq_getElem _
        have h5 := flatMap_get Cs.len ms (j / isz e) ms[j / isz e] (List.getElem?_eq_getElem hk) (j % isz e) _ hu'
        have h6 := hc (j / isz e) ms[j / isz e] (List.getElem?_eq_getElem hk) (j % isz e) _ hu'
        rw [hdm] at h5
        rw [Nat.add_assoc, hdm] at h6
        have hju : j < us.length := by omega
        have h7 := hu2 j us[j] (List.getElem?_eq_getElem hju)
        rw [h6] at h7
        injection h7 with h7
        rw [h5, List.getElem?_eq_getElem hju, h7]
      · rw [List.getElem?_eq_none (by rw [flatMap_len Cs.len]; omega), List.getElem?_eq_none (by omega)]
    obtain ⟨v2, w2, hrun2, hO2, hg2, hloc2⟩ := run_appG (P := Pg) Cs.len hpos Cs.one t ty e inf z bytes ht hi1 hi2 hi3 hi4 hzs hown ⟨b, off, none⟩ ms q (fun j u hu => hus j u (by rw [← hlsus]; exact hu)) (by rw [← hll]; exact hbound.2) (by rw [← hll]; exact hbound.1) h.base
    obtain ⟨A2, d2, rfl⟩ := ownAt hO2
    have fresh : ∀ (old N : Nat) (olds : List Value), (∀ (j : Nat) (u : Value), olds[j]? = some u → ∃ t', (F T D e)[j % isz e]? = some t' ∧ t'.ok c u) → olds.length = n * isz e → N = n + ms.length →
        (Builtin.append_ #[t, t] ty #[.slice A n d, .slice (some ⟨b, off, none⟩) ms.length q]).run Pg w = .ok (.slice (some ⟨w.heap.size, 0, none⟩) N (grownCap w N old e)) (w.drew.alloc (.cells (olds.toArray ++ us.toArray ++ Builtin.zeroCells z.cells (grownCap w N old e - N)) e)) →
        ∃ c' A' d' w', (Builtin.append_ #[t, t] ty #[.slice A n d, .slice (some ⟨b, off, none⟩) ms.length q]).run Pg w = .ok (.slice A' (n + ms.length) d') w' ∧ St k P T D c' L (V.set i (e, Pr, .slice A' (n + ms.length) d')) w' ∧ Ext w.heap.size c c' := by
      intro old N olds hol holl hN hrun
      subst hN
      rw [hrun] at hrun2
      injection hrun2 with hq1 hq2
      injection hq1 with hq3 hq4 hq5
      subst hq3; subst hq5; subst hq2
      have hge := grownCap_ge w (n + ms.length) old e
      have hcm := grownCap_le_maxLen w (n + ms.length) old e hbound.2
      have hTW := h.tw.drew.row (cs := olds.toArray ++ us.toArray ++ Builtin.zeroCells z.cells (grownCap w (n + ms.length) old e - (n + ms.length))) (e := e) (fun j u hu => by
        rw [Array.getElem?_append] at hu
        split at hu
        · rw [Array.getElem?_append] at hu
          split at hu
          · exact hol j u (by simpa using hu)
          · obtain ⟨t', h1, h2⟩ := hu3 _ u (by simpa using hu)
            rename_i hlt1 hlt2
            simp only [List.size_toArray] at h1 hlt1 hlt2
            refine ⟨t', ?_, h2⟩
            rw [show j % isz e = (j - olds.length) % isz e by
              rw [holl]
              rw [holl] at hlt2
              rw [show j = n * isz e + (j - n * isz e) by omega, Nat.add_comm, Nat.add_mul_mod_self_right]
              congr 1
              omega]
            exact h1
        · obtain ⟨t', h1, h2⟩ := hzc c _ _ u hu
          rename_i hlt1
          simp only [Array.size_append, List.size_toArray] at h1 hlt1
          refine ⟨t', ?_, h2⟩
          rw [show j % isz e = (j - (olds.length + us.length)) % isz e by
            rw [holl, hu1, ← Nat.add_mul]
            rw [holl, hu1, ← Nat.add_mul] at hlt1
            rw [show j = (n + ms.length) * isz e + (j - (n + ms.length) * isz e) by omega, Nat.add_comm, Nat.add_mul_mod_self_right]
            congr 1
            omega]
          exact h1)
      refine fin _ _ _ _ hrun (Ext.put _ (h.tw.none_ (Nat.le_refl _)) (Nat.le_refl _)) hTW (.inr ⟨w.heap.size, 0, n + ms.length, grownCap w (n + ms.length) old e, _, by simp, hge, hcm, Cx.put_same _ _ _, ?_⟩) hO2 hg2 hloc2
      simp only [Array.size_append, List.size_toArray, size_zeroCells, hzs, holl, hu1, ← Nat.add_mul, Nat.zero_mul, Nat.zero_add]
      exact Nat.mul_le_mul_right _ (by omega)
    rcases hown with ⟨h1, h0⟩ | ⟨g, cap, cur, h1, hbg, hg, hnc, hcm, hcs, htake⟩
    · injection h1 with e1 e2 e3
      subst e1; subst e2; subst e3
      have hr := run_append_nil (P := Pg) w t ty e inf z ht hi1 hi2 ⟨b, off, none⟩ ms.length q us (by rw [hi3]; exact hu1) hus hmsl (by have := hbound.2; simp only [maxLen] at this; omega) (by have := hbound.1; rw [hi4]; simp only [Nat.zero_add] at this; omega)
      refine fresh 0 ms.length [] (fun j u hu => by simp at hu) (by simp) (by omega) ?_
      rw [hr]
      simp
    · injection h1 with e1 e2 e3
      subst e1; subst e3
      have e2' : ls.length = n := e2.symm
      have hgc : c g = some (e, cur.size) := by
        rcases hv with hv | ⟨g', q', n', d'', N, hv, _, _, h5, _⟩
        · cases hv
        · injection hv with e4 e5 e6
          injection e4 with e4
          injection e4 with e4 e7
          subst e4
          obtain ⟨cs, h8, h9, _⟩ := h.tw g e N h5
          rw [hg] at h8
          injection h8 with h8
          injection h8 with h8
          subst h8
          rw [h5, h9]
      obtain ⟨cs, h8, h9, h10⟩ := h.tw g e cur.size hgc
      rw [hg] at h8
      injection h8 with h8
      injection h8 with h8
      subst h8
      by_cases hroom : n + ms.length ≤ d
      · have hfit : n * inf.size + us.length ≤ cur.size := by
          have := Nat.mul_le_mul_right (isz e) hroom
          rw [hi3, hu1, ← Nat.add_mul]; omega
        have hr := run_append_room (P := Pg) w t ty e inf ht hi1 g n d cur hg ⟨b, off, none⟩ ms.length q us (by rw [hi3]; exact hu1) hus husone hroom hfit
        have hrun' := hrun2
        rw [hr] at hrun2
        injection hrun2 with hq1 hq2
        injection hq1 with hq3 hq4 hq5
        subst hq3; subst hq5; subst hq2
        refine fin c _ _ _ hrun' (Ext.refl _ _) ?_ ?_ hO2 hg2 hloc2
        · refine h.tw.turn hgc (cs := (cur.toList.take (n * inf.size) ++ us ++ cur.toList.drop (n * inf.size + us.length)).toArray) ?_ (fun j u hu => ?_) (setRow_heap w g cur _ e _ hg) (fun j hj _ => setRow_other w g j _ hj)
          · simp only [List.size_toArray, List.length_append, List.length_take, List.length_drop, Array.length_toList]
            omega
          · rw [List.getElem?_toArray, List.append_assoc, List.getElem?_append] at hu
            split at hu
            · rw [List.getElem?_take] at hu
              split at hu
              · exact h10 j u (by simpa using hu)
              · cases hu
            · rename_i hlt
              simp only [List.length_take, Array.length_toList] at hu hlt
              rw [show min (n * inf.size) cur.size = n * isz e by rw [hi3]; rw [hi3] at hfit; omega] at hu hlt
              rw [List.getElem?_append] at hu
              split at hu
              · obtain ⟨t', h1, h2⟩ := hu3 _ u hu
                refine ⟨t', ?_, h2⟩
                rw [show j % isz e = (j - n * isz e) % isz e by
                  rw [show j = n * isz e + (j - n * isz e) by omega, Nat.add_comm, Nat.add_mul_mod_self_right]
                  congr 1
                  omega]
                exact h1
              · rename_i hlt2
                rw [List.getElem?_drop] at hu
                rw [hi3] at hu
                have e8 : n * isz e + us.length + (j - n * isz e - us.length) = j := by omega
                rw [e8] at hu
                exact h10 j u (by simpa using hu)
        · exact .inr ⟨g, 0, n + ms.length, d, cur.size, by simp, hroom, hcm, hgc, by omega⟩
      · have holds : ∀ j u, (ls.flatMap Cs.val)[j]? = some u → w.cell? ((⟨g, 0, none⟩ : Addr).add j) = some u := by
          intro j u hu
          have h5 := hu
          rw [← htake, List.getElem?_take] at h5
          split at h5
          · have e2 : ((⟨g, 0, none⟩ : Addr).add j) = ⟨g, j, none⟩ := by
              unfold Addr.add
              split
              · rename_i h0; rw [h0]
              · simp
            rw [e2]
            simp only [World.cell?, hg]
            simpa using h5
          · cases h5
        have hr := run_append_grow (P := Pg) w t ty e inf z ht hi1 hi2 ⟨g, 0, none⟩ n d (ls.flatMap Cs.val) (by rw [flatMap_len Cs.len, e2', hi3]) holds ⟨b, off, none⟩ ms.length q us (by rw [hi3]; exact hu1) hus (by omega) (by have := hbound.2; simp only [maxLen] at this; omega) (growslice_fits (by omega) (by rw [hi4]; exact hbound.1))
        refine fresh d (n + ms.length) (ls.flatMap Cs.val) (fun j u hu => ?_) (by rw [flatMap_len Cs.len, e2']) rfl hr
        rw [← htake, List.getElem?_take] at hu
        split at hu
        · exact h10 j u (by simpa using hu)
        · cases hu
end
section
variable {Pg : Program} {o : Oper} {a : Act} {w : World} {K : Act → World → Prop} {Q : Exit → Act → World → Prop} {k : Bs} {P T D : Nat} {c : Cx} {L : List LE} {V : List VE}
theorem wp_boxT (hS : St k P T D c L V w) {e : TypeId} {x : Operand} {vs : List Value} (ho : o.op = .box e x) (hx : a.eval x = .agg vs.toArray) (hv : TyE T D c e vs)
    (h : ∀ b w', St k P T D c ((b, e, vs) :: L) V w' → w.heap.size ≤ b → K (a.put o.dst (.pointer (some ⟨b, 0, none⟩))) w') : o.wp Pg a w K Q := by
  have h1 := h _ _ (hS.box hv) (Nat.le_refl _)
  unfold Oper.wp
  simp [execOp, ho, hx, Instr.box, newVar, newRow, Value.cells, Oper.upon, Result.andThen]
  exact h1
theorem wp_allocT (hS : St k P T D c L V w) {e : TypeId} {z : Value} {bytes : Nat} {vs : List Value} (ho : o.op = .alloc e) (hi : InfoOf Pg e z bytes) (hz : z = .agg vs.toArray) (hv : TyE T D c e vs)
    (h : ∀ b w', St k P T D c ((b, e, vs) :: L) V w' → w.heap.size ≤ b → K (a.put o.dst (.pointer (some ⟨b, 0, none⟩))) w') : o.wp Pg a w K Q := by
  subst hz
  have h1 := h _ _ (hS.box hv) (Nat.le_refl _)
  obtain ⟨inf, hi1, hi2, hi3, hi4⟩ := info_parts hi
  unfold Oper.wp
  simp [execOp, ho, Instr.alloc, zeroValue, typeInfo, hi1, hi2, newVar, newRow, Value.cells, Oper.upon, Result.andThen]
  exact h1
theorem putCells_set (b : Nat) : ∀ (us : List Value) (w : World) (j : Nat), putCells w b j us = w.setCells b j us
  | [], w, j => rfl
  | u :: us, w, j => putCells_set b us _ (j + 1)
theorem run_storeBox {b : Nat} {e : TypeId} {vs us : List Value} {j : Nat} (hb : w.heap[b]? = some (.cells vs.toArray e (0, 0))) (hj : j + us.length ≤ vs.length) (h1 : ∀ u ∈ us, u.oneCell' = true) :
    (storeCells ⟨b, j, none⟩ us 0).run Pg w = .ok () (putCells w b j us) := by
  rw [putCells_set]
  have := run_storeCells_cells (P := Pg) b j us 0 w (fun i hi => by
    simp only [World.cell?, hb, Nat.add_zero]
    have : j + i < vs.length := by omega
    simp [List.getElem?_eq_getElem this]) (fun i hi => by simp [World.frozen?, hb]) h1
  simpa using this
theorem wp_set1T (hS : St k P T D c L V w) {t : TypeId} {x y : Operand} {b j : Nat} {u : Value} {e : TypeId} {vs : List Value} {ct : CT} (i : Nat) (ho : o.op = .store t y x) (hy : a.eval y = .pointer (some ⟨b, j, none⟩)) (hL : L[i]? = some (b, e, vs))
    (hx : a.eval x = u) (hct : (F T D e)[j]? = some ct) (hu : ct.ok c u) (hsz : (Pg.info? t).map (·.size) = some 1) (hc : u.cells = #[u])
    (h : ∀ w', St k P T D c (L.set i (b, e, vs.set j u)) V w' → w'.heap.size = w.heap.size → K (a.put o.dst undef) w') : o.wp Pg a w K Q := by
  have h1 := h _ (hS.set hL hct hu) (by simp [World.setCell])
  obtain ⟨b1, b2, b3, b4⟩ := hS.bx _ (List.mem_of_getElem? hL)
  have b1 : w.heap[b]? = some (.cells vs.toArray e (0, 0)) := b1
  have hj : j + [u].length ≤ vs.length := by
    have := (List.getElem?_eq_some_iff.1 hct).1
    have h9 : vs.length = isz e := b4.len
    rw [F_len, ← h9] at this
    simp only [List.length_cons, List.length_nil]
    omega
  have hst := run_storeBox (Pg := Pg) (us := [u]) b1 hj (by intro v hv; rw [List.mem_singleton] at hv; subst hv; exact hu.one)
  obtain ⟨inf, hi1, hi2⟩ := Option.map_eq_some_iff.1 hsz
  unfold Oper.wp
  simp [execOp, ho, hy, hx, Instr.storeAt, Instr.sureAddr, storeVar, sizeOf, typeInfo, hi1, hi2, hc, hst, Oper.upon, Result.andThen]
  exact h1
theorem wp_setAT (hS : St k P T D c L V w) {t : TypeId} {x y : Operand} {b : Nat} {us : List Value} {vs : List Value} {z : Value} {bytes : Nat} (i : Nat) (ho : o.op = .store t y x) (hy : a.eval y = .pointer (some ⟨b, 0, none⟩)) (hL : L[i]? = some (b, t, vs))
    (hx : a.eval x = .agg us.toArray) (hu : TyE T D c t us) (hi : InfoOf Pg t z bytes)
    (h : ∀ w', St k P T D c (L.set i (b, t, us)) V w' → w'.heap.size = w.heap.size → K (a.put o.dst undef) w') : o.wp Pg a w K Q := by
  have h1 := h _ (hS.setAll hL hu) (size_putCells _ _ _ _)
  obtain ⟨b1, b2, b3, b4⟩ := hS.bx _ (List.mem_of_getElem? hL)
  have b1 : w.heap[b]? = some (.cells vs.toArray t (0, 0)) := b1
  have hst := run_storeBox (Pg := Pg) (us := us) (j := 0) b1 (by have h9 : vs.length = isz t := b4.len; have := hu.len; omega) hu.one
  obtain ⟨inf, hi1, hi2, hi3, hi4⟩ := info_parts hi
  unfold Oper.wp
  simp [execOp, ho, hy, hx, Instr.storeAt, Instr.sureAddr, storeVar, sizeOf, typeInfo, hi1, hi3, hu.len, Value.cells, hst, Oper.upon, Result.andThen]
  exact h1
theorem fold_fill : ∀ (l : List Value) (j : Nat) (acc : Array Value), j + l.length ≤ acc.size → (l.zipIdx j).foldl (fun (cs : Array Value) (x : Value × Nat) => cs.setIfInBounds (0 + x.2) x.1) acc = (acc.toList.take j ++ l ++ acc.toList.drop (j + l.length)).toArray
  | [], j, acc, h => by simp
  | u :: us, j, acc, h => by
    simp only [List.length_cons] at h
    rw [List.zipIdx_cons, List.foldl_cons, fold_fill us (j + 1) _ (by simp; omega)]
    have hlen : j < acc.toList.length := by simp; omega
    apply Array.toList_inj.1
    simp only [Array.toList_setIfInBounds, Nat.zero_add, List.length_cons]
    rw [List.take_set, List.drop_set_of_lt (by omega)]
    have : (acc.toList.take (j + 1)).set j u = acc.toList.take j ++ [u] := by
      have hm : min j acc.size = j := by simp at hlen; omega
      rw [List.take_succ_eq_append_getElem hlen, List.set_append_right _ _ (by simp; omega)]
      simp [hm]
    rw [this, show j + 1 + us.length = j + (us.length + 1) by omega]
    simp
theorem wp_row0T (hS : St k P T D c L V w) {t e : TypeId} {z : Value} {bytes : Nat} (Pr : List Value → Prop) (ho : o.op = .buildSlice t 0 #[]) (ht : Pg.underlying t = some (.slice e)) (hi : InfoOf Pg e z bytes)
    (h : ∀ c' b w', St k P T D c' L ((e, Pr, .slice (some ⟨b, 0, none⟩) 0 0) :: V) w' → Ext w.heap.size c c' → w.heap.size ≤ b → K (a.put o.dst (.slice (some ⟨b, 0, none⟩) 0 0)) w') : o.wp Pg a w K Q := by
  have h1 := h _ _ _ (hS.row (e := e) (Pr := Pr) (n := 0) (us := []) (by omega) (fun _ => rfl) (fun h => by omega)) (Ext.put _ (hS.tw.none_ (Nat.le_refl _)) (Nat.le_refl _)) (Nat.le_refl _)
  obtain ⟨inf, hi1, hi2, hi3, hi4⟩ := info_parts hi
  have e0 : ∀ f : Nat → Value, Array.map f (Array.range 0) = #[] := fun f => by simp [Array.range]
  unfold Oper.wp
  simp [execOp, ho, Instr.buildSlice, run_underlying ht, sizeOf, typeInfo, hi1, Instr.fill, newRow, Oper.upon, Result.andThen, e0]
  exact h1
theorem wp_row1T (hS : St k P T D c L V w) {t e : TypeId} {z : Value} {bytes : Nat} {x : Operand} {us : List Value} (Pr : List Value → Prop) (ho : o.op = .buildSlice t 1 #[(0, x)]) (hx : a.eval x = .agg us.toArray) (ht : Pg.underlying t = some (.slice e)) (hi : InfoOf Pg e z bytes) (hzs : z.cells.size = isz e)
    (hpos : 0 < isz e ∧ isz e < 1000) (hu : TyE T D c e us) (hP : Pr us)
    (h : ∀ c' b w', St k P T D c' L ((e, Pr, .slice (some ⟨b, 0, none⟩) 1 1) :: V) w' → Ext w.heap.size c c' → w.heap.size ≤ b → K (a.put o.dst (.slice (some ⟨b, 0, none⟩) 1 1)) w') : o.wp Pg a w K Q := by
  have h1 := h _ _ _ (hS.row (e := e) (Pr := Pr) (n := 1) (us := us) (by omega) (fun h => by omega) (fun _ => ⟨hu, hP⟩)) (Ext.put _ (hS.tw.none_ (Nat.le_refl _)) (Nat.le_refl _)) (Nat.le_refl _)
  obtain ⟨inf, hi1, hi2, hi3, hi4⟩ := info_parts hi
  have hl := hu.len
  have hfill : ∀ acc : Array Value, acc.size = isz e → Instr.fill (fun i => some (i * isz e, isz e)) acc [(0, .agg us.toArray)] = some us.toArray := by
    intro acc hacc
    simp only [Instr.fill, Value.cells, List.size_toArray, hl, Nat.zero_mul, Nat.zero_add, hacc, bne_self_eq_false, Nat.lt_irrefl, gt_iff_lt, decide_false, Bool.or_self, Bool.false_eq_true, if_false]
    congr 1
    rw [← Array.foldl_toList]
    have := fold_fill us 0 acc (by omega)
    simp only [Nat.zero_add] at this
    simp only [Array.toList_zipIdx]
    rw [this]
    simp [hl, ← hacc]
  have hf := hfill ((Array.range (isz e)).map (z.cells[· % z.cells.size]!)) (by simp)
  have h24 : ¬ (16777216 < isz e) := by omega
  have hne : isz e ≠ 0 := by omega
  unfold Oper.wp
  simp [execOp, ho, hx, Instr.buildSlice, run_underlying ht, sizeOf, zeroValue, typeInfo, hi1, hi2, hi3, h24, hne, hf, newRow, Oper.upon, Result.andThen]
  exact h1
theorem TW.parts {e : TypeId} (hT : TW T D c w) (hpos : 0 < isz e) {A : Option Addr} {n d : Nat} (hx : SlV c e (.slice A n d)) : ∃ ms : List (Cs (isz e)), ms.length = n ∧ Sl Cs.val (isz e) w 0 w.heap.size A ms ∧ ∀ y ∈ ms, True := by
  by_cases hn : n = 0
  · subst hn
    exact ⟨[], rfl, Sl.nil_, fun _ _ => trivial⟩
  · obtain ⟨g, off, rfl⟩ := hx.addr (i := 0) (by omega)
    have f : ∀ i : Fin n, ∃ y : Cs (isz e), ∀ (j : Nat) (u : Value), y.val[j]? = some u → w.cell? ⟨g, off + i.1 * isz e + j, none⟩ = some u := fun i => by
      obtain ⟨us, h1, h2⟩ := hT.elem hx i.2
      exact ⟨⟨us, h2.len, h2.one⟩, h1⟩
    refine ⟨List.ofFn fun i => (f i).choose, by simp, fun _ => ⟨g, off, rfl, Nat.zero_le _, ?_, fun i x hxi j u hu => ?_⟩, fun _ _ => trivial⟩
    · rcases hx with hx | ⟨g', q, n', d', N, hx, _, _, h5, _⟩
      · cases hx
      · injection hx with hx
        injection hx with hx
        injection hx with hx
        subst hx
        exact hT.lt h5
    · have hi : i < n := by have := (List.getElem?_eq_some_iff.1 hxi).1; simpa using this
      have hxe : (f ⟨i, hi⟩).choose = x := by
        rw [List.getElem?_eq_getElem (by simpa using hi), List.getElem_ofFn] at hxi
        injection hxi
      rw [← hxe] at hu
      exact (f ⟨i, hi⟩).choose_spec j u hu
theorem St.partsV (hS : St k P T D c L V w) {j : Nat} {e : TypeId} {Pr : List Value → Prop} {A : Option Addr} {n d : Nat} (hV : V[j]? = some (e, Pr, .slice A n d)) : ∃ ms : List (Cs (isz e)), ms.length = n ∧ Sl Cs.val (isz e) w 0 w.heap.size A ms ∧ ∀ y ∈ ms, Pr y.val := by
  obtain ⟨_, ls, h2, h3⟩ := hS.vs _ (List.mem_of_getElem? hV)
  obtain ⟨h4, h5, h6⟩ := h2.slAt Cs.len
  exact ⟨ls, h4.symm, h6.mono (Nat.zero_le _) (Nat.le_refl _), h3⟩
theorem St.slV (hS : St k P T D c L V w) {j : Nat} {e : TypeId} {Pr : List Value → Prop} {v : Value} (hV : V[j]? = some (e, Pr, v)) : SlV c e v := (hS.vs _ (List.mem_of_getElem? hV)).1
theorem wp_appT (hS : St k P T D c L V w) {t e : TypeId} {z : Value} {bytes : Nat} (i : Nat) {s x : Operand} {Pr : List Value → Prop} {A : Option Addr} {n d : Nat} {B : Option Addr} {m q : Nat}
    (ho : o.op = .call { callee := .builtin .append, args := #[s, x], argTypes := #[t, t] }) (ht : Pg.underlying t = some (.slice e)) (hs : a.eval s = .slice A n d) (hV : V[i]? = some (e, Pr, .slice A n d)) (hx : a.eval x = .slice B m q)
    (hi : InfoOf Pg e z bytes) (hz : ZeroOk e z) (hpos : 0 < isz e) (hsl : SlV c e (.slice B m q)) (hxs : ∃ ms : List (Cs (isz e)), ms.length = m ∧ Sl Cs.val (isz e) w 0 w.heap.size B ms ∧ ∀ y ∈ ms, Pr y.val)
    (hbound : (n + m) * bytes ≤ 140737488355328 ∧ n + m ≤ maxLen)
    (h : ∀ c' A' d' w', St k P T D c' L (V.set i (e, Pr, .slice A' (n + m) d')) w' → Ext w.heap.size c c' → K (a.put o.dst (.slice A' (n + m) d')) w') : o.wp Pg a w K Q := by
  obtain ⟨c', A', d', w', hrun, h1, h2⟩ := hS.app (ty := o.type) ht hi hz hpos hV hsl hxs hbound
  unfold Oper.wp execOp
  simp only [ho, resolve, invoke, builtin, Sem.run_bind, Sem.run_pure, Result.andThen_ok, List.map_toArray, List.map_cons, List.map_nil, hs, hx, hrun]
  exact h c' A' d' w' h1 h2
end
section
variable {Pg : Program} {o : Oper} {a : Act} {w : World} {K : Act → World → Prop} {Q : Exit → Act → World → Prop} {k : Bs} {P T D : Nat} {c : Cx} {L : List LE} {V : List VE}
theorem wp_setIT (hS : St k P T D c L V w) {t : TypeId} {x y : Operand} {b j : Nat} {u : Int} {e : TypeId} {vs : List Value} {ct : CT} (i : Nat) (ho : o.op = .store t y x) (hy : a.eval y = .pointer (some ⟨b, j, none⟩)) (hL : L[i]? = some (b, e, vs))
    (hx : a.eval x = .int .i64 u) (hct : (F T D e)[j]? = some ct) (hu : ct.ok c (.int .i64 u)) (hsz : (Pg.info? t).map (·.size) = some 1)
    (h : ∀ w', St k P T D c (L.set i (b, e, vs.set j (.int .i64 u))) V w' → w'.heap.size = w.heap.size → K (a.put o.dst undef) w') : o.wp Pg a w K Q := wp_set1T hS i ho hy hL hx hct hu hsz rfl h
theorem wp_setBT (hS : St k P T D c L V w) {t : TypeId} {x y : Operand} {b j : Nat} {u : Bool} {e : TypeId} {vs : List Value} {ct : CT} (i : Nat) (ho : o.op = .store t y x) (hy : a.eval y = .pointer (some ⟨b, j, none⟩)) (hL : L[i]? = some (b, e, vs))
    (hx : a.eval x = .bool u) (hct : (F T D e)[j]? = some ct) (hu : ct.ok c (.bool u)) (hsz : (Pg.info? t).map (·.size) = some 1)
    (h : ∀ w', St k P T D c (L.set i (b, e, vs.set j (.bool u))) V w' → w'.heap.size = w.heap.size → K (a.put o.dst undef) w') : o.wp Pg a w K Q := wp_set1T hS i ho hy hL hx hct hu hsz rfl h
theorem wp_setST (hS : St k P T D c L V w) {t : TypeId} {x y : Operand} {b j : Nat} {A : Option Addr} {n d : Nat} {e : TypeId} {vs : List Value} {ct : CT} (i : Nat) (ho : o.op = .store t y x) (hy : a.eval y = .pointer (some ⟨b, j, none⟩)) (hL : L[i]? = some (b, e, vs))
    (hx : a.eval x = .slice A n d) (hct : (F T D e)[j]? = some ct) (hu : ct.ok c (.slice A n d)) (hsz : (Pg.info? t).map (·.size) = some 1)
    (h : ∀ w', St k P T D c (L.set i (b, e, vs.set j (.slice A n d))) V w' → w'.heap.size = w.heap.size → K (a.put o.dst undef) w') : o.wp Pg a w K Q := wp_set1T hS i ho hy hL hx hct hu hsz rfl h
end
/-! The cells of all boxes, and their types, as facts a walk can use. -/
def CellsAt (w : World) (b : Nat) : Nat → List Value → Prop
  | _, [] => True
  | j, v :: vs => w.cell? ⟨b, j, none⟩ = some v ∧ CellsAt w b (j + 1) vs
def AllC (w : World) : List LE → Prop
  | [] => True
  | (b, _, vs) :: L => CellsAt w b 0 vs ∧ AllC w L
def AllT (T D : Nat) (c : Cx) : List LE → Prop
  | [] => True
  | (_, e, vs) :: L => TyE T D c e vs ∧ AllT T D c L
def AllV (c : Cx) : List VE → Prop
  | [] => True
  | (e, _, v) :: V => SlV c e v ∧ AllV c V
theorem cellsAt_of {w : World} {b : Nat} {cs : List Value} {e : TypeId} (h : w.heap[b]? = some (.cells cs.toArray e (0, 0))) : ∀ (vs : List Value) (j : Nat), cs.drop j = vs → CellsAt w b j vs
  | [], j, _ => trivial
  | v :: vs, j, hj => by
    have h1 : cs[j]? = some v := by
      have : (cs.drop j)[0]? = some v := by rw [hj]; rfl
      simpa using this
    refine ⟨by simp [World.cell?, h, h1], cellsAt_of h vs (j + 1) ?_⟩
    have := congrArg List.tail hj
    simpa [List.tail_drop] using this
section
variable {k : Bs} {P T D : Nat} {c : Cx} {L : List LE} {V : List VE} {w : World}
theorem St.cells (h : St k P T D c L V w) : AllC w L := by
  have h1 : ∀ x ∈ L, w.heap[x.1]? = some (.cells x.2.2.toArray x.2.1 (0, 0)) := fun x hx => (h.bx x hx).1
  clear h
  induction L with
  | nil => trivial
  | cons x L ih =>
    obtain ⟨b, e, vs⟩ := x
    exact ⟨cellsAt_of (h1 _ List.mem_cons_self) vs 0 rfl, ih fun y hy => h1 y (List.mem_cons_of_mem _ hy)⟩
theorem St.types (h : St k P T D c L V w) : AllT T D c L := by
  have h1 : ∀ x ∈ L, TyE T D c x.2.1 x.2.2 := fun x hx => (h.bx x hx).2.2.2
  clear h
  induction L with
  | nil => trivial
  | cons x L ih =>
    obtain ⟨b, e, vs⟩ := x
    exact ⟨h1 _ List.mem_cons_self, ih fun y hy => h1 y (List.mem_cons_of_mem _ hy)⟩
theorem St.ty (h : St k P T D c L V w) (i : Nat) {b : Nat} {e : TypeId} {vs : List Value} (hL : L[i]? = some (b, e, vs)) : TyE T D c e vs := (h.bx _ (List.mem_of_getElem? hL)).2.2.2
theorem St.slices (h : St k P T D c L V w) : AllV c V := by
  have h1 : ∀ x ∈ V, SlV c x.1 x.2.2 := fun x hx => (h.vs x hx).1
  clear h
  induction V with
  | nil => trivial
  | cons x V ih =>
    obtain ⟨e, Pr, v⟩ := x
    exact ⟨h1 _ List.mem_cons_self, ih fun y hy => h1 y (List.mem_cons_of_mem _ hy)⟩
end
theorem ok_any (c : Cx) (x : Int) : CT.any.ok c (.int .i64 x) = True := eq_true ⟨x, rfl⟩
theorem ok_le (c : Cx) (m x : Int) : (CT.le m).ok c (.int .i64 x) = (x ≤ m) := propext ⟨fun ⟨y, h1, h2⟩ => by injection h1 with _ h1; subst h1; exact h2, fun h => ⟨x, rfl, h⟩⟩
theorem ok_rng (c : Cx) (lo hi x : Int) : (CT.rng lo hi).ok c (.int .i64 x) = (lo ≤ x ∧ x ≤ hi) := propext ⟨fun ⟨y, h1, h2⟩ => by injection h1 with _ h1; subst h1; exact h2, fun h => ⟨x, rfl, h⟩⟩
theorem ok_bool (c : Cx) (b : Bool) : CT.bool.ok c (.bool b) = True := eq_true ⟨b, rfl⟩
theorem ok_sl (c : Cx) (e : TypeId) (mx : Nat) (A : Option Addr) (n d : Nat) : (CT.sl e mx).ok c (.slice A n d) = (SlV c e (.slice A n d) ∧ n ≤ mx) := rfl
theorem tys_nil (c : Cx) : Tys c [] [] = True := rfl
theorem tys_cons (c : Cx) (t : CT) (ts : List CT) (v : Value) (vs : List Value) : Tys c (t :: ts) (v :: vs) = (t.ok c v ∧ Tys c ts vs) := rfl
theorem slv_nil (c : Cx) (e : TypeId) : SlV c e (.slice none 0 0) = True := eq_true (SlV.nil_ c e)
section
variable (T D : Nat) (c : Cx)
theorem tyC (vs : List Value) : TyE T D c 41 vs = Tys c [.le 100, .any, .any, .any, .any, .any, .any] vs := rfl
theorem tyV (vs : List Value) : TyE T D c 77 vs = Tys c [.any, .sl 41 100] vs := rfl
theorem tyM (vs : List Value) : TyE T D c 46 vs = Tys c [.any, .any, .any, .le 100, .any, .any, .any, .any, .any, .sl 41 100, .sl 77 100] vs := rfl
theorem tyR (vs : List Value) : TyE T D c 31 vs = Tys c [.rng 0 3, .any, .bool, .any, .sl 41 T, .sl 46 120, .sl 41 D] vs := rfl
theorem tyW (vs : List Value) : TyE T D c 26 vs = Tys c [.any, .sl 31 4, .sl 46 200] vs := rfl
theorem tyE_ (vs : List Value) : TyE T D c 87 vs = Tys c [.any, .any, .any, .any, .any, .any, .le 100, .any, .any, .any, .any, .any, .sl 41 100, .sl 77 100] vs := rfl
theorem tyQ (vs : List Value) : TyE T D c 39 vs = Tys c [.any, .any, .any, .any, .any] vs := rfl
end
/-! The program's table. -/
abbrev zC : Value := .agg #[.int .i64 0, .int .i64 0, .int .i64 0, .int .i64 0, .int .i64 0, .int .i64 0, .int .i64 0]
abbrev zV : Value := .agg #[.int .i64 0, .slice none 0 0]
abbrev zM : Value := .agg #[.int .i64 0, .int .i64 0, .int .i64 0, .int .i64 0, .int .i64 0, .int .i64 0, .int .i64 0, .int .i64 0, .int .i64 0, .slice none 0 0, .slice none 0 0]
abbrev zR : Value := .agg #[.int .i64 0, .int .i64 0, .bool false, .int .i64 0, .slice none 0 0, .slice none 0 0, .slice none 0 0]
abbrev zW : Value := .agg #[.int .i64 0, .slice none 0 0, .slice none 0 0]
abbrev zE : Value := .agg #[.int .i64 0, .int .i64 0, .int .i64 0, .int .i64 0, .int .i64 0, .int .i64 0, .int .i64 0, .int .i64 0, .int .i64 0, .int .i64 0, .int .i64 0, .int .i64 0, .slice none 0 0, .slice none 0 0]
abbrev zQ : Value := .agg #[.int .i64 0, .int .i64 0, .int .i64 0, .int .i64 0, .int .i64 0]
theorem inC : InfoOf Tryz.prog 41 zC 56 := by unfold InfoOf; kernel_rfl
theorem inV : InfoOf Tryz.prog 77 zV 32 := by unfold InfoOf; kernel_rfl
theorem inM : InfoOf Tryz.prog 46 zM 120 := by unfold InfoOf; kernel_rfl
theorem inR : InfoOf Tryz.prog 31 zR 104 := by unfold InfoOf; kernel_rfl
theorem inW : InfoOf Tryz.prog 26 zW 56 := by unfold InfoOf; kernel_rfl
theorem inE : InfoOf Tryz.prog 87 zE 144 := by unfold InfoOf; kernel_rfl
theorem inQ : InfoOf Tryz.prog 39 zQ 40 := by unfold InfoOf; kernel_rfl
theorem zoC : ZeroOk 41 zC := fun T D c => by simp [Value.cells, tyC, tys_cons, tys_nil, ok_any, ok_le]
theorem zoV : ZeroOk 77 zV := fun T D c => by simp [Value.cells, tyV, tys_cons, tys_nil, ok_any, ok_sl, slv_nil]
theorem zoM : ZeroOk 46 zM := fun T D c => by simp [Value.cells, tyM, tys_cons, tys_nil, ok_any, ok_le, ok_sl, slv_nil]
theorem zoR : ZeroOk 31 zR := fun T D c => by simp [Value.cells, tyR, tys_cons, tys_nil, ok_any, ok_rng, ok_bool, ok_sl, slv_nil]
theorem zoW : ZeroOk 26 zW := fun T D c => by simp [Value.cells, tyW, tys_cons, tys_nil, ok_any, ok_sl, slv_nil]
theorem zoE : ZeroOk 87 zE := fun T D c => by simp [Value.cells, tyE_, tys_cons, tys_nil, ok_any, ok_le, ok_sl, slv_nil]
theorem zoQ : ZeroOk 39 zQ := fun T D c => by simp [Value.cells, tyQ, tys_cons, tys_nil, ok_any]
theorem szI : (Tryz.prog.info? 3).map (·.size) = some 1 := by kernel_rfl
theorem szB : (Tryz.prog.info? 4).map (·.size) = some 1 := by kernel_rfl
theorem szSC : (Tryz.prog.info? 29).map (·.size) = some 1 := by kernel_rfl
theorem szSV : (Tryz.prog.info? 44).map (·.size) = some 1 := by kernel_rfl
theorem szSM : (Tryz.prog.info? 24).map (·.size) = some 1 := by kernel_rfl
theorem szSR : (Tryz.prog.info? 23).map (·.size) = some 1 := by kernel_rfl
section
variable {T D : Nat} {c : Cx} {vs : List Value}
theorem TyE.claim (h : TyE T D c 41 vs) : ∃ t : ClaimT, vs = [.int .i64 t.1, .int .i64 t.2.1, .int .i64 t.2.2.1, .int .i64 t.2.2.2.1, .int .i64 t.2.2.2.2.1, .int .i64 t.2.2.2.2.2.1, .int .i64 t.2.2.2.2.2.2] ∧ t.1 ≤ 100 := by
  have hl := h.len
  match vs, hl, h with
  | [_, _, _, _, _, _, _], _, h =>
    obtain ⟨⟨x0, rfl, h0⟩, ⟨x1, rfl⟩, ⟨x2, rfl⟩, ⟨x3, rfl⟩, ⟨x4, rfl⟩, ⟨x5, rfl⟩, ⟨x6, rfl⟩, _⟩ := h
    exact ⟨(x0, x1, x2, x3, x4, x5, x6), rfl, h0⟩
theorem TyE.req (h : TyE T D c 39 vs) : ∃ t : ReqV, vs = [.int .i64 t.1, .int .i64 t.2.1, .int .i64 t.2.2.1, .int .i64 t.2.2.2.1, .int .i64 t.2.2.2.2] := by
  have hl := h.len
  match vs, hl, h with
  | [_, _, _, _, _], _, h =>
    obtain ⟨⟨x0, rfl⟩, ⟨x1, rfl⟩, ⟨x2, rfl⟩, ⟨x3, rfl⟩, ⟨x4, rfl⟩, _⟩ := h
    exact ⟨(x0, x1, x2, x3, x4), rfl⟩
theorem slv_lit {c : Cx} {e : TypeId} {mx : Nat} {v : Value} (h : (CT.sl e mx).ok c v) : ∃ A n d, v = .slice A n d ∧ SlV c e (.slice A n d) ∧ n ≤ mx := by
  obtain ⟨A, n, d, rfl, _⟩ := h.1.form
  exact ⟨A, n, d, rfl, h.1, h.2⟩
theorem TyE.vote (h : TyE T D c 77 vs) : ∃ (i : Int) (A : Option Addr) (n d : Nat), vs = [.int .i64 i, .slice A n d] ∧ SlV c 41 (.slice A n d) ∧ n ≤ 100 := by
  have hl := h.len
  match vs, hl, h with
  | [_, _], _, h =>
    obtain ⟨⟨x0, rfl⟩, h1, _⟩ := h
    obtain ⟨A, n, d, rfl, h2, h3⟩ := slv_lit h1
    exact ⟨x0, A, n, d, rfl, h2, h3⟩
theorem TyE.msg (h : TyE T D c 46 vs) : ∃ (kd fr vw sq : Int) (t : ReqV) (A : Option Addr) (n d : Nat) (B : Option Addr) (p q : Nat), vs = [.int .i64 kd, .int .i64 fr, .int .i64 vw, .int .i64 sq, .int .i64 t.1, .int .i64 t.2.1, .int .i64 t.2.2.1, .int .i64 t.2.2.2.1, .int .i64 t.2.2.2.2, .slice A n d, .slice B p q] ∧ sq ≤ 100 ∧ SlV c 41 (.slice A n d) ∧ n ≤ 100 ∧ SlV c 77 (.slice B p q) ∧ p ≤ 100 := by
  have hl := h.len
  match vs, hl, h with
  | [_, _, _, _, _, _, _, _, _, _, _], _, h =>
    obtain ⟨⟨x0, rfl⟩, ⟨x1, rfl⟩, ⟨x2, rfl⟩, ⟨x3, rfl, h3⟩, ⟨x4, rfl⟩, ⟨x5, rfl⟩, ⟨x6, rfl⟩, ⟨x7, rfl⟩, ⟨x8, rfl⟩, h9, h10, _⟩ := h
    obtain ⟨A, n, d, rfl, a1, a2⟩ := slv_lit h9
    obtain ⟨B, p, q, rfl, a3, a4⟩ := slv_lit h10
    exact ⟨x0, x1, x2, x3, (x4, x5, x6, x7, x8), A, n, d, B, p, q, rfl, h3, a1, a2, a3, a4⟩
theorem TyE.rep (h : TyE T D c 31 vs) : ∃ (me vw : Int) (lv : Bool) (nx : Int) (A : Option Addr) (n d : Nat) (B : Option Addr) (p q : Nat) (C : Option Addr) (r f : Nat), vs = [.int .i64 me, .int .i64 vw, .bool lv, .int .i64 nx, .slice A n d, .slice B p q, .slice C r f] ∧ 0 ≤ me ∧ me ≤ 3 ∧ SlV c 41 (.slice A n d) ∧ n ≤ T ∧ SlV c 46 (.slice B p q) ∧ p ≤ 120 ∧ SlV c 41 (.slice C r f) ∧ r ≤ D := by
  have hl := h.len
  match vs, hl, h with
  | [_, _, _, _, _, _, _], _, h =>
    obtain ⟨⟨x0, rfl, h0, h0'⟩, ⟨x1, rfl⟩, ⟨x2, rfl⟩, ⟨x3, rfl⟩, h4, h5, h6, _⟩ := h
    obtain ⟨A, n, d, rfl, a1, a2⟩ := slv_lit h4
    obtain ⟨B, p, q, rfl, a3, a4⟩ := slv_lit h5
    obtain ⟨C, r, f, rfl, a5, a6⟩ := slv_lit h6
    exact ⟨x0, x1, x2, x3, A, n, d, B, p, q, C, r, f, rfl, h0, h0', a1, a2, a3, a4, a5, a6⟩
theorem TyE.world (h : TyE T D c 26 vs) : ∃ (bad : Int) (A : Option Addr) (n d : Nat) (B : Option Addr) (p q : Nat), vs = [.int .i64 bad, .slice A n d, .slice B p q] ∧ SlV c 31 (.slice A n d) ∧ n ≤ 4 ∧ SlV c 46 (.slice B p q) ∧ p ≤ 200 := by
  have hl := h.len
  match vs, hl, h with
  | [_, _, _], _, h =>
    obtain ⟨⟨x0, rfl⟩, h4, h5, _⟩ := h
    obtain ⟨A, n, d, rfl, a1, a2⟩ := slv_lit h4
    obtain ⟨B, p, q, rfl, a3, a4⟩ := slv_lit h5
    exact ⟨x0, A, n, d, B, p, q, rfl, a1, a2, a3, a4⟩
theorem TyE.event (h : TyE T D c 87 vs) : ∃ (ek at_ to kd fr vw sq : Int) (t : ReqV) (A : Option Addr) (n d : Nat) (B : Option Addr) (p q : Nat), vs = [.int .i64 ek, .int .i64 at_, .int .i64 to, .int .i64 kd, .int .i64 fr, .int .i64 vw, .int .i64 sq, .int .i64 t.1, .int .i64 t.2.1, .int .i64 t.2.2.1, .int .i64 t.2.2.2.1, .int .i64 t.2.2.2.2, .slice A n d, .slice B p q] ∧ sq ≤ 100 ∧ SlV c 41 (.slice A n d) ∧ n ≤ 100 ∧ SlV c 77 (.slice B p q) ∧ p ≤ 100 := by
  have hl := h.len
  match vs, hl, h with
  | [_, _, _, _, _, _, _, _, _, _, _, _, _, _], _, h =>
    obtain ⟨⟨y0, rfl⟩, ⟨y1, rfl⟩, ⟨y2, rfl⟩, ⟨x0, rfl⟩, ⟨x1, rfl⟩, ⟨x2, rfl⟩, ⟨x3, rfl, h3⟩, ⟨x4, rfl⟩, ⟨x5, rfl⟩, ⟨x6, rfl⟩, ⟨x7, rfl⟩, ⟨x8, rfl⟩, h9, h10, _⟩ := h
    obtain ⟨A, n, d, rfl, a1, a2⟩ := slv_lit h9
    obtain ⟨B, p, q, rfl, a3, a4⟩ := slv_lit h10
    exact ⟨y0, y1, y2, x0, x1, x2, x3, (x4, x5, x6, x7, x8), A, n, d, B, p, q, rfl, h3, a1, a2, a3, a4⟩
end
theorem put_lit (ts : List Value) (ds : List Deferred) (d : Nat) (v : Value) : Act.put ⟨ts.toArray, ds⟩ (some d) v = ⟨(ts.set d v).toArray, ds⟩ := by simp [Act.put]
theorem put_lit0 (ts : List Value) (ds : List Deferred) (v : Value) : Act.put ⟨ts.toArray, ds⟩ none v = ⟨ts.toArray, ds⟩ := rfl
theorem at_dst {Pg : Program} {o : Oper} {a : Act} {w : World} {K : Act → World → Prop} {Q : Exit → Act → World → Prop} (d : Nat) (hd : o.dst = some d) (h : o.wp Pg a w K Q) : o.wp Pg a w K Q := h
theorem at_store {Pg : Program} {o : Oper} {a : Act} {w : World} {K : Act → World → Prop} {Q : Exit → Act → World → Prop} {t : TypeId} {x y : Operand} (ho : o.op = .store t y x) (h : o.wp Pg a w K Q) : o.wp Pg a w K Q := h
def noP : List Value → Prop := fun _ => True
def objs (L : List LE) : List (Nat × Obj) := L.map fun x => (x.1, .cells x.2.2.toArray x.2.1 (0, 0))
theorem St.ms {k : Bs} {P T D : Nat} {c : Cx} {L : List LE} {V : List VE} {w : World} (h : St k P T D c L V w) : MS (objs L) w := fun x hx => by
  obtain ⟨y, hy, rfl⟩ := List.mem_map.1 hx
  exact (h.bx y hy).1
theorem St.msX {k : Bs} {P T D : Nat} {c : Cx} {L : List LE} {V : List VE} {w : World} (h : St k P T D c L V w) (i : Nat) : MS (objs (L.eraseIdx i)) w := fun x hx => by
  obtain ⟨y, hy, rfl⟩ := List.mem_map.1 hx
  exact (h.bx y (List.mem_of_mem_eraseIdx hy)).1
theorem St.fin {c0 c : Cx} {w0 w : World} {P T D : Nat} {L : List LE} {V : List VE} (h : St ⟨c0, w0, none⟩ P T D c L V w) : Ext w0.heap.size c0 c ∧ TW T D c w ∧ Below w0.heap.size w0 w :=
  ⟨h.ext, h.tw, h.on.toBelow (Nat.le_refl _) (fun k hk => by cases hk)⟩
theorem wp_region_St {Pg : Program} {id : Nat} {a : Act} {w : World} {l : List Oper} {Q : Exit → Act → World → Prop} {k : Bs} {P T D : Nat} {c : Cx} {L : List LE} {V : List VE} (hS : St k P T D c L V w) (zs : List TypeId) (et sl : List Tmp) (la : Nat) (t : OrdF) (hz : sizedB Pg zs = true) (hm : Pg.follows .mixedOrders = true)
    (hB : (Region.noSelect l.toArray && decide (t.len = l.length) && okOF zs .any l.toArray et sl la t (Array.replicate l.length false)) = true)
    (h : wpOF Pg l.toArray (MS (objs L)) et sl la (fun a' w' => Q .normal a' w') t a w.drew) : (Code.region id l.toArray true).wp Pg Q a w := wp_region_OF (MS (objs L)) zs et sl la t hz hm hB hS.drew.ms h
theorem wp_region_StX {Pg : Program} {id : Nat} {a : Act} {w : World} {l : List Oper} {Q : Exit → Act → World → Prop} {k : Bs} {P T D : Nat} {c : Cx} {L : List LE} {V : List VE} (hS : St k P T D c L V w) (i : Nat) (zs : List TypeId) (et sl : List Tmp) (la : Nat) (t : OrdF) (hz : sizedB Pg zs = true) (hm : Pg.follows .mixedOrders = true)
    (hB : (Region.noSelect l.toArray && decide (t.len = l.length) && okOF zs .any l.toArray et sl la t (Array.replicate l.length false)) = true)
    (h : wpOF Pg l.toArray (MS (objs (L.eraseIdx i))) et sl la (fun a' w' => Q .normal a' w') t a w.drew) : (Code.region id l.toArray true).wp Pg Q a w := wp_region_OF (MS (objs (L.eraseIdx i))) zs et sl la t hz hm hB (hS.drew.msX i) h
theorem wpT_split {Pg : Program} {l : List Oper} {S : World → Prop} {et sl : List Tmp} {QT : Act → World → Prop} {o : Oper} {rest : List Oper} {ts : List Value} {ds : List Deferred} {w : World} {j : Nat} {want : Bool} {t : Tmp} {x : Bool} (hg : o.guard = some (j, want)) (hd : (l[j]?).bind (·.dst) = some t) (ht : ts[t]? = some (.bool x))
    (h1 : x = true → wpT Pg l.toArray S et sl QT (o :: rest) ⟨ts.toArray, ds⟩ w) (h2 : x = false → wpT Pg l.toArray S et sl QT (o :: rest) ⟨ts.toArray, ds⟩ w) : wpT Pg l.toArray S et sl QT (o :: rest) ⟨ts.toArray, ds⟩ w := by
  cases x
  · exact h2 rfl
  · exact h1 rfl
section
variable {α : Type} {x0 x1 x2 x3 x4 x5 x6 : α} {l : List α}
theorem ix0 : (x0 :: l)[0]? = some x0 := rfl
theorem ix1 : (x0 :: x1 :: l)[1]? = some x1 := rfl
theorem ix2 : (x0 :: x1 :: x2 :: l)[2]? = some x2 := rfl
theorem ix3 : (x0 :: x1 :: x2 :: x3 :: l)[3]? = some x3 := rfl
theorem ix4 : (x0 :: x1 :: x2 :: x3 :: x4 :: l)[4]? = some x4 := rfl
theorem ix5 : (x0 :: x1 :: x2 :: x3 :: x4 :: x5 :: l)[5]? = some x5 := rfl
theorem ix6 : (x0 :: x1 :: x2 :: x3 :: x4 :: x5 :: x6 :: l)[6]? = some x6 := rfl
end
section
variable {Q P : Prop}
theorem aB (k : Q) (h : Lft Q → P := by first | (intro k_; ((with_reducible apply wp_boxT hS); (focus rfl); (focus rfl); (focus (exact tyA)); intro b w hS hz; clear hz; (refine no_implicit_lambda% (fct ?_)); intro hc ht hv); revert hv; revert ht; revert hc; revert hS; revert w; revert b; with_reducible exact k_.out) | fail) : P := h ⟨k⟩
theorem abzM (k : Q) (h : Lft Q → P := by first | (intro k_; ((with_reducible apply wp_allocB hS); (focus rfl); (focus exact inM); (focus rfl); (focus exact zoM _ _ _); intro b w hS hbl; (refine no_implicit_lambda% (fct ?_)); intro hc ht hv); revert hv; revert ht; revert hc; revert hbl; revert hS; revert w; revert b; with_reducible exact k_.out) | fail) : P := h ⟨k⟩
theorem abzR (k : Q) (h : Lft Q → P := by first | (intro k_; ((with_reducible apply wp_allocB hS); (focus rfl); (focus exact inR); (focus rfl); (focus exact zoR _ _ _); intro b w hS hbl; (refine no_implicit_lambda% (fct ?_)); intro hc ht hv); revert hv; revert ht; revert hc; revert hbl; revert hS; revert w; revert b; with_reducible exact k_.out) | fail) : P := h ⟨k⟩
theorem alzC (k : Q) (h : Lft Q → P := by first | (intro k_; ((with_reducible apply wp_allocT hS); (focus rfl); (focus exact inC); (focus rfl); (focus exact zoC _ _ _); intro b w hS hz; clear hz; (refine no_implicit_lambda% (fct ?_)); intro hc ht hv); revert hv; revert ht; revert hc; revert hS; revert w; revert b; with_reducible exact k_.out) | fail) : P := h ⟨k⟩
theorem alzE (k : Q) (h : Lft Q → P := by first | (intro k_; ((with_reducible apply wp_allocT hS); (focus rfl); (focus exact inE); (focus rfl); (focus exact zoE _ _ _); intro b w hS hz; clear hz; (refine no_implicit_lambda% (fct ?_)); intro hc ht hv); revert hv; revert ht; revert hc; revert hS; revert w; revert b; with_reducible exact k_.out) | fail) : P := h ⟨k⟩
theorem alzM (k : Q) (h : Lft Q → P := by first | (intro k_; ((with_reducible apply wp_allocT hS); (focus rfl); (focus exact inM); (focus rfl); (focus exact zoM _ _ _); intro b w hS hz; clear hz; (refine no_implicit_lambda% (fct ?_)); intro hc ht hv); revert hv; revert ht; revert hc; revert hS; revert w; revert b; with_reducible exact k_.out) | fail) : P := h ⟨k⟩
theorem alzQ (k : Q) (h : Lft Q → P := by first | (intro k_; ((with_reducible apply wp_allocT hS); (focus rfl); (focus exact inQ); (focus rfl); (focus exact zoQ _ _ _); intro b w hS hz; clear hz; (refine no_implicit_lambda% (fct ?_)); intro hc ht hv); revert hv; revert ht; revert hc; revert hS; revert w; revert b; with_reducible exact k_.out) | fail) : P := h ⟨k⟩
theorem alzR (k : Q) (h : Lft Q → P := by first | (intro k_; ((with_reducible apply wp_allocT hS); (focus rfl); (focus exact inR); (focus rfl); (focus exact zoR _ _ _); intro b w hS hz; clear hz; (refine no_implicit_lambda% (fct ?_)); intro hc ht hv); revert hv; revert ht; revert hc; revert hS; revert w; revert b; with_reducible exact k_.out) | fail) : P := h ⟨k⟩
theorem alzV (k : Q) (h : Lft Q → P := by first | (intro k_; ((with_reducible apply wp_allocT hS); (focus rfl); (focus exact inV); (focus rfl); (focus exact zoV _ _ _); intro b w hS hz; clear hz; (refine no_implicit_lambda% (fct ?_)); intro hc ht hv); revert hv; revert ht; revert hc; revert hS; revert w; revert b; with_reducible exact k_.out) | fail) : P := h ⟨k⟩
theorem alzW (k : Q) (h : Lft Q → P := by first | (intro k_; ((with_reducible apply wp_allocT hS); (focus rfl); (focus exact inW); (focus rfl); (focus exact zoW _ _ _); intro b w hS hz; clear hz; (refine no_implicit_lambda% (fct ?_)); intro hc ht hv); revert hv; revert ht; revert hc; revert hS; revert w; revert b; with_reducible exact k_.out) | fail) : P := h ⟨k⟩
theorem apzC (k : Q) (h : Lft Q → P := by first | (intro k_; ((with_reducible apply wp_appT hS _); (focus rfl); (focus exact Tryz.underlying29); (focus rfl); (focus (first | exact ix0 | exact ix1 | exact ix2 | exact ix3 | exact ix4 | exact ix5 | exact ix6)); (focus rfl); (focus exact inC); (focus exact zoC); (focus decide); (focus (exact slA)); (focus (first | exact hS.partsV (j := 0) rfl | exact hS.partsV (j := 1) rfl | exact hS.partsV (j := 2) rfl | exact hS.tw.parts (by decide) (by (exact slA)))); (focus (unfold maxLen; omega)); intro c A d w hS hx; (try simp only [List.set_cons_zero, List.set_cons_succ, Nat.zero_add] at hS); (refine no_implicit_lambda% (fct ?_)); intro hc ht hv); revert hv; revert ht; revert hc; revert hx; revert hS; revert w; revert d; revert A; revert c; with_reducible exact k_.out) | fail) : P := h ⟨k⟩
theorem apzE (k : Q) (h : Lft Q → P := by first | (intro k_; ((with_reducible apply wp_appT hS _); (focus rfl); (focus exact Tryz.underlying62); (focus rfl); (focus (first | exact ix0 | exact ix1 | exact ix2 | exact ix3 | exact ix4 | exact ix5 | exact ix6)); (focus rfl); (focus exact inE); (focus exact zoE); (focus decide); (focus (exact slA)); (focus (first | exact hS.partsV (j := 0) rfl | exact hS.partsV (j := 1) rfl | exact hS.partsV (j := 2) rfl | exact hS.tw.parts (by decide) (by (exact slA)))); (focus (unfold maxLen; omega)); intro c A d w hS hx; (try simp only [List.set_cons_zero, List.set_cons_succ, Nat.zero_add] at hS); (refine no_implicit_lambda% (fct ?_)); intro hc ht hv); revert hv; revert ht; revert hc; revert hx; revert hS; revert w; revert d; revert A; revert c; with_reducible exact k_.out) | fail) : P := h ⟨k⟩
theorem apzM (k : Q) (h : Lft Q → P := by first | (intro k_; ((with_reducible apply wp_appT hS _); (focus rfl); (focus exact Tryz.underlying24); (focus rfl); (focus (first | exact ix0 | exact ix1 | exact ix2 | exact ix3 | exact ix4 | exact ix5 | exact ix6)); (focus rfl); (focus exact inM); (focus exact zoM); (focus decide); (focus (exact slA)); (focus (first | exact hS.partsV (j := 0) rfl | exact hS.partsV (j := 1) rfl | exact hS.partsV (j := 2) rfl | exact hS.tw.parts (by decide) (by (exact slA)))); (focus (unfold maxLen; omega)); intro c A d w hS hx; (try simp only [List.set_cons_zero, List.set_cons_succ, Nat.zero_add] at hS); (refine no_implicit_lambda% (fct ?_)); intro hc ht hv); revert hv; revert ht; revert hc; revert hx; revert hS; revert w; revert d; revert A; revert c; with_reducible exact k_.out) | fail) : P := h ⟨k⟩
theorem apzMb (k : Q) (h : Lft Q → P := by first | (intro k_; ((with_reducible apply wp_appT hS _); (focus rfl); (focus exact Tryz.underlying24); (focus rfl); (focus (first | exact ix0 | exact ix1 | exact ix2 | exact ix3 | exact ix4 | exact ix5 | exact ix6)); (focus rfl); (focus exact inM); (focus exact zoM); (focus decide); (focus (exact slA)); (focus (first | exact hS.oldBare (by assumption) | exact hS.partsV (j := 0) rfl | exact hS.partsV (j := 1) rfl | exact hS.partsV (j := 2) rfl | exact hS.tw.parts (by decide) (by (exact slA)))); (focus (unfold maxLen; omega)); intro c A d w hS hx; (try simp only [List.set_cons_zero, List.set_cons_succ, Nat.zero_add] at hS); (refine no_implicit_lambda% (fct ?_)); intro hc ht hv); revert hv; revert ht; revert hc; revert hx; revert hS; revert w; revert d; revert A; revert c; with_reducible exact k_.out) | fail) : P := h ⟨k⟩
theorem apzQ (k : Q) (h : Lft Q → P := by first | (intro k_; ((with_reducible apply wp_appT hS _); (focus rfl); (focus exact Tryz.underlying114); (focus rfl); (focus (first | exact ix0 | exact ix1 | exact ix2 | exact ix3 | exact ix4 | exact ix5 | exact ix6)); (focus rfl); (focus exact inQ); (focus exact zoQ); (focus decide); (focus (exact slA)); (focus (first | exact hS.partsV (j := 0) rfl | exact hS.partsV (j := 1) rfl | exact hS.partsV (j := 2) rfl | exact hS.tw.parts (by decide) (by (exact slA)))); (focus (unfold maxLen; omega)); intro c A d w hS hx; (try simp only [List.set_cons_zero, List.set_cons_succ, Nat.zero_add] at hS); (refine no_implicit_lambda% (fct ?_)); intro hc ht hv); revert hv; revert ht; revert hc; revert hx; revert hS; revert w; revert d; revert A; revert c; with_reducible exact k_.out) | fail) : P := h ⟨k⟩
theorem apzR (k : Q) (h : Lft Q → P := by first | (intro k_; ((with_reducible apply wp_appT hS _); (focus rfl); (focus exact Tryz.underlying23); (focus rfl); (focus (first | exact ix0 | exact ix1 | exact ix2 | exact ix3 | exact ix4 | exact ix5 | exact ix6)); (focus rfl); (focus exact inR); (focus exact zoR); (focus decide); (focus (exact slA)); (focus (first | exact hS.partsV (j := 0) rfl | exact hS.partsV (j := 1) rfl | exact hS.partsV (j := 2) rfl | exact hS.tw.parts (by decide) (by (exact slA)))); (focus (unfold maxLen; omega)); intro c A d w hS hx; (try simp only [List.set_cons_zero, List.set_cons_succ, Nat.zero_add] at hS); (refine no_implicit_lambda% (fct ?_)); intro hc ht hv); revert hv; revert ht; revert hc; revert hx; revert hS; revert w; revert d; revert A; revert c; with_reducible exact k_.out) | fail) : P := h ⟨k⟩
theorem apzV (k : Q) (h : Lft Q → P := by first | (intro k_; ((with_reducible apply wp_appT hS _); (focus rfl); (focus exact Tryz.underlying44); (focus rfl); (focus (first | exact ix0 | exact ix1 | exact ix2 | exact ix3 | exact ix4 | exact ix5 | exact ix6)); (focus rfl); (focus exact inV); (focus exact zoV); (focus decide); (focus (exact slA)); (focus (first | exact hS.partsV (j := 0) rfl | exact hS.partsV (j := 1) rfl | exact hS.partsV (j := 2) rfl | exact hS.tw.parts (by decide) (by (exact slA)))); (focus (unfold maxLen; omega)); intro c A d w hS hx; (try simp only [List.set_cons_zero, List.set_cons_succ, Nat.zero_add] at hS); (refine no_implicit_lambda% (fct ?_)); intro hc ht hv); revert hv; revert ht; revert hc; revert hx; revert hS; revert w; revert d; revert A; revert c; with_reducible exact k_.out) | fail) : P := h ⟨k⟩
theorem bpA (h : P := by first | (first | exact hbare | exact hbare rfl | exact hbare (by assumption) | (exact hbare (by (simp [bareP]; done))) | (simp [bareP]; done) | (simp [bareP]; omega) | (intro h5; simp at h5)) | fail) : P := h
theorem brA (h : P := by first | (first | exact hS.oldBare (by assumption) | exact hS.bareV (j := 0) rfl | exact hS.bareV (j := 1) rfl | exact hS.bareV (j := 2) rfl | exact hS.bareV (j := 3) rfl | exact BareS.nil_ _ _) | fail) : P := h
theorem fRM10 (h : P := by first | (((try simp only [Exit.inBlock, Exit.then]); first | exact bodyPost_ret (results_ct (e := 31) rfl hS 0 rfl inR (aggR _) rfl rfl) rfl (hS.prm 0 0 rfl rfl (by omega)) | exact bodyPost_ret (results_ct (e := 31) rfl hS 0 rfl inR (aggR _) rfl rfl) rfl (hS.prm 0 1 rfl rfl (by omega)) | exact bodyPost_ret (results_ct (e := 31) rfl hS 0 rfl inR (aggR _) rfl rfl) rfl (hS.prm 0 2 rfl rfl (by omega)) | exact bodyPost_ret (results_ct (e := 31) rfl hS 1 rfl inR (aggR _) rfl rfl) rfl (hS.prm 1 0 rfl rfl (by omega)) | exact bodyPost_ret (results_ct (e := 31) rfl hS 1 rfl inR (aggR _) rfl rfl) rfl (hS.prm 1 1 rfl rfl (by omega)) | exact bodyPost_ret (results_ct (e := 31) rfl hS 1 rfl inR (aggR _) rfl rfl) rfl (hS.prm 1 2 rfl rfl (by omega)) | exact bodyPost_ret (results_ct (e := 31) rfl hS 2 rfl inR (aggR _) rfl rfl) rfl (hS.prm 2 0 rfl rfl (by omega)) | exact bodyPost_ret (results_ct (e := 31) rfl hS 2 rfl inR (aggR _) rfl rfl) rfl (hS.prm 2 1 rfl rfl (by omega)) | exact bodyPost_ret (results_ct (e := 31) rfl hS 2 rfl inR (aggR _) rfl rfl) rfl (hS.prm 2 2 rfl rfl (by omega)) | exact bodyPost_ret (results_ct (e := 31) rfl hS 3 rfl inR (aggR _) rfl rfl) rfl (hS.prm 3 0 rfl rfl (by omega)) | exact bodyPost_ret (results_ct (e := 31) rfl hS 3 rfl inR (aggR _) rfl rfl) rfl (hS.prm 3 1 rfl rfl (by omega)) | exact bodyPost_ret (results_ct (e := 31) rfl hS 3 rfl inR (aggR _) rfl rfl) rfl (hS.prm 3 2 rfl rfl (by omega)) | exact bodyPost_ret (results_ct (e := 31) rfl hS 0 rfl inR (aggR _) rfl rfl) rfl ((hS.raise (show T ≤ T + 100 by omega) (Nat.le_refl D)).prm0 0 rfl) | exact bodyPost_ret (results_ct (e := 31) rfl hS 1 rfl inR (aggR _) rfl rfl) rfl ((hS.raise (show T ≤ T + 100 by omega) (Nat.le_refl D)).prm0 1 rfl) | exact bodyPost_ret (results_ct (e := 31) rfl hS 2 rfl inR (aggR _) rfl rfl) rfl ((hS.raise (show T ≤ T + 100 by omega) (Nat.le_refl D)).prm0 2 rfl) | exact bodyPost_ret (results_ct (e := 31) rfl hS 3 rfl inR (aggR _) rfl rfl) rfl ((hS.raise (show T ≤ T + 100 by omega) (Nat.le_refl D)).prm0 3 rfl))) | fail) : P := h
theorem fRM4_3 (h : P := by first | (((try simp only [Exit.inBlock, Exit.then]); first | exact bodyPost_ret (results_ct (e := 31) rfl hS 0 rfl inR (aggR _) rfl rfl) rfl (hS.prm 0 0 rfl rfl (by omega)) | exact bodyPost_ret (results_ct (e := 31) rfl hS 0 rfl inR (aggR _) rfl rfl) rfl (hS.prm 0 1 rfl rfl (by omega)) | exact bodyPost_ret (results_ct (e := 31) rfl hS 0 rfl inR (aggR _) rfl rfl) rfl (hS.prm 0 2 rfl rfl (by omega)) | exact bodyPost_ret (results_ct (e := 31) rfl hS 1 rfl inR (aggR _) rfl rfl) rfl (hS.prm 1 0 rfl rfl (by omega)) | exact bodyPost_ret (results_ct (e := 31) rfl hS 1 rfl inR (aggR _) rfl rfl) rfl (hS.prm 1 1 rfl rfl (by omega)) | exact bodyPost_ret (results_ct (e := 31) rfl hS 1 rfl inR (aggR _) rfl rfl) rfl (hS.prm 1 2 rfl rfl (by omega)) | exact bodyPost_ret (results_ct (e := 31) rfl hS 2 rfl inR (aggR _) rfl rfl) rfl (hS.prm 2 0 rfl rfl (by omega)) | exact bodyPost_ret (results_ct (e := 31) rfl hS 2 rfl inR (aggR _) rfl rfl) rfl (hS.prm 2 1 rfl rfl (by omega)) | exact bodyPost_ret (results_ct (e := 31) rfl hS 2 rfl inR (aggR _) rfl rfl) rfl (hS.prm 2 2 rfl rfl (by omega)) | exact bodyPost_ret (results_ct (e := 31) rfl hS 3 rfl inR (aggR _) rfl rfl) rfl (hS.prm 3 0 rfl rfl (by omega)) | exact bodyPost_ret (results_ct (e := 31) rfl hS 3 rfl inR (aggR _) rfl rfl) rfl (hS.prm 3 1 rfl rfl (by omega)) | exact bodyPost_ret (results_ct (e := 31) rfl hS 3 rfl inR (aggR _) rfl rfl) rfl (hS.prm 3 2 rfl rfl (by omega)) | exact bodyPost_ret (results_ct (e := 31) rfl hS 0 rfl inR (aggR _) rfl rfl) rfl (hS.prm0 0 rfl) | exact bodyPost_ret (results_ct (e := 31) rfl hS 1 rfl inR (aggR _) rfl rfl) rfl (hS.prm0 1 rfl) | exact bodyPost_ret (results_ct (e := 31) rfl hS 2 rfl inR (aggR _) rfl rfl) rfl (hS.prm0 2 rfl) | exact bodyPost_ret (results_ct (e := 31) rfl hS 3 rfl inR (aggR _) rfl rfl) rfl (hS.prm0 3 rfl))) | fail) : P := h
theorem fRM8 (h : P := by first | (((try simp only [Exit.inBlock, Exit.then]); first | exact bodyPost_ret (results_ct (e := 31) rfl hS 0 rfl inR (aggR _) rfl rfl) rfl (hS.prm 0 0 rfl rfl (by omega)) | exact bodyPost_ret (results_ct (e := 31) rfl hS 0 rfl inR (aggR _) rfl rfl) rfl (hS.prm 0 1 rfl rfl (by omega)) | exact bodyPost_ret (results_ct (e := 31) rfl hS 0 rfl inR (aggR _) rfl rfl) rfl (hS.prm 0 2 rfl rfl (by omega)) | exact bodyPost_ret (results_ct (e := 31) rfl hS 1 rfl inR (aggR _) rfl rfl) rfl (hS.prm 1 0 rfl rfl (by omega)) | exact bodyPost_ret (results_ct (e := 31) rfl hS 1 rfl inR (aggR _) rfl rfl) rfl (hS.prm 1 1 rfl rfl (by omega)) | exact bodyPost_ret (results_ct (e := 31) rfl hS 1 rfl inR (aggR _) rfl rfl) rfl (hS.prm 1 2 rfl rfl (by omega)) | exact bodyPost_ret (results_ct (e := 31) rfl hS 2 rfl inR (aggR _) rfl rfl) rfl (hS.prm 2 0 rfl rfl (by omega)) | exact bodyPost_ret (results_ct (e := 31) rfl hS 2 rfl inR (aggR _) rfl rfl) rfl (hS.prm 2 1 rfl rfl (by omega)) | exact bodyPost_ret (results_ct (e := 31) rfl hS 2 rfl inR (aggR _) rfl rfl) rfl (hS.prm 2 2 rfl rfl (by omega)) | exact bodyPost_ret (results_ct (e := 31) rfl hS 3 rfl inR (aggR _) rfl rfl) rfl (hS.prm 3 0 rfl rfl (by omega)) | exact bodyPost_ret (results_ct (e := 31) rfl hS 3 rfl inR (aggR _) rfl rfl) rfl (hS.prm 3 1 rfl rfl (by omega)) | exact bodyPost_ret (results_ct (e := 31) rfl hS 3 rfl inR (aggR _) rfl rfl) rfl (hS.prm 3 2 rfl rfl (by omega)) | exact bodyPost_ret (results_ct (e := 31) rfl hS 0 rfl inR (aggR _) rfl rfl) rfl ((hS.raise (Nat.le_succ T) (Nat.le_refl D)).prm0 0 rfl) | exact bodyPost_ret (results_ct (e := 31) rfl hS 1 rfl inR (aggR _) rfl rfl) rfl ((hS.raise (Nat.le_succ T) (Nat.le_refl D)).prm0 1 rfl) | exact bodyPost_ret (results_ct (e := 31) rfl hS 2 rfl inR (aggR _) rfl rfl) rfl ((hS.raise (Nat.le_succ T) (Nat.le_refl D)).prm0 2 rfl) | exact bodyPost_ret (results_ct (e := 31) rfl hS 3 rfl inR (aggR _) rfl rfl) rfl ((hS.raise (Nat.le_succ T) (Nat.le_refl D)).prm0 3 rfl))) | fail) : P := h
theorem fRMr4_3 (h : P := by first | (((try simp only [Exit.inBlock, Exit.then]); first | exact bodyPost_ret (results_ct (e := 31) rfl hS 0 rfl inR (aggR _) rfl rfl) rfl ((hS.raise (by omega) (by omega)).prm 0 0 rfl rfl (by omega)) | exact bodyPost_ret (results_ct (e := 31) rfl hS 0 rfl inR (aggR _) rfl rfl) rfl ((hS.raise (by omega) (by omega)).prm 0 1 rfl rfl (by omega)) | exact bodyPost_ret (results_ct (e := 31) rfl hS 0 rfl inR (aggR _) rfl rfl) rfl ((hS.raise (by omega) (by omega)).prm 0 2 rfl rfl (by omega)) | exact bodyPost_ret (results_ct (e := 31) rfl hS 1 rfl inR (aggR _) rfl rfl) rfl ((hS.raise (by omega) (by omega)).prm 1 0 rfl rfl (by omega)) | exact bodyPost_ret (results_ct (e := 31) rfl hS 1 rfl inR (aggR _) rfl rfl) rfl ((hS.raise (by omega) (by omega)).prm 1 1 rfl rfl (by omega)) | exact bodyPost_ret (results_ct (e := 31) rfl hS 1 rfl inR (aggR _) rfl rfl) rfl ((hS.raise (by omega) (by omega)).prm 1 2 rfl rfl (by omega)) | exact bodyPost_ret (results_ct (e := 31) rfl hS 2 rfl inR (aggR _) rfl rfl) rfl ((hS.raise (by omega) (by omega)).prm 2 0 rfl rfl (by omega)) | exact bodyPost_ret (results_ct (e := 31) rfl hS 2 rfl inR (aggR _) rfl rfl) rfl ((hS.raise (by omega) (by omega)).prm 2 1 rfl rfl (by omega)) | exact bodyPost_ret (results_ct (e := 31) rfl hS 2 rfl inR (aggR _) rfl rfl) rfl ((hS.raise (by omega) (by omega)).prm 2 2 rfl rfl (by omega)) | exact bodyPost_ret (results_ct (e := 31) rfl hS 3 rfl inR (aggR _) rfl rfl) rfl ((hS.raise (by omega) (by omega)).prm 3 0 rfl rfl (by omega)) | exact bodyPost_ret (results_ct (e := 31) rfl hS 3 rfl inR (aggR _) rfl rfl) rfl ((hS.raise (by omega) (by omega)).prm 3 1 rfl rfl (by omega)) | exact bodyPost_ret (results_ct (e := 31) rfl hS 3 rfl inR (aggR _) rfl rfl) rfl ((hS.raise (by omega) (by omega)).prm 3 2 rfl rfl (by omega)) | exact bodyPost_ret (results_ct (e := 31) rfl hS 0 rfl inR (aggR _) rfl rfl) rfl ((hS.raise (by omega) (by omega)).prm0 0 rfl) | exact bodyPost_ret (results_ct (e := 31) rfl hS 1 rfl inR (aggR _) rfl rfl) rfl ((hS.raise (by omega) (by omega)).prm0 1 rfl) | exact bodyPost_ret (results_ct (e := 31) rfl hS 2 rfl inR (aggR _) rfl rfl) rfl ((hS.raise (by omega) (by omega)).prm0 2 rfl) | exact bodyPost_ret (results_ct (e := 31) rfl hS 3 rfl inR (aggR _) rfl rfl) rfl ((hS.raise (by omega) (by omega)).prm0 3 rfl))) | fail) : P := h
theorem fRMr4_6 (h : P := by first | (((try simp only [Exit.inBlock, Exit.then]); first | exact bodyPost_ret (results_ct (e := 31) rfl hS 0 rfl inR (aggR _) rfl rfl) rfl ((hS.raise (by omega) (by omega)).prm 0 0 rfl rfl (by omega)) | exact bodyPost_ret (results_ct (e := 31) rfl hS 0 rfl inR (aggR _) rfl rfl) rfl ((hS.raise (by omega) (by omega)).prm 0 1 rfl rfl (by omega)) | exact bodyPost_ret (results_ct (e := 31) rfl hS 0 rfl inR (aggR _) rfl rfl) rfl ((hS.raise (by omega) (by omega)).prm 0 2 rfl rfl (by omega)) | exact bodyPost_ret (results_ct (e := 31) rfl hS 0 rfl inR (aggR _) rfl rfl) rfl ((hS.raise (by omega) (by omega)).prm 0 3 rfl rfl (by omega)) | exact bodyPost_ret (results_ct (e := 31) rfl hS 0 rfl inR (aggR _) rfl rfl) rfl ((hS.raise (by omega) (by omega)).prm 0 4 rfl rfl (by omega)) | exact bodyPost_ret (results_ct (e := 31) rfl hS 0 rfl inR (aggR _) rfl rfl) rfl ((hS.raise (by omega) (by omega)).prm 0 5 rfl rfl (by omega)) | exact bodyPost_ret (results_ct (e := 31) rfl hS 1 rfl inR (aggR _) rfl rfl) rfl ((hS.raise (by omega) (by omega)).prm 1 0 rfl rfl (by omega)) | exact bodyPost_ret (results_ct (e := 31) rfl hS 1 rfl inR (aggR _) rfl rfl) rfl ((hS.raise (by omega) (by omega)).prm 1 1 rfl rfl (by omega)) | exact bodyPost_ret (results_ct (e := 31) rfl hS 1 rfl inR (aggR _) rfl rfl) rfl ((hS.raise (by omega) (by omega)).prm 1 2 rfl rfl (by omega)) | exact bodyPost_ret (results_ct (e := 31) rfl hS 1 rfl inR (aggR _) rfl rfl) rfl ((hS.raise (by omega) (by omega)).prm 1 3 rfl rfl (by omega)) | exact bodyPost_ret (results_ct (e := 31) rfl hS 1 rfl inR (aggR _) rfl rfl) rfl ((hS.raise (by omega) (by omega)).prm 1 4 rfl rfl (by omega)) | exact bodyPost_ret (results_ct (e := 31) rfl hS 1 rfl inR (aggR _) rfl rfl) rfl ((hS.raise (by omega) (by omega)).prm 1 5 rfl rfl (by omega)) | exact bodyPost_ret (results_ct (e := 31) rfl hS 2 rfl inR (aggR _) rfl rfl) rfl ((hS.raise (by omega) (by omega)).prm 2 0 rfl rfl (by omega)) | exact bodyPost_ret (results_ct (e := 31) rfl hS 2 rfl inR (aggR _) rfl rfl) rfl ((hS.raise (by omega) (by omega)).prm 2 1 rfl rfl (by omega)) | exact bodyPost_ret (results_ct (e := 31) rfl hS 2 rfl inR (aggR _) rfl rfl) rfl ((hS.raise (by omega) (by omega)).prm 2 2 rfl rfl (by omega)) | exact bodyPost_ret (results_ct (e := 31) rfl hS 2 rfl inR (aggR _) rfl rfl) rfl ((hS.raise (by omega) (by omega)).prm 2 3 rfl rfl (by omega)) | exact bodyPost_ret (results_ct (e := 31) rfl hS 2 rfl inR (aggR _) rfl rfl) rfl ((hS.raise (by omega) (by omega)).prm 2 4 rfl rfl (by omega)) | exact bodyPost_ret (results_ct (e := 31) rfl hS 2 rfl inR (aggR _) rfl rfl) rfl ((hS.raise (by omega) (by omega)).prm 2 5 rfl rfl (by omega)) | exact bodyPost_ret (results_ct (e := 31) rfl hS 3 rfl inR (aggR _) rfl rfl) rfl ((hS.raise (by omega) (by omega)).prm 3 0 rfl rfl (by omega)) | exact bodyPost_ret (results_ct (e := 31) rfl hS 3 rfl inR (aggR _) rfl rfl) rfl ((hS.raise (by omega) (by omega)).prm 3 1 rfl rfl (by omega)) | exact bodyPost_ret (results_ct (e := 31) rfl hS 3 rfl inR (aggR _) rfl rfl) rfl ((hS.raise (by omega) (by omega)).prm 3 2 rfl rfl (by omega)) | exact bodyPost_ret (results_ct (e := 31) rfl hS 3 rfl inR (aggR _) rfl rfl) rfl ((hS.raise (by omega) (by omega)).prm 3 3 rfl rfl (by omega)) | exact bodyPost_ret (results_ct (e := 31) rfl hS 3 rfl inR (aggR _) rfl rfl) rfl ((hS.raise (by omega) (by omega)).prm 3 4 rfl rfl (by omega)) | exact bodyPost_ret (results_ct (e := 31) rfl hS 3 rfl inR (aggR _) rfl rfl) rfl ((hS.raise (by omega) (by omega)).prm 3 5 rfl rfl (by omega)) | exact bodyPost_ret (results_ct (e := 31) rfl hS 0 rfl inR (aggR _) rfl rfl) rfl ((hS.raise (by omega) (by omega)).prm0 0 rfl) | exact bodyPost_ret (results_ct (e := 31) rfl hS 1 rfl inR (aggR _) rfl rfl) rfl ((hS.raise (by omega) (by omega)).prm0 1 rfl) | exact bodyPost_ret (results_ct (e := 31) rfl hS 2 rfl inR (aggR _) rfl rfl) rfl ((hS.raise (by omega) (by omega)).prm0 2 rfl) | exact bodyPost_ret (results_ct (e := 31) rfl hS 3 rfl inR (aggR _) rfl rfl) rfl ((hS.raise (by omega) (by omega)).prm0 3 rfl))) | fail) : P := h
theorem fRep4 (h : P := by first | (((try simp only [Exit.inBlock, Exit.then]); first | exact bodyPost_ret (results_c (e := 31) rfl hS 0 rfl inR (aggR _) rfl) rfl (PRep.mk rfl (hS.ty 0 rfl) hS.fin) | exact bodyPost_ret (results_c (e := 31) rfl hS 1 rfl inR (aggR _) rfl) rfl (PRep.mk rfl (hS.ty 1 rfl) hS.fin) | exact bodyPost_ret (results_c (e := 31) rfl hS 2 rfl inR (aggR _) rfl) rfl (PRep.mk rfl (hS.ty 2 rfl) hS.fin) | exact bodyPost_ret (results_c (e := 31) rfl hS 3 rfl inR (aggR _) rfl) rfl (PRep.mk rfl (hS.ty 3 rfl) hS.fin))) | fail) : P := h
theorem fW4_3 (h : P := by first | (((try simp only [Exit.inBlock, Exit.then]); first | exact bodyPost_ret (results_c (e := 26) rfl hS 0 rfl inW (aggW _) rfl) rfl (hS.pwd 0 rfl (by (exact slA)) (by omega)) | exact bodyPost_ret (results_c (e := 26) rfl hS 0 rfl inW (aggW _) rfl) rfl (hS.pwd 1 rfl (by (exact slA)) (by omega)) | exact bodyPost_ret (results_c (e := 26) rfl hS 0 rfl inW (aggW _) rfl) rfl (hS.pwd 2 rfl (by (exact slA)) (by omega)) | exact bodyPost_ret (results_c (e := 26) rfl hS 1 rfl inW (aggW _) rfl) rfl (hS.pwd 0 rfl (by (exact slA)) (by omega)) | exact bodyPost_ret (results_c (e := 26) rfl hS 1 rfl inW (aggW _) rfl) rfl (hS.pwd 1 rfl (by (exact slA)) (by omega)) | exact bodyPost_ret (results_c (e := 26) rfl hS 1 rfl inW (aggW _) rfl) rfl (hS.pwd 2 rfl (by (exact slA)) (by omega)) | exact bodyPost_ret (results_c (e := 26) rfl hS 2 rfl inW (aggW _) rfl) rfl (hS.pwd 0 rfl (by (exact slA)) (by omega)) | exact bodyPost_ret (results_c (e := 26) rfl hS 2 rfl inW (aggW _) rfl) rfl (hS.pwd 1 rfl (by (exact slA)) (by omega)) | exact bodyPost_ret (results_c (e := 26) rfl hS 2 rfl inW (aggW _) rfl) rfl (hS.pwd 2 rfl (by (exact slA)) (by omega)) | exact bodyPost_ret (results_c (e := 26) rfl hS 3 rfl inW (aggW _) rfl) rfl (hS.pwd 0 rfl (by (exact slA)) (by omega)) | exact bodyPost_ret (results_c (e := 26) rfl hS 3 rfl inW (aggW _) rfl) rfl (hS.pwd 1 rfl (by (exact slA)) (by omega)) | exact bodyPost_ret (results_c (e := 26) rfl hS 3 rfl inW (aggW _) rfl) rfl (hS.pwd 2 rfl (by (exact slA)) (by omega)))) | fail) : P := h
theorem fWb3_3r (h : P := by first | (((try simp only [Exit.inBlock, Exit.then]); first | exact bodyPost_ret (results_ct (e := 26) rfl hS 0 rfl inW (aggW _) rfl rfl) rfl ((hS.raise (by omega) (by omega)).pwF) | exact bodyPost_ret (results_ct (e := 26) rfl hS 1 rfl inW (aggW _) rfl rfl) rfl ((hS.raise (by omega) (by omega)).pwF) | exact bodyPost_ret (results_ct (e := 26) rfl hS 2 rfl inW (aggW _) rfl rfl) rfl ((hS.raise (by omega) (by omega)).pwF) | exact bodyPost_ret (results_ct (e := 26) rfl hS 0 rfl inW (aggW _) rfl rfl) rfl ((hS.raise (by omega) (by omega)).pwT 0 rfl (by (exact slA)) (by omega)) | exact bodyPost_ret (results_ct (e := 26) rfl hS 0 rfl inW (aggW _) rfl rfl) rfl ((hS.raise (by omega) (by omega)).pwT 1 rfl (by (exact slA)) (by omega)) | exact bodyPost_ret (results_ct (e := 26) rfl hS 0 rfl inW (aggW _) rfl rfl) rfl ((hS.raise (by omega) (by omega)).pwT 2 rfl (by (exact slA)) (by omega)) | exact bodyPost_ret (results_ct (e := 26) rfl hS 1 rfl inW (aggW _) rfl rfl) rfl ((hS.raise (by omega) (by omega)).pwT 0 rfl (by (exact slA)) (by omega)) | exact bodyPost_ret (results_ct (e := 26) rfl hS 1 rfl inW (aggW _) rfl rfl) rfl ((hS.raise (by omega) (by omega)).pwT 1 rfl (by (exact slA)) (by omega)) | exact bodyPost_ret (results_ct (e := 26) rfl hS 1 rfl inW (aggW _) rfl rfl) rfl ((hS.raise (by omega) (by omega)).pwT 2 rfl (by (exact slA)) (by omega)) | exact bodyPost_ret (results_ct (e := 26) rfl hS 2 rfl inW (aggW _) rfl rfl) rfl ((hS.raise (by omega) (by omega)).pwT 0 rfl (by (exact slA)) (by omega)) | exact bodyPost_ret (results_ct (e := 26) rfl hS 2 rfl inW (aggW _) rfl rfl) rfl ((hS.raise (by omega) (by omega)).pwT 1 rfl (by (exact slA)) (by omega)) | exact bodyPost_ret (results_ct (e := 26) rfl hS 2 rfl inW (aggW _) rfl rfl) rfl ((hS.raise (by omega) (by omega)).pwT 2 rfl (by (exact slA)) (by omega)))) | fail) : P := h
theorem fWb4_3 (h : P := by first | (((try simp only [Exit.inBlock, Exit.then]); first | exact bodyPost_ret (results_ct (e := 26) rfl hS 0 rfl inW (aggW _) rfl rfl) rfl (hS.pwF) | exact bodyPost_ret (results_ct (e := 26) rfl hS 1 rfl inW (aggW _) rfl rfl) rfl (hS.pwF) | exact bodyPost_ret (results_ct (e := 26) rfl hS 2 rfl inW (aggW _) rfl rfl) rfl (hS.pwF) | exact bodyPost_ret (results_ct (e := 26) rfl hS 3 rfl inW (aggW _) rfl rfl) rfl (hS.pwF) | exact bodyPost_ret (results_ct (e := 26) rfl hS 0 rfl inW (aggW _) rfl rfl) rfl (hS.pwT 0 rfl (by (exact slA)) (by omega)) | exact bodyPost_ret (results_ct (e := 26) rfl hS 0 rfl inW (aggW _) rfl rfl) rfl (hS.pwT 1 rfl (by (exact slA)) (by omega)) | exact bodyPost_ret (results_ct (e := 26) rfl hS 0 rfl inW (aggW _) rfl rfl) rfl (hS.pwT 2 rfl (by (exact slA)) (by omega)) | exact bodyPost_ret (results_ct (e := 26) rfl hS 1 rfl inW (aggW _) rfl rfl) rfl (hS.pwT 0 rfl (by (exact slA)) (by omega)) | exact bodyPost_ret (results_ct (e := 26) rfl hS 1 rfl inW (aggW _) rfl rfl) rfl (hS.pwT 1 rfl (by (exact slA)) (by omega)) | exact bodyPost_ret (results_ct (e := 26) rfl hS 1 rfl inW (aggW _) rfl rfl) rfl (hS.pwT 2 rfl (by (exact slA)) (by omega)) | exact bodyPost_ret (results_ct (e := 26) rfl hS 2 rfl inW (aggW _) rfl rfl) rfl (hS.pwT 0 rfl (by (exact slA)) (by omega)) | exact bodyPost_ret (results_ct (e := 26) rfl hS 2 rfl inW (aggW _) rfl rfl) rfl (hS.pwT 1 rfl (by (exact slA)) (by omega)) | exact bodyPost_ret (results_ct (e := 26) rfl hS 2 rfl inW (aggW _) rfl rfl) rfl (hS.pwT 2 rfl (by (exact slA)) (by omega)) | exact bodyPost_ret (results_ct (e := 26) rfl hS 3 rfl inW (aggW _) rfl rfl) rfl (hS.pwT 0 rfl (by (exact slA)) (by omega)) | exact bodyPost_ret (results_ct (e := 26) rfl hS 3 rfl inW (aggW _) rfl rfl) rfl (hS.pwT 1 rfl (by (exact slA)) (by omega)) | exact bodyPost_ret (results_ct (e := 26) rfl hS 3 rfl inW (aggW _) rfl rfl) rfl (hS.pwT 2 rfl (by (exact slA)) (by omega)))) | fail) : P := h
theorem fct (k : Q) (h : Lft Q → P := by first | (intro k_; ((try simp only [put_lit, put_lit0, List.set_cons_succ, List.set_cons_zero, Nat.zero_add]); (have hc1_ := hS.cells); (have ht1_ := hS.types); (have hv1_ := hS.slices); (try simp only [AllC, CellsAt, Nat.reduceAdd, and_true] at hc1_); (try simp only [AllT, tyC, tyV, tyM, tyR, tyW, tyE_, tyQ, tys_cons, tys_nil, ok_any, ok_le, ok_rng, ok_bool, ok_sl, slv_nil, true_and, and_true] at ht1_); (try simp only [AllV, and_true] at hv1_); (first | (have hc := hc1_) | (have hc := True.intro)); (first | (have ht := ht1_) | (have ht := True.intro)); (first | (have hv := hv1_) | (have hv := True.intro))); revert hv; revert ht; revert hc; with_reducible exact k_.out) | fail) : P := h ⟨k⟩
theorem fx0c49e (k : Q) (h : Lft Q → P := by first | (intro k_; ((have e0 := hS.oldN a0); (have e1 := hS.oldN a1); (have e2 := hS.oldN a2); (have e3 := hS.oldN a3); (have e4 := hS.oldN a4); (have e5 := hS.oldN a5); (have e6 := hS.oldN a6)); revert e6; revert e5; revert e4; revert e3; revert e2; revert e1; revert e0; with_reducible exact k_.out) | fail) : P := h ⟨k⟩
theorem fx2eb15 (k : Q) (h : Lft Q → P := by first | (intro k_; ((have e0 := hS.oldN a0); (have e1 := hS.oldN a1); (have e2 := hS.oldN a2); (have e3 := hS.oldN a3); (have e4 := hS.oldN a4); (have e5 := hS.oldN a5); (have e6 := hS.oldN a6); (have e7 := hS.oldN a7); (have e8 := hS.oldN a8); (have e9 := hS.oldN a9); (have e10 := hS.oldN a10); (have e12 := u2.mono hS.ext.le); (have e14 := u4.mono hS.ext.le)); revert e14; revert e12; revert e10; revert e9; revert e8; revert e7; revert e6; revert e5; revert e4; revert e3; revert e2; revert e1; revert e0; with_reducible exact k_.out) | fail) : P := h ⟨k⟩
theorem fx32ee4 (k : Q) (h : Lft Q → P := by first | (intro k_; ((first | (have e0 := hS.oldc a0 hoG) | (have e0 := True.intro)); (first | (have e1 := hS.oldc a1 hoG) | (have e1 := True.intro)); (first | (have e2 := hS.oldc a2 hoG) | (have e2 := True.intro)); (first | (have e3 := hS.oldc a3 hoG) | (have e3 := True.intro)); (first | (have e4 := hS.oldc a4 hoG) | (have e4 := True.intro)); (first | (have e5 := hS.oldc a5 hoG) | (have e5 := True.intro)); (first | (have e6 := hS.oldc a6 hoG) | (have e6 := True.intro)); (first | (have e7 := hS.oldc a7 hoG) | (have e7 := True.intro)); (first | (have e8 := hS.oldc a8 hoG) | (have e8 := True.intro)); (first | (have e9 := hS.oldc a9 hoG) | (have e9 := True.intro)); (first | (have e10 := hS.oldc a10 hoG) | (have e10 := True.intro)); (first | (have e12 := u2.mono hS.ext.le) | (have e12 := True.intro)); (first | (have e14 := u4.mono hS.ext.le) | (have e14 := True.intro)); (first | (have zz0 := KB.cell hk0 hobV z0) | (have zz0 := True.intro))); revert zz0; revert e14; revert e12; revert e10; revert e9; revert e8; revert e7; revert e6; revert e5; revert e4; revert e3; revert e2; revert e1; revert e0; with_reducible exact k_.out) | fail) : P := h ⟨k⟩
theorem fx371c6 (k : Q) (h : Lft Q → P := by first | (intro k_; ((have e0 := hS.oldN a0); (have e1 := hS.oldN a1); (have e2 := hS.oldN a2); (have e3 := hS.oldN a3); (have e4 := hS.oldN a4); (have e5 := hS.oldN a5); (have e6 := hS.oldN a6); (have e9 := u1.mono hS.ext.le)); revert e9; revert e6; revert e5; revert e4; revert e3; revert e2; revert e1; revert e0; with_reducible exact k_.out) | fail) : P := h ⟨k⟩
theorem fx4d5ea (k : Q) (h : Lft Q → P := by first | (intro k_; ((have e0 := hS.oldN a0); (have e1 := hS.oldN a1); (have e2 := hS.oldN a2); (have e3 := hS.oldN a3); (have e4 := hS.oldN a4); (have e5 := hS.oldN a5); (have e6 := hS.oldN a6); (have f0 := hS.oldN c0_); (have f1 := hS.oldN c1_); (have f2 := hS.oldN c2_); (have f3 := hS.oldN c3_); (have f4 := hS.oldN c4_); (have f5 := hS.oldN c5_); (have f6 := hS.oldN c6_); (have f7 := hS.oldN c7_); (have f8 := hS.oldN c8_); (have f9 := hS.oldN c9_); (have f10 := hS.oldN c10_); (have e9 := u1.mono hS.ext.le); (have y2 := x2.mono hS.ext.le); (have y4 := x4.mono hS.ext.le)); revert y4; revert y2; revert e9; revert f10; revert f9; revert f8; revert f7; revert f6; revert f5; revert f4; revert f3; revert f2; revert f1; revert f0; revert e6; revert e5; revert e4; revert e3; revert e2; revert e1; revert e0; with_reducible exact k_.out) | fail) : P := h ⟨k⟩
theorem fx6affe (k : Q) (h : Lft Q → P := by first | (intro k_; ((have e7 := SlV.mono s1 hS.ext.le); (have e8 := SlV.mono s2 hS.ext.le)); revert e8; revert e7; with_reducible exact k_.out) | fail) : P := h ⟨k⟩
theorem fx6da60 (k : Q) (h : Lft Q → P := by first | (intro k_; ((have e0 := hS.oldN a0); (have e1 := hS.oldN a1); (have e2 := hS.oldN a2); (have e3 := hS.oldN a3); (have e4 := hS.oldN a4); (have e5 := hS.oldN a5); (have e6 := hS.oldN a6); (have e7 := hS.oldN a7); (have e8 := hS.oldN a8); (have e9 := hS.oldN a9); (have e10 := hS.oldN a10); (have e11 := hS.oldN a11); (have e12 := hS.oldN a12); (have e13 := hS.oldN a13); (have e20 := (u0.mono hS.ext.le))); revert e20; revert e13; revert e12; revert e11; revert e10; revert e9; revert e8; revert e7; revert e6; revert e5; revert e4; revert e3; revert e2; revert e1; revert e0; with_reducible exact k_.out) | fail) : P := h ⟨k⟩
theorem fx73457 (k : Q) (h : Lft Q → P := by first | (intro k_; ((have e0 := hS.oldN a0); (have e1 := hS.oldN a1)); revert e1; revert e0; with_reducible exact k_.out) | fail) : P := h ⟨k⟩
theorem fx91fc7 (k : Q) (h : Lft Q → P := by first | (intro k_; ((have e0 := hS.oldN a0); (have e1 := hS.oldN a1); (have e2 := hS.oldN a2); (have e3 := hS.oldN a3); (have e4 := hS.oldN a4); (have e5 := hS.oldN a5); (have e6 := hS.oldN a6); (have e7 := SlV.mono s1 hS.ext.le); (have e8 := SlV.mono s2 hS.ext.le)); revert e8; revert e7; revert e6; revert e5; revert e4; revert e3; revert e2; revert e1; revert e0; with_reducible exact k_.out) | fail) : P := h ⟨k⟩
theorem fxa750d (k : Q) (h : Lft Q → P := by first | (intro k_; ((first | (have e0 := hS.oldc a0 hoG) | (have e0 := True.intro)); (first | (have e1 := hS.oldc a1 hoG) | (have e1 := True.intro)); (first | (have e2 := hS.oldc a2 hoG) | (have e2 := True.intro)); (first | (have e3 := hS.oldc a3 hoG) | (have e3 := True.intro)); (first | (have e4 := hS.oldc a4 hoG) | (have e4 := True.intro)); (first | (have e5 := hS.oldc a5 hoG) | (have e5 := True.intro)); (first | (have e6 := hS.oldc a6 hoG) | (have e6 := True.intro)); (first | (have e7 := hS.oldc a7 hoG) | (have e7 := True.intro)); (first | (have e8 := hS.oldc a8 hoG) | (have e8 := True.intro)); (first | (have e9 := hS.oldc a9 hoG) | (have e9 := True.intro)); (first | (have e10 := hS.oldc a10 hoG) | (have e10 := True.intro)); (first | (have e12 := u2.mono hS.ext.le) | (have e12 := True.intro)); (first | (have e14 := u4.mono hS.ext.le) | (have e14 := True.intro))); revert e14; revert e12; revert e10; revert e9; revert e8; revert e7; revert e6; revert e5; revert e4; revert e3; revert e2; revert e1; revert e0; with_reducible exact k_.out) | fail) : P := h ⟨k⟩
theorem fxcbd98 (k : Q) (h : Lft Q → P := by first | (intro k_; ((have e0 := hS.oldN a0); (have e1 := hS.oldN a1); (have e2 := s1.mono hS.ext.le)); revert e2; revert e1; revert e0; with_reducible exact k_.out) | fail) : P := h ⟨k⟩
theorem fxee6d1 (k : Q) (h : Lft Q → P := by first | (intro k_; ((have e0 := hS.oldN a0); (have e1 := hS.oldN a1); (have e2 := hS.oldN a2); (have e3 := hS.oldN a3); (have e4 := hS.oldN a4); (have e5 := hS.oldN a5); (have e6 := hS.oldN a6); (have e7 := hS.oldN a7); (have e8 := hS.oldN a8); (have e9 := hS.oldN a9); (have e10 := hS.oldN a10)); revert e10; revert e9; revert e8; revert e7; revert e6; revert e5; revert e4; revert e3; revert e2; revert e1; revert e0; with_reducible exact k_.out) | fail) : P := h ⟨k⟩
theorem fxf957b (k : Q) (h : Lft Q → P := by first | (intro k_; ((first | (have zz0 := KB.cell hk0 hobV a0) | (have zz0 := True.intro)); (first | (have zz1 := KB.cell hk0 hobV a1) | (have zz1 := True.intro)); (first | (have zz2 := KB.cell hk0 hobV a2) | (have zz2 := True.intro)); (first | (have zz3 := KB.cell hk0 hobV a3) | (have zz3 := True.intro)); (first | (have zz4 := KB.cell hk0 hobV a4) | (have zz4 := True.intro)); (first | (have zz5 := KB.cell hk0 hobV a5) | (have zz5 := True.intro)); (first | (have zz6 := KB.cell hk0 hobV a6) | (have zz6 := True.intro))); revert zz6; revert zz5; revert zz4; revert zz3; revert zz2; revert zz1; revert zz0; with_reducible exact k_.out) | fail) : P := h ⟨k⟩
theorem hdE (k : Q) (h : Lft Q → P := by first | (intro k_; ((first | ((with_reducible refine wpList_plain ?_ ?_); (focus (with_reducible rfl))) | ((with_reducible refine wpT_x0 ?_ ?_ ?_); (focus rfl); (focus rfl)) | ((with_reducible refine wpT_xs0 ?_ ?_ ?_); (focus rfl); (focus rfl)) | ((with_reducible refine wpT_x1 ?_ ?_ ?_); (focus exact wanted_yes _ _ _ rfl rfl rfl); (focus rfl)) | ((with_reducible refine wpT_xs1 ?_ ?_ ?_); (focus exact wanted_yes _ _ _ rfl rfl rfl); (focus rfl)))); with_reducible exact k_.out) | fail) : P := h ⟨k⟩
theorem msA (h : P := by first | (first | (with_reducible assumption) | exact hS.ms | exact hS.tailL.ms | exact hS.tailL.tailL.ms | exact hS.tailL.tailL.tailL.ms | exact hS.msX 1 | exact hS.msX 0 | exact hS.msX 2 | exact hS.msX 3 | exact hS.tailL.msX 1 | exact hS.tailL.msX 0 | exact hS.tailL.msX 2 | exact hS.msO hob hoG | exact hS.tailL.msO hob hoG | exact hS.tailL.tailL.msO hob hoG | exact hS.msO2 hob hoG hob2 hoG2 | exact hS.tailL.msO2 hob hoG hob2 hoG2 | exact hS.msV hobV | exact hS.tailL.msV hobV | exact (hS.alloc _).ms) | fail) : P := h
theorem ofK (k : Q) (h : Lft Q → P := by first | (intro k_; (first | ((with_reducible refine wpT_q0 ?_ ?_ ?_ ?_); (focus rfl); (focus rfl); (focus rfl)) | ((with_reducible refine wpT_q1 ?_ ?_ ?_ ?_); (focus exact wanted_yes _ _ _ rfl rfl rfl); (focus rfl); (focus rfl)) | ((with_reducible refine wpT_i ?_ ?_); (focus (refine ⟨_, _, _, _, _, _, _, _, rfl, rfl, rfl, rfl, rfl, ?_⟩; omega))) | ((with_reducible refine wpT_ncw ?_ ?_ ?_); (focus (first | exact .inl rfl | exact .inr (wanted_yes _ _ _ rfl rfl rfl))); (focus exact ⟨_, _, rfl, rfl, rfl⟩)) | ((with_reducible refine wpT_b ?_ ?_); (focus (exact ⟨_, _, _, _, _, _, _, _, _, rfl, rfl, rfl, rfl, rfl, rfl⟩)))); with_reducible exact k_.out) | fail) : P := h ⟨k⟩
theorem ofL (k : Q) (h : Lft Q → P := by first | (intro k_; (((with_reducible refine at_wpT ?_); (with_reducible apply wpT_len); (focus (first | exact .inl rfl | exact .inr (wanted_yes _ _ _ rfl rfl rfl))); (focus rfl); (focus rfl); (focus rfl); (focus (first | exact Tryz.underlying22 | exact Tryz.underlying24 | exact Tryz.underlying29 | exact Tryz.underlying23)); (try dsimp only))); with_reducible exact k_.out) | fail) : P := h ⟨k⟩
theorem ofM (k : Q) (h : Lft Q → P := by first | (intro k_; (((with_reducible refine at_wpT ?_); (with_reducible apply wpT_lM _); (focus (first | exact .inl rfl | exact .inr (wanted_yes _ _ _ rfl rfl rfl))); (focus rfl); (focus rfl); (focus rfl); (focus (first | exact ix0 | exact ix1 | exact ix2 | exact ix3 | exact ix4 | exact ix5 | exact ix6)); (focus (exact msA)); (focus (first | (simp [hc]; done) | (simp [*]; done))))); with_reducible exact k_.out) | fail) : P := h ⟨k⟩
theorem ofN (k : Q) (h : Lft Q → P := by first | (intro k_; (((with_reducible refine wpT_nil ?_); try dsimp only)); with_reducible exact k_.out) | fail) : P := h ⟨k⟩
theorem ofS (k : Q) (h : Lft Q → P := by first | (intro k_; (first | ((with_reducible refine wpOF_seg ?_); simp only [pickL, List.toList_toArray, List.getElem?_cons_succ, List.getElem?_cons_zero]) | ((with_reducible refine wpOF_last ?_); simp only [pickL, List.toList_toArray, List.getElem?_cons_succ, List.getElem?_cons_zero]) | ((with_reducible refine wpOF_done ?_); try dsimp only) | ((with_reducible refine wpT_noL ?_ ?_); (focus (first | exact wanted_no _ _ _ rfl rfl rfl | exact wanted_un _ _ _ rfl rfl rfl)); simp only [setO, List.set_cons_succ, List.set_cons_zero])); with_reducible exact k_.out) | fail) : P := h ⟨k⟩
theorem ofX (k : Q) (h : Lft Q → P := by first | (intro k_; (first | ((with_reducible refine wpT_x0 ?_ ?_ ?_); (focus rfl); (focus rfl)) | ((with_reducible refine wpT_x1 ?_ ?_ ?_); (focus exact wanted_yes _ _ _ rfl rfl rfl); (focus rfl)) | ((with_reducible refine wpT_xs0 ?_ ?_ ?_); (focus rfl); (focus rfl)) | ((with_reducible refine wpT_xs1 ?_ ?_ ?_); (focus exact wanted_yes _ _ _ rfl rfl rfl); (focus rfl))); with_reducible exact k_.out) | fail) : P := h ⟨k⟩
theorem pk_ (k : Q) (h : Lft Q → P := by first | (intro k_; (simp only [pickL, List.toList_toArray, List.getElem?_cons_succ, List.getElem?_cons_zero]); with_reducible exact k_.out) | fail) : P := h ⟨k⟩
theorem r0zCnoP (k : Q) (h : Lft Q → P := by first | (intro k_; ((with_reducible apply wp_row0T hS noP); (focus rfl); (focus exact Tryz.underlying29); (focus exact inC); intro c b w hS hx hz; clear hz; (refine no_implicit_lambda% (fct ?_)); intro hc ht hv); revert hv; revert ht; revert hc; revert hx; revert hS; revert w; revert b; revert c; with_reducible exact k_.out) | fail) : P := h ⟨k⟩
theorem r0zEnoP (k : Q) (h : Lft Q → P := by first | (intro k_; ((with_reducible apply wp_row0T hS noP); (focus rfl); (focus exact Tryz.underlying62); (focus exact inE); intro c b w hS hx hz; clear hz; (refine no_implicit_lambda% (fct ?_)); intro hc ht hv); revert hv; revert ht; revert hc; revert hx; revert hS; revert w; revert b; revert c; with_reducible exact k_.out) | fail) : P := h ⟨k⟩
theorem r0zMbareP (k : Q) (h : Lft Q → P := by first | (intro k_; ((with_reducible apply wp_row0T hS bareP); (focus rfl); (focus exact Tryz.underlying24); (focus exact inM); intro c b w hS hx hz; clear hz; (refine no_implicit_lambda% (fct ?_)); intro hc ht hv); revert hv; revert ht; revert hc; revert hx; revert hS; revert w; revert b; revert c; with_reducible exact k_.out) | fail) : P := h ⟨k⟩
theorem r0zMnoP (k : Q) (h : Lft Q → P := by first | (intro k_; ((with_reducible apply wp_row0T hS noP); (focus rfl); (focus exact Tryz.underlying24); (focus exact inM); intro c b w hS hx hz; clear hz; (refine no_implicit_lambda% (fct ?_)); intro hc ht hv); revert hv; revert ht; revert hc; revert hx; revert hS; revert w; revert b; revert c; with_reducible exact k_.out) | fail) : P := h ⟨k⟩
theorem r0zQnoP (k : Q) (h : Lft Q → P := by first | (intro k_; ((with_reducible apply wp_row0T hS noP); (focus rfl); (focus exact Tryz.underlying114); (focus exact inQ); intro c b w hS hx hz; clear hz; (refine no_implicit_lambda% (fct ?_)); intro hc ht hv); revert hv; revert ht; revert hc; revert hx; revert hS; revert w; revert b; revert c; with_reducible exact k_.out) | fail) : P := h ⟨k⟩
theorem r0zRnoP (k : Q) (h : Lft Q → P := by first | (intro k_; ((with_reducible apply wp_row0T hS noP); (focus rfl); (focus exact Tryz.underlying23); (focus exact inR); intro c b w hS hx hz; clear hz; (refine no_implicit_lambda% (fct ?_)); intro hc ht hv); revert hv; revert ht; revert hc; revert hx; revert hS; revert w; revert b; revert c; with_reducible exact k_.out) | fail) : P := h ⟨k⟩
theorem r0zVnoP (k : Q) (h : Lft Q → P := by first | (intro k_; ((with_reducible apply wp_row0T hS noP); (focus rfl); (focus exact Tryz.underlying44); (focus exact inV); intro c b w hS hx hz; clear hz; (refine no_implicit_lambda% (fct ?_)); intro hc ht hv); revert hv; revert ht; revert hc; revert hx; revert hS; revert w; revert b; revert c; with_reducible exact k_.out) | fail) : P := h ⟨k⟩
theorem r1zCnoP (k : Q) (h : Lft Q → P := by first | (intro k_; ((with_reducible apply wp_row1T hS noP); (focus rfl); (focus rfl); (focus exact Tryz.underlying29); (focus exact inC); (focus rfl); (focus decide); (focus (exact tyA)); (focus exact trivial); intro c b w hS hx hz; clear hz; (refine no_implicit_lambda% (fct ?_)); intro hc ht hv); revert hv; revert ht; revert hc; revert hx; revert hS; revert w; revert b; revert c; with_reducible exact k_.out) | fail) : P := h ⟨k⟩
theorem r1zEnoP (k : Q) (h : Lft Q → P := by first | (intro k_; ((with_reducible apply wp_row1T hS noP); (focus rfl); (focus rfl); (focus exact Tryz.underlying62); (focus exact inE); (focus rfl); (focus decide); (focus (exact tyA)); (focus exact trivial); intro c b w hS hx hz; clear hz; (refine no_implicit_lambda% (fct ?_)); intro hc ht hv); revert hv; revert ht; revert hc; revert hx; revert hS; revert w; revert b; revert c; with_reducible exact k_.out) | fail) : P := h ⟨k⟩
theorem r1zMbareP (k : Q) (h : Lft Q → P := by first | (intro k_; ((with_reducible apply wp_row1T hS bareP); (focus rfl); (focus rfl); (focus exact Tryz.underlying24); (focus exact inM); (focus rfl); (focus decide); (focus (exact tyA)); (focus (exact bpA)); intro c b w hS hx hz; clear hz; (refine no_implicit_lambda% (fct ?_)); intro hc ht hv); revert hv; revert ht; revert hc; revert hx; revert hS; revert w; revert b; revert c; with_reducible exact k_.out) | fail) : P := h ⟨k⟩
theorem r1zMnoP (k : Q) (h : Lft Q → P := by first | (intro k_; ((with_reducible apply wp_row1T hS noP); (focus rfl); (focus rfl); (focus exact Tryz.underlying24); (focus exact inM); (focus rfl); (focus decide); (focus (exact tyA)); (focus exact trivial); intro c b w hS hx hz; clear hz; (refine no_implicit_lambda% (fct ?_)); intro hc ht hv); revert hv; revert ht; revert hc; revert hx; revert hS; revert w; revert b; revert c; with_reducible exact k_.out) | fail) : P := h ⟨k⟩
theorem r1zQnoP (k : Q) (h : Lft Q → P := by first | (intro k_; ((with_reducible apply wp_row1T hS noP); (focus rfl); (focus rfl); (focus exact Tryz.underlying114); (focus exact inQ); (focus rfl); (focus decide); (focus (exact tyA)); (focus exact trivial); intro c b w hS hx hz; clear hz; (refine no_implicit_lambda% (fct ?_)); intro hc ht hv); revert hv; revert ht; revert hc; revert hx; revert hS; revert w; revert b; revert c; with_reducible exact k_.out) | fail) : P := h ⟨k⟩
theorem r1zRnoP (k : Q) (h : Lft Q → P := by first | (intro k_; ((with_reducible apply wp_row1T hS noP); (focus rfl); (focus rfl); (focus exact Tryz.underlying23); (focus exact inR); (focus rfl); (focus decide); (focus (exact tyA)); (focus exact trivial); intro c b w hS hx hz; clear hz; (refine no_implicit_lambda% (fct ?_)); intro hc ht hv); revert hv; revert ht; revert hc; revert hx; revert hS; revert w; revert b; revert c; with_reducible exact k_.out) | fail) : P := h ⟨k⟩
theorem r1zVnoP (k : Q) (h : Lft Q → P := by first | (intro k_; ((with_reducible apply wp_row1T hS noP); (focus rfl); (focus rfl); (focus exact Tryz.underlying44); (focus exact inV); (focus rfl); (focus decide); (focus (exact tyA)); (focus exact trivial); intro c b w hS hx hz; clear hz; (refine no_implicit_lambda% (fct ?_)); intro hc ht hv); revert hv; revert ht; revert hc; revert hx; revert hS; revert w; revert b; revert c; with_reducible exact k_.out) | fail) : P := h ⟨k⟩
theorem rbzCnoP (k : Q) (h : Lft Q → P := by first | (intro k_; ((with_reducible apply wp_row1B hS noP); (focus rfl); (focus rfl); (focus exact Tryz.underlying29); (focus exact inC); (focus rfl); (focus decide); (focus (exact tyA)); (focus exact trivial); intro c b w hS hx hbl; (refine no_implicit_lambda% (fct ?_)); intro hc ht hv); revert hv; revert ht; revert hc; revert hbl; revert hx; revert hS; revert w; revert b; revert c; with_reducible exact k_.out) | fail) : P := h ⟨k⟩
theorem rglawsFnAgreeLook9 (k : Q) (h : Lft Q → P := by first | (intro k_; ((with_reducible refine wp_region_St (id := 9) hS [26] [] [39, 41, 42] 10 (OrdF.seg [0, 1, 2, 3, 4, 5, 6, 7, 8, 9] OrdF.last) ?_ ?_ ?_ ?_); (focus kernel_rfl); (focus kernel_rfl); (focus kernel_rfl); (have hS := hS.drew); (refine no_implicit_lambda% (fct ?_)); intro hc ht hv); revert hv; revert ht; revert hc; revert hS; with_reducible exact k_.out) | fail) : P := h ⟨k⟩
theorem rgspecWorldPlay5XO (k : Q) (h : Lft Q → P := by first | (intro k_; ((with_reducible refine wp_region_StO (id := 5) hS hob hoG [] [] [28, 31, 32] 999 (OrdF.seg [0, 1, 2, 3, 4] (OrdF.both 5 9 (OrdF.seg [6, 7, 8, 9, 10, 11] OrdF.done) (OrdF.seg [5, 6, 7, 8, 10, 11] OrdF.done))) ?_ ?_ ?_ ?_); (focus kernel_rfl); (focus kernel_rfl); (focus kernel_rfl); (have hS := hS.drew); (refine no_implicit_lambda% (fct ?_)); intro hc ht hv); revert hv; revert ht; revert hc; revert hS; with_reducible exact k_.out) | fail) : P := h ⟨k⟩
theorem rgspecl20AnyMsg12 (k : Q) (h : Lft Q → P := by first | (intro k_; ((with_reducible refine wp_region_St (id := 12) hS [46] [] [35] 7 (OrdF.seg [0, 1, 2, 3, 4, 5, 6] OrdF.last) ?_ ?_ ?_ ?_); (focus kernel_rfl); (focus kernel_rfl); (focus kernel_rfl); (have hS := hS.drew); (refine no_implicit_lambda% (fct ?_)); intro hc ht hv); revert hv; revert ht; revert hc; revert hS; with_reducible exact k_.out) | fail) : P := h ⟨k⟩
theorem rgspecl20AnyWorld11 (k : Q) (h : Lft Q → P := by first | (intro k_; ((with_reducible refine wp_region_St (id := 11) hS [26] [] [47] 7 (OrdF.seg [0, 1, 2, 3, 4, 5, 6] OrdF.last) ?_ ?_ ?_ ?_); (focus kernel_rfl); (focus kernel_rfl); (focus kernel_rfl); (have hS := hS.drew); (refine no_implicit_lambda% (fct ?_)); intro hc ht hv); revert hv; revert ht; revert hc; revert hS; with_reducible exact k_.out) | fail) : P := h ⟨k⟩
theorem rgspecl20AnyWorld7XV (k : Q) (h : Lft Q → P := by first | (intro k_; ((with_reducible refine wp_region_StV (id := 7) hS hobV [26, 31] [] [20, 23, 25, 27] 15 (OrdF.seg [0, 1, 2, 3, 4, 5, 6, 7, 8, 9, 10, 11, 12, 13, 14] OrdF.last) ?_ ?_ ?_ ?_); (focus kernel_rfl); (focus kernel_rfl); (focus kernel_rfl); (have hS := hS.drew); (refine no_implicit_lambda% (fct ?_)); intro hc ht hv); revert hv; revert ht; revert hc; revert hS; with_reducible exact k_.out) | fail) : P := h ⟨k⟩
theorem rgspecl20AnyWorld9 (k : Q) (h : Lft Q → P := by first | (intro k_; ((with_reducible refine wp_region_St (id := 9) hS [26] [] [37] 8 (OrdF.seg [0, 1, 2, 3, 4, 5, 6, 7] OrdF.last) ?_ ?_ ?_ ?_); (focus kernel_rfl); (focus kernel_rfl); (focus kernel_rfl); (have hS := hS.drew); (refine no_implicit_lambda% (fct ?_)); intro hc ht hv); revert hv; revert ht; revert hc; revert hS; with_reducible exact k_.out) | fail) : P := h ⟨k⟩
theorem rgspecl20Event12XO (k : Q) (h : Lft Q → P := by first | (intro k_; ((with_reducible refine wp_region_StO (id := 12) hS hob hoG [26] [] [39, 42, 43, 45, 46] 10 (OrdF.seg [0, 1, 2, 3, 4, 5] (OrdF.both 6 9 (OrdF.seg [7, 8, 9] OrdF.last) (OrdF.seg [6, 7, 8] OrdF.last))) ?_ ?_ ?_ ?_); (focus kernel_rfl); (focus kernel_rfl); (focus kernel_rfl); (have hS := hS.drew); (refine no_implicit_lambda% (fct ?_)); intro hc ht hv); revert hv; revert ht; revert hc; revert hS; with_reducible exact k_.out) | fail) : P := h ⟨k⟩
theorem rgspecl3Copy6XO (k : Q) (h : Lft Q → P := by first | (intro k_; ((with_reducible refine wp_region_StO (id := 6) hS hob hoG [46, 77] [] [20, 22, 24, 27, 29, 31] 999 (OrdF.seg [0, 1, 2, 3, 4, 5, 6, 8, 9, 10, 11, 12, 13, 7, 14, 15, 16, 17, 18] OrdF.done) ?_ ?_ ?_ ?_); (focus kernel_rfl); (focus kernel_rfl); (focus kernel_rfl); (have hS := hS.drew); (refine no_implicit_lambda% (fct ?_)); intro hc ht hv); revert hv; revert ht; revert hc; revert hS; with_reducible exact k_.out) | fail) : P := h ⟨k⟩
theorem rgspecl4Offered9 (k : Q) (h : Lft Q → P := by first | (intro k_; ((with_reducible refine wp_region_St (id := 9) hS [41] [] [54, 67] 999 (OrdF.seg [0, 1, 2, 3, 4, 5, 6, 7, 8, 9, 10, 11, 12, 13, 14, 15, 17, 18, 16, 19, 20] OrdF.done) ?_ ?_ ?_ ?_); (focus kernel_rfl); (focus kernel_rfl); (focus kernel_rfl); (have hS := hS.drew); (refine no_implicit_lambda% (fct ?_)); intro hc ht hv); revert hv; revert ht; revert hc; revert hS; with_reducible exact k_.out) | fail) : P := h ⟨k⟩
theorem rgspecl5Ask1 (k : Q) (h : Lft Q → P := by first | (intro k_; ((with_reducible refine wp_region_St (id := 1) hS [31] [] [16] 999 (OrdF.seg [0, 1, 2, 3, 4, 5, 7, 8, 6, 9, 10, 11, 12, 13, 14, 15] OrdF.done) ?_ ?_ ?_ ?_); (focus kernel_rfl); (focus kernel_rfl); (focus kernel_rfl); (have hS := hS.drew); (refine no_implicit_lambda% (fct ?_)); intro hc ht hv); revert hv; revert ht; revert hc; revert hS; with_reducible exact k_.out) | fail) : P := h ⟨k⟩
theorem rgspecl5Ask11X1E76 (k : Q) (h : Lft Q → P := by first | (intro k_; ((with_reducible refine wp_region_StX (id := 11) hS 1 [31, 41] [76] [67, 69, 71, 73, 75] 999 (OrdF.seg [0, 1, 2, 3, 4, 5, 6, 7, 8] (OrdF.both 9 11 (OrdF.seg [] (OrdF.both 10 11 (OrdF.seg [11, 12] OrdF.done) (OrdF.seg [10, 12] OrdF.done))) (OrdF.seg [9, 10, 12] OrdF.done))) ?_ ?_ ?_ ?_); (focus kernel_rfl); (focus kernel_rfl); (focus kernel_rfl); (have hS := hS.drew); (refine no_implicit_lambda% (fct ?_)); intro hc ht hv); revert hv; revert ht; revert hc; revert hS; with_reducible exact k_.out) | fail) : P := h ⟨k⟩
theorem rgspecl5Ask6 (k : Q) (h : Lft Q → P := by first | (intro k_; ((with_reducible refine wp_region_St (id := 6) hS [] [] [] 999 (OrdF.seg [0, 1, 2, 3, 4, 5, 6, 7, 8, 9, 10, 11, 12, 13, 14, 15, 16, 17, 18, 19] OrdF.done) ?_ ?_ ?_ ?_); (focus kernel_rfl); (focus kernel_rfl); (focus kernel_rfl); (have hS := hS.drew); (refine no_implicit_lambda% (fct ?_)); intro hc ht hv); revert hv; revert ht; revert hc; revert hS; with_reducible exact k_.out) | fail) : P := h ⟨k⟩
theorem rgspecl5Copy1E21 (k : Q) (h : Lft Q → P := by first | (intro k_; ((with_reducible refine wp_region_St (id := 1) hS [31] [21] [6, 8, 10, 12, 15, 19] 18 (OrdF.seg [0, 1, 2, 3, 4, 5, 6, 7, 9, 10, 13, 14] (OrdF.three 8 12 17 (OrdF.seg [] (OrdF.three 11 12 17 (OrdF.seg [] (OrdF.both 12 17 (OrdF.seg [] (OrdF.both 15 17 (OrdF.seg [] (OrdF.both 16 17 (OrdF.seg [17] OrdF.last) (OrdF.seg [16] OrdF.last))) (OrdF.seg [15, 16] OrdF.last))) (OrdF.seg [12, 15, 16] OrdF.last))) (OrdF.seg [] (OrdF.both 11 17 (OrdF.seg [] (OrdF.both 15 17 (OrdF.seg [] (OrdF.both 16 17 (OrdF.seg [17] OrdF.last) (OrdF.seg [16] OrdF.last))) (OrdF.seg [15, 16] OrdF.last))) (OrdF.seg [11, 15, 16] OrdF.last))) (OrdF.seg [] (OrdF.both 11 12 (OrdF.seg [12, 15, 16] OrdF.last) (OrdF.seg [11, 15, 16] OrdF.last))))) (OrdF.seg [] (OrdF.both 8 17 (OrdF.seg [] (OrdF.both 11 17 (OrdF.seg [] (OrdF.both 15 17 (OrdF.seg [] (OrdF.both 16 17 (OrdF.seg [17] OrdF.last) (OrdF.seg [16] OrdF.last))) (OrdF.seg [15, 16] OrdF.last))) (OrdF.seg [11, 15, 16] OrdF.last))) (OrdF.seg [8, 11, 15, 16] OrdF.last))) (OrdF.seg [] (OrdF.both 8 12 (OrdF.seg [] (OrdF.both 11 12 (OrdF.seg [12, 15, 16] OrdF.last) (OrdF.seg [11, 15, 16] OrdF.last))) (OrdF.seg [8, 11, 15, 16] OrdF.last))))) ?_ ?_ ?_ ?_); (focus kernel_rfl); (focus kernel_rfl); (focus kernel_rfl); (have hS := hS.drew); (refine no_implicit_lambda% (fct ?_)); intro hc ht hv); revert hv; revert ht; revert hc; revert hS; with_reducible exact k_.out) | fail) : P := h ⟨k⟩
theorem rgspecl5Copy5XO (k : Q) (h : Lft Q → P := by first | (intro k_; ((with_reducible refine wp_region_StO (id := 5) hS hob hoG [31] [] [30] 11 (OrdF.seg [0, 1, 2, 3, 4, 5, 6, 7, 8, 9, 10] OrdF.last) ?_ ?_ ?_ ?_); (focus kernel_rfl); (focus kernel_rfl); (focus kernel_rfl); (have hS := hS.drew); (refine no_implicit_lambda% (fct ?_)); intro hc ht hv); revert hv; revert ht; revert hc; revert hS; with_reducible exact k_.out) | fail) : P := h ⟨k⟩
theorem rgspecl5Enter9XVE38 (k : Q) (h : Lft Q → P := by first | (intro k_; ((with_reducible refine wp_region_StV (id := 9) hS hobV [] [38] [30, 32, 36, 37] 999 (OrdF.seg [0, 1, 2, 3, 4, 5, 6, 7] (OrdF.both 8 13 (OrdF.seg [] (OrdF.both 9 13 (OrdF.seg [10, 11, 12, 13, 14, 15] OrdF.done) (OrdF.seg [9, 10, 11, 12, 14, 15] OrdF.done))) (OrdF.seg [8, 9, 10, 11, 12, 14, 15] OrdF.done))) ?_ ?_ ?_ ?_); (focus kernel_rfl); (focus kernel_rfl); (focus kernel_rfl); (have hS := hS.drew); (refine no_implicit_lambda% (fct ?_)); intro hc ht hv); revert hv; revert ht; revert hc; revert hS; with_reducible exact k_.out) | fail) : P := h ⟨k⟩
theorem rgspecl5Finish4 (k : Q) (h : Lft Q → P := by first | (intro k_; ((with_reducible refine wp_region_St (id := 4) hS [] [] [] 999 (OrdF.seg [0, 1, 2, 3, 4, 5, 6, 7, 8, 9, 10, 11, 12, 13, 14, 15] OrdF.done) ?_ ?_ ?_ ?_); (focus kernel_rfl); (focus kernel_rfl); (focus kernel_rfl); (have hS := hS.drew); (refine no_implicit_lambda% (fct ?_)); intro hc ht hv); revert hv; revert ht; revert hc; revert hS; with_reducible exact k_.out) | fail) : P := h ⟨k⟩
theorem rgspecl5Hear14X1 (k : Q) (h : Lft Q → P := by first | (intro k_; ((with_reducible refine wp_region_StX (id := 14) hS 1 [] [] [60] 999 (OrdF.seg [0, 2, 4, 1, 3, 5, 6, 7] OrdF.done) ?_ ?_ ?_ ?_); (focus kernel_rfl); (focus kernel_rfl); (focus kernel_rfl); (have hS := hS.drew); (refine no_implicit_lambda% (fct ?_)); intro hc ht hv); revert hv; revert ht; revert hc; revert hS; with_reducible exact k_.out) | fail) : P := h ⟨k⟩
theorem rgspecl5Lead1 (k : Q) (h : Lft Q → P := by first | (intro k_; ((with_reducible refine wp_region_St (id := 1) hS [46] [] [9] 999 (OrdF.seg [0, 1, 2, 3, 4, 5, 6, 7, 8, 9, 10, 11, 12, 13, 14, 15, 16, 17, 18, 19, 20, 21, 22, 23, 24, 25, 26, 27, 28] OrdF.done) ?_ ?_ ?_ ?_); (focus kernel_rfl); (focus kernel_rfl); (focus kernel_rfl); (have hS := hS.drew); (refine no_implicit_lambda% (fct ?_)); intro hc ht hv); revert hv; revert ht; revert hc; revert hS; with_reducible exact k_.out) | fail) : P := h ⟨k⟩
theorem rgspecl5Note3 (k : Q) (h : Lft Q → P := by first | (intro k_; ((with_reducible refine wp_region_St (id := 3) hS [31] [] [18, 20] 9 (OrdF.seg [1, 2, 4, 0, 3, 5, 6, 7, 8] OrdF.last) ?_ ?_ ?_ ?_); (focus kernel_rfl); (focus kernel_rfl); (focus kernel_rfl); (have hS := hS.drew); (refine no_implicit_lambda% (fct ?_)); intro hc ht hv); revert hv; revert ht; revert hc; revert hS; with_reducible exact k_.out) | fail) : P := h ⟨k⟩
theorem rgspecl5Offer2 (k : Q) (h : Lft Q → P := by first | (intro k_; ((with_reducible refine wp_region_St (id := 2) hS [46] [] [31] 999 (OrdF.seg [0, 1, 2, 3, 4, 5, 6, 7, 8, 9, 10, 11, 12, 13, 14, 15, 16, 17, 18, 19, 20, 21, 22, 23, 24, 25, 26, 27, 28, 29, 30, 31, 32, 33, 34] OrdF.done) ?_ ?_ ?_ ?_); (focus kernel_rfl); (focus kernel_rfl); (focus kernel_rfl); (have hS := hS.drew); (refine no_implicit_lambda% (fct ?_)); intro hc ht hv); revert hv; revert ht; revert hc; revert hS; with_reducible exact k_.out) | fail) : P := h ⟨k⟩
theorem rgspecl5Take1 (k : Q) (h : Lft Q → P := by first | (intro k_; ((with_reducible refine wp_region_St (id := 1) hS [31] [] [7, 9] 8 (OrdF.seg [1, 2, 4] (OrdF.both 0 5 (OrdF.seg [] (OrdF.both 3 5 (OrdF.seg [5, 6, 7] OrdF.last) (OrdF.seg [3, 6, 7] OrdF.last))) (OrdF.seg [0, 3, 6, 7] OrdF.last))) ?_ ?_ ?_ ?_); (focus kernel_rfl); (focus kernel_rfl); (focus kernel_rfl); (have hS := hS.drew); (refine no_implicit_lambda% (fct ?_)); intro hc ht hv); revert hv; revert ht; revert hc; revert hS; with_reducible exact k_.out) | fail) : P := h ⟨k⟩
theorem rgspecl5Turned1 (k : Q) (h : Lft Q → P := by first | (intro k_; ((with_reducible refine wp_region_St (id := 1) hS [31] [] [16] 999 (OrdF.seg [0, 1, 3, 4, 2, 5, 6, 7, 8, 9, 10, 11, 12] OrdF.done) ?_ ?_ ?_ ?_); (focus kernel_rfl); (focus kernel_rfl); (focus kernel_rfl); (have hS := hS.drew); (refine no_implicit_lambda% (fct ?_)); intro hc ht hv); revert hv; revert ht; revert hc; revert hS; with_reducible exact k_.out) | fail) : P := h ⟨k⟩
theorem rgspecl5Turned8X2 (k : Q) (h : Lft Q → P := by first | (intro k_; ((with_reducible refine wp_region_StX (id := 8) hS 2 [] [] [49] 999 (OrdF.seg [0, 1, 3, 2, 4, 5, 6] OrdF.done) ?_ ?_ ?_ ?_); (focus kernel_rfl); (focus kernel_rfl); (focus kernel_rfl); (have hS := hS.drew); (refine no_implicit_lambda% (fct ?_)); intro hc ht hv); revert hv; revert ht; revert hc; revert hS; with_reducible exact k_.out) | fail) : P := h ⟨k⟩
theorem rgspecl5Turns3E20 (k : Q) (h : Lft Q → P := by first | (intro k_; ((with_reducible refine wp_region_St (id := 3) hS [31] [20] [15, 17, 18] 8 (OrdF.seg [0, 1, 2, 3, 4] (OrdF.both 5 7 (OrdF.seg [] (OrdF.both 6 7 (OrdF.seg [7] OrdF.last) (OrdF.seg [6] OrdF.last))) (OrdF.seg [5, 6] OrdF.last))) ?_ ?_ ?_ ?_); (focus kernel_rfl); (focus kernel_rfl); (focus kernel_rfl); (have hS := hS.drew); (refine no_implicit_lambda% (fct ?_)); intro hc ht hv); revert hv; revert ht; revert hc; revert hS; with_reducible exact k_.out) | fail) : P := h ⟨k⟩
theorem rgspecl5Turns5 (k : Q) (h : Lft Q → P := by first | (intro k_; ((with_reducible refine wp_region_St (id := 5) hS [] [] [25, 26, 30] 999 (OrdF.seg [0, 1, 3, 5] (OrdF.three 2 6 12 (OrdF.seg [] (OrdF.three 4 6 12 (OrdF.seg [] (OrdF.both 6 12 (OrdF.seg [] (OrdF.both 7 12 (OrdF.seg [] (OrdF.both 8 12 (OrdF.seg [9, 10, 11, 12, 13, 14] OrdF.done) (OrdF.seg [8, 9, 10, 11, 13, 14] OrdF.done))) (OrdF.seg [7, 8, 9, 10, 11, 13, 14] OrdF.done))) (OrdF.seg [6, 7, 8, 9, 10, 11, 13, 14] OrdF.done))) (OrdF.seg [] (OrdF.both 4 12 (OrdF.seg [] (OrdF.both 7 12 (OrdF.seg [] (OrdF.both 8 12 (OrdF.seg [9, 10, 11, 12, 13, 14] OrdF.done) (OrdF.seg [8, 9, 10, 11, 13, 14] OrdF.done))) (OrdF.seg [7, 8, 9, 10, 11, 13, 14] OrdF.done))) (OrdF.seg [4, 7, 8, 9, 10, 11, 13, 14] OrdF.done))) (OrdF.seg [] (OrdF.both 4 6 (OrdF.seg [6, 7, 8, 9, 10, 11, 13, 14] OrdF.done) (OrdF.seg [4, 7, 8, 9, 10, 11, 13, 14] OrdF.done))))) (OrdF.seg [] (OrdF.both 2 12 (OrdF.seg [] (OrdF.both 4 12 (OrdF.seg [] (OrdF.both 7 12 (OrdF.seg [] (OrdF.both 8 12 (OrdF.seg [9, 10, 11, 12, 13, 14] OrdF.done) (OrdF.seg [8, 9, 10, 11, 13, 14] OrdF.done))) (OrdF.seg [7, 8, 9, 10, 11, 13, 14] OrdF.done))) (OrdF.seg [4, 7, 8, 9, 10, 11, 13, 14] OrdF.done))) (OrdF.seg [2, 4, 7, 8, 9, 10, 11, 13, 14] OrdF.done))) (OrdF.seg [] (OrdF.both 2 6 (OrdF.seg [] (OrdF.both 4 6 (OrdF.seg [6, 7, 8, 9, 10, 11, 13, 14] OrdF.done) (OrdF.seg [4, 7, 8, 9, 10, 11, 13, 14] OrdF.done))) (OrdF.seg [2, 4, 7, 8, 9, 10, 11, 13, 14] OrdF.done))))) ?_ ?_ ?_ ?_); (focus kernel_rfl); (focus kernel_rfl); (focus kernel_rfl); (have hS := hS.drew); (refine no_implicit_lambda% (fct ?_)); intro hc ht hv); revert hv; revert ht; revert hc; revert hS; with_reducible exact k_.out) | fail) : P := h ⟨k⟩
theorem rgspecl5Turns6X2 (k : Q) (h : Lft Q → P := by first | (intro k_; ((with_reducible refine wp_region_StX (id := 6) hS 2 [] [] [36] 999 (OrdF.seg [0, 1, 4, 2, 3, 5, 6, 7] OrdF.done) ?_ ?_ ?_ ?_); (focus kernel_rfl); (focus kernel_rfl); (focus kernel_rfl); (have hS := hS.drew); (refine no_implicit_lambda% (fct ?_)); intro hc ht hv); revert hv; revert ht; revert hc; revert hS; with_reducible exact k_.out) | fail) : P := h ⟨k⟩
theorem rgspecl5Votes10E45 (k : Q) (h : Lft Q → P := by first | (intro k_; ((with_reducible refine wp_region_St (id := 10) hS [46] [45] [40, 43] 8 (OrdF.seg [0, 1, 3, 4] (OrdF.both 2 7 (OrdF.seg [] (OrdF.both 5 7 (OrdF.seg [] (OrdF.both 6 7 (OrdF.seg [7] OrdF.last) (OrdF.seg [6] OrdF.last))) (OrdF.seg [5, 6] OrdF.last))) (OrdF.seg [2, 5, 6] OrdF.last))) ?_ ?_ ?_ ?_); (focus kernel_rfl); (focus kernel_rfl); (focus kernel_rfl); (have hS := hS.drew); (refine no_implicit_lambda% (fct ?_)); intro hc ht hv); revert hv; revert ht; revert hc; revert hS; with_reducible exact k_.out) | fail) : P := h ⟨k⟩
theorem rgspecl5Yes2 (k : Q) (h : Lft Q → P := by first | (intro k_; ((with_reducible refine wp_region_St (id := 2) hS [31] [] [14] 999 (OrdF.seg [0, 1, 3, 4, 2, 5] OrdF.done) ?_ ?_ ?_ ?_); (focus kernel_rfl); (focus kernel_rfl); (focus kernel_rfl); (have hS := hS.drew); (refine no_implicit_lambda% (fct ?_)); intro hc ht hv); revert hv; revert ht; revert hc; revert hS; with_reducible exact k_.out) | fail) : P := h ⟨k⟩
theorem rgspecl5Yes5X1 (k : Q) (h : Lft Q → P := by first | (intro k_; ((with_reducible refine wp_region_StX (id := 5) hS 1 [] [] [26, 27, 29] 999 (OrdF.seg [0, 1, 3] (OrdF.both 2 4 (OrdF.seg [] (OrdF.both 4 5 (OrdF.seg [5, 6] OrdF.done) (OrdF.seg [4, 6] OrdF.done))) (OrdF.seg [2, 5, 6] OrdF.done))) ?_ ?_ ?_ ?_); (focus kernel_rfl); (focus kernel_rfl); (focus kernel_rfl); (have hS := hS.drew); (refine no_implicit_lambda% (fct ?_)); intro hc ht hv); revert hv; revert ht; revert hc; revert hS; with_reducible exact k_.out) | fail) : P := h ⟨k⟩
theorem rgspecl6Copy5XO (k : Q) (h : Lft Q → P := by first | (intro k_; ((with_reducible refine wp_region_StO (id := 5) hS hob hoG [26] [] [17] 11 (OrdF.seg [0, 1, 2, 3, 4, 5, 6, 7, 8, 9, 10] OrdF.last) ?_ ?_ ?_ ?_); (focus kernel_rfl); (focus kernel_rfl); (focus kernel_rfl); (have hS := hS.drew); (refine no_implicit_lambda% (fct ?_)); intro hc ht hv); revert hv; revert ht; revert hc; revert hS; with_reducible exact k_.out) | fail) : P := h ⟨k⟩
theorem rgspecl6Copy9XO (k : Q) (h : Lft Q → P := by first | (intro k_; ((with_reducible refine wp_region_StO (id := 9) hS hob hoG [26] [] [35] 11 (OrdF.seg [0, 1, 2, 3, 4, 5, 6, 7, 8, 9, 10] OrdF.last) ?_ ?_ ?_ ?_); (focus kernel_rfl); (focus kernel_rfl); (focus kernel_rfl); (have hS := hS.drew); (refine no_implicit_lambda% (fct ?_)); intro hc ht hv); revert hv; revert ht; revert hc; revert hS; with_reducible exact k_.out) | fail) : P := h ⟨k⟩
theorem rgspecl6Do11XOO (k : Q) (h : Lft Q → P := by first | (intro k_; ((with_reducible refine wp_region_StO2 (id := 11) hS hob hoG hob2 hoG2 [26, 87] [] [64, 66, 67, 68, 70, 72, 73, 74, 76] 999 (OrdF.seg [0, 1, 2, 3, 4, 5, 6, 7, 8, 9, 10, 11, 12, 13] (OrdF.both 14 18 (OrdF.seg [15, 16, 17, 18, 19, 20] OrdF.done) (OrdF.seg [14, 15, 16, 17, 19, 20] OrdF.done))) ?_ ?_ ?_ ?_); (focus kernel_rfl); (focus kernel_rfl); (focus kernel_rfl); (have hS := hS.drew); (refine no_implicit_lambda% (fct ?_)); intro hc ht hv); revert hv; revert ht; revert hc; revert hS; with_reducible exact k_.out) | fail) : P := h ⟨k⟩
theorem rgspecl6Do16XO (k : Q) (h : Lft Q → P := by first | (intro k_; ((with_reducible refine wp_region_StO (id := 16) hS hob hoG [26, 87] [] [103, 105, 106, 107, 109] 999 (OrdF.seg [0, 1, 2, 3, 4, 5, 6, 7] (OrdF.both 8 12 (OrdF.seg [9, 10, 11, 12, 13, 14] OrdF.done) (OrdF.seg [8, 9, 10, 11, 13, 14] OrdF.done))) ?_ ?_ ?_ ?_); (focus kernel_rfl); (focus kernel_rfl); (focus kernel_rfl); (have hS := hS.drew); (refine no_implicit_lambda% (fct ?_)); intro hc ht hv); revert hv; revert ht; revert hc; revert hS; with_reducible exact k_.out) | fail) : P := h ⟨k⟩
theorem rgspecl6New5 (k : Q) (h : Lft Q → P := by first | (intro k_; ((with_reducible refine wp_region_St (id := 5) hS [26] [] [12] 7 (OrdF.seg [0, 1, 2, 3, 4, 5, 6] OrdF.last) ?_ ?_ ?_ ?_); (focus kernel_rfl); (focus kernel_rfl); (focus kernel_rfl); (have hS := hS.drew); (refine no_implicit_lambda% (fct ?_)); intro hc ht hv); revert hv; revert ht; revert hc; revert hS; with_reducible exact k_.out) | fail) : P := h ⟨k⟩
theorem sazC (k : Q) (h : Lft Q → P := by first | (intro k_; ((with_reducible refine at_store rfl ?_); ((with_reducible apply wp_setAT hS _); (focus rfl); (focus rfl); (focus (first | exact ix0 | exact ix1 | exact ix2 | exact ix3 | exact ix4 | exact ix5 | exact ix6)); (focus rfl); (focus (exact tyA)); (focus exact inC)); intro w hS hz; clear hz; (try simp only [List.set_cons_zero, List.set_cons_succ, Nat.zero_add] at hS); (refine no_implicit_lambda% (fct ?_)); intro hc ht hv); revert hv; revert ht; revert hc; revert hS; revert w; with_reducible exact k_.out) | fail) : P := h ⟨k⟩
theorem sazE (k : Q) (h : Lft Q → P := by first | (intro k_; ((with_reducible refine at_store rfl ?_); ((with_reducible apply wp_setAT hS _); (focus rfl); (focus rfl); (focus (first | exact ix0 | exact ix1 | exact ix2 | exact ix3 | exact ix4 | exact ix5 | exact ix6)); (focus rfl); (focus (exact tyA)); (focus exact inE)); intro w hS hz; clear hz; (try simp only [List.set_cons_zero, List.set_cons_succ, Nat.zero_add] at hS); (refine no_implicit_lambda% (fct ?_)); intro hc ht hv); revert hv; revert ht; revert hc; revert hS; revert w; with_reducible exact k_.out) | fail) : P := h ⟨k⟩
theorem sazM (k : Q) (h : Lft Q → P := by first | (intro k_; ((with_reducible refine at_store rfl ?_); ((with_reducible apply wp_setAT hS _); (focus rfl); (focus rfl); (focus (first | exact ix0 | exact ix1 | exact ix2 | exact ix3 | exact ix4 | exact ix5 | exact ix6)); (focus rfl); (focus (exact tyA)); (focus exact inM)); intro w hS hz; clear hz; (try simp only [List.set_cons_zero, List.set_cons_succ, Nat.zero_add] at hS); (refine no_implicit_lambda% (fct ?_)); intro hc ht hv); revert hv; revert ht; revert hc; revert hS; revert w; with_reducible exact k_.out) | fail) : P := h ⟨k⟩
theorem sazQ (k : Q) (h : Lft Q → P := by first | (intro k_; ((with_reducible refine at_store rfl ?_); ((with_reducible apply wp_setAT hS _); (focus rfl); (focus rfl); (focus (first | exact ix0 | exact ix1 | exact ix2 | exact ix3 | exact ix4 | exact ix5 | exact ix6)); (focus rfl); (focus (exact tyA)); (focus exact inQ)); intro w hS hz; clear hz; (try simp only [List.set_cons_zero, List.set_cons_succ, Nat.zero_add] at hS); (refine no_implicit_lambda% (fct ?_)); intro hc ht hv); revert hv; revert ht; revert hc; revert hS; revert w; with_reducible exact k_.out) | fail) : P := h ⟨k⟩
theorem sazR (k : Q) (h : Lft Q → P := by first | (intro k_; ((with_reducible refine at_store rfl ?_); ((with_reducible apply wp_setAT hS _); (focus rfl); (focus rfl); (focus (first | exact ix0 | exact ix1 | exact ix2 | exact ix3 | exact ix4 | exact ix5 | exact ix6)); (focus rfl); (focus (exact tyA)); (focus exact inR)); intro w hS hz; clear hz; (try simp only [List.set_cons_zero, List.set_cons_succ, Nat.zero_add] at hS); (refine no_implicit_lambda% (fct ?_)); intro hc ht hv); revert hv; revert ht; revert hc; revert hS; revert w; with_reducible exact k_.out) | fail) : P := h ⟨k⟩
theorem sazV (k : Q) (h : Lft Q → P := by first | (intro k_; ((with_reducible refine at_store rfl ?_); ((with_reducible apply wp_setAT hS _); (focus rfl); (focus rfl); (focus (first | exact ix0 | exact ix1 | exact ix2 | exact ix3 | exact ix4 | exact ix5 | exact ix6)); (focus rfl); (focus (exact tyA)); (focus exact inV)); intro w hS hz; clear hz; (try simp only [List.set_cons_zero, List.set_cons_succ, Nat.zero_add] at hS); (refine no_implicit_lambda% (fct ?_)); intro hc ht hv); revert hv; revert ht; revert hc; revert hS; revert w; with_reducible exact k_.out) | fail) : P := h ⟨k⟩
theorem sazW (k : Q) (h : Lft Q → P := by first | (intro k_; ((with_reducible refine at_store rfl ?_); ((with_reducible apply wp_setAT hS _); (focus rfl); (focus rfl); (focus (first | exact ix0 | exact ix1 | exact ix2 | exact ix3 | exact ix4 | exact ix5 | exact ix6)); (focus rfl); (focus (exact tyA)); (focus exact inW)); intro w hS hz; clear hz; (try simp only [List.set_cons_zero, List.set_cons_succ, Nat.zero_add] at hS); (refine no_implicit_lambda% (fct ?_)); intro hc ht hv); revert hv; revert ht; revert hc; revert hS; revert w; with_reducible exact k_.out) | fail) : P := h ⟨k⟩
theorem sbzM (k : Q) (h : Lft Q → P := by first | (intro k_; ((with_reducible refine at_store rfl ?_); ((with_reducible apply wp_setAB hS _); (focus rfl); (focus rfl); (focus (first | exact ix0 | exact ix1 | exact ix2 | exact ix3 | exact ix4 | exact ix5 | exact ix6)); (focus rfl); (focus (exact tyA)); (focus exact inM)); intro w hS hks; (try simp only [List.set_cons_zero, List.set_cons_succ, Nat.zero_add] at hS); (refine no_implicit_lambda% (fct ?_)); intro hc ht hv); revert hv; revert ht; revert hc; revert hks; revert hS; revert w; with_reducible exact k_.out) | fail) : P := h ⟨k⟩
theorem sbzR (k : Q) (h : Lft Q → P := by first | (intro k_; ((with_reducible refine at_store rfl ?_); ((with_reducible apply wp_setAB hS _); (focus rfl); (focus rfl); (focus (first | exact ix0 | exact ix1 | exact ix2 | exact ix3 | exact ix4 | exact ix5 | exact ix6)); (focus rfl); (focus (exact tyA)); (focus exact inR)); intro w hS hks; (try simp only [List.set_cons_zero, List.set_cons_succ, Nat.zero_add] at hS); (refine no_implicit_lambda% (fct ?_)); intro hc ht hv); revert hv; revert ht; revert hc; revert hks; revert hS; revert w; with_reducible exact k_.out) | fail) : P := h ⟨k⟩
theorem slA (h : P := by first | (first | (with_reducible assumption) | (simp only [*]; done) | (exact SlV.mono (by with_reducible assumption) hS.ext.le) | exact SlV.nil_ _ _) | fail) : P := h
theorem stI (k : Q) (h : Lft Q → P := by first | (intro k_; ((with_reducible refine at_store rfl ?_); (first | ((with_reducible apply wp_setIT hS _); (focus rfl); (focus rfl); (focus (first | exact ix0 | exact ix1 | exact ix2 | exact ix3 | exact ix4 | exact ix5 | exact ix6)); (focus rfl); (focus rfl); (focus (exact tyA)); (focus (first | exact szI | exact szB | exact szSC | exact szSV | exact szSM | exact szSR)))); intro w hS hz; clear hz; (try simp only [List.set_cons_zero, List.set_cons_succ, Nat.zero_add] at hS); (refine no_implicit_lambda% (fct ?_)); intro hc ht hv); revert hv; revert ht; revert hc; revert hS; revert w; with_reducible exact k_.out) | fail) : P := h ⟨k⟩
theorem stIB (k : Q) (h : Lft Q → P := by first | (intro k_; ((with_reducible refine at_store rfl ?_); (first | ((with_reducible apply wp_setIT hS _); (focus rfl); (focus rfl); (focus (first | exact ix0 | exact ix1 | exact ix2 | exact ix3 | exact ix4 | exact ix5 | exact ix6)); (focus rfl); (focus rfl); (focus (exact tyA)); (focus (first | exact szI | exact szB | exact szSC | exact szSV | exact szSM | exact szSR))) | ((with_reducible apply wp_setBT hS _); (focus rfl); (focus rfl); (focus (first | exact ix0 | exact ix1 | exact ix2 | exact ix3 | exact ix4 | exact ix5 | exact ix6)); (focus rfl); (focus rfl); (focus (exact tyA)); (focus (first | exact szI | exact szB | exact szSC | exact szSV | exact szSM | exact szSR)))); intro w hS hz; clear hz; (try simp only [List.set_cons_zero, List.set_cons_succ, Nat.zero_add] at hS); (refine no_implicit_lambda% (fct ?_)); intro hc ht hv); revert hv; revert ht; revert hc; revert hS; revert w; with_reducible exact k_.out) | fail) : P := h ⟨k⟩
theorem stIS (k : Q) (h : Lft Q → P := by first | (intro k_; ((with_reducible refine at_store rfl ?_); (first | ((with_reducible apply wp_setIT hS _); (focus rfl); (focus rfl); (focus (first | exact ix0 | exact ix1 | exact ix2 | exact ix3 | exact ix4 | exact ix5 | exact ix6)); (focus rfl); (focus rfl); (focus (exact tyA)); (focus (first | exact szI | exact szB | exact szSC | exact szSV | exact szSM | exact szSR))) | ((with_reducible apply wp_setST hS _); (focus rfl); (focus rfl); (focus (first | exact ix0 | exact ix1 | exact ix2 | exact ix3 | exact ix4 | exact ix5 | exact ix6)); (focus rfl); (focus rfl); (focus (exact tyA)); (focus (first | exact szI | exact szB | exact szSC | exact szSV | exact szSM | exact szSR)))); intro w hS hz; clear hz; (try simp only [List.set_cons_zero, List.set_cons_succ, Nat.zero_add] at hS); (refine no_implicit_lambda% (fct ?_)); intro hc ht hv); revert hv; revert ht; revert hc; revert hS; revert w; with_reducible exact k_.out) | fail) : P := h ⟨k⟩
theorem stS (k : Q) (h : Lft Q → P := by first | (intro k_; ((with_reducible refine at_store rfl ?_); (first | ((with_reducible apply wp_setST hS _); (focus rfl); (focus rfl); (focus (first | exact ix0 | exact ix1 | exact ix2 | exact ix3 | exact ix4 | exact ix5 | exact ix6)); (focus rfl); (focus rfl); (focus (exact tyA)); (focus (first | exact szI | exact szB | exact szSC | exact szSV | exact szSM | exact szSR)))); intro w hS hz; clear hz; (try simp only [List.set_cons_zero, List.set_cons_succ, Nat.zero_add] at hS); (refine no_implicit_lambda% (fct ?_)); intro hc ht hv); revert hv; revert ht; revert hc; revert hS; revert w; with_reducible exact k_.out) | fail) : P := h ⟨k⟩
theorem tyA (h : P := by first | (first | (with_reducible assumption) | exact hS.ty _ (by first | exact ix0 | exact ix1 | exact ix2 | exact ix3 | exact ix4 | exact ix5 | exact ix6) | (exact TyE.mono (by with_reducible assumption) hS.ext.le) | (simp only [tyC, tyV, tyM, tyR, tyW, tyE_, tyQ, tys_cons, tys_nil, ok_any, ok_le, ok_rng, ok_bool, ok_sl, slv_nil, true_and, and_true, *]; done) | (simp only [tyC, tyV, tyM, tyR, tyW, tyE_, tyQ, tys_cons, tys_nil, ok_any, ok_le, ok_rng, ok_bool, ok_sl, slv_nil, true_and, and_true, *]; omega) | (simp only [List.take_succ_cons, List.take_zero, List.drop_succ_cons, List.drop_zero, List.cons_append, List.nil_append, List.length_cons, List.length_nil, Nat.zero_add, Nat.reduceAdd, tyC, tyV, tyM, tyR, tyW, tyE_, tyQ, tys_cons, tys_nil, ok_any, ok_le, ok_rng, ok_bool, ok_sl, slv_nil, true_and, and_true, *]; first | done | omega)) | fail) : P := h
end
end Go.Proofs.YtopmbnnjhoinkaaGreat
