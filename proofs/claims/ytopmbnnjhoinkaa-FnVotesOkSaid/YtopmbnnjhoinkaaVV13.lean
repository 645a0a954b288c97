/-
  What 'FVd' rests on (texts of this seat put together: RegB TA TB).
  Conditions: none.
-/
import Derived.Test.YtopmbnnjhoinkaaVV4
import Derived.Test.YtopmbnnjhoinkaaVV2
import Derived.Test.YtopmbnnjhoinkaaVV12
import Derived.WalkKit
namespace Go.Proofs.Ytopmbnnjhoinkaa.Rg
open Go Go.RowKit
set_option linter.unusedVariables false
set_option linter.unusedSimpArgs false
set_option maxHeartbeats 1000000
structure SinceB (K : Nat) (w0 w2 : World) : Prop where
  size : w0.heap.size ≤ w2.heap.size
  block : ∀ b, b < K → w2.heap[b]? = w0.heap[b]?
section
variable {K K' : Nat} {w0 w w' : World}
theorem SinceB.refl (K : Nat) (w : World) : SinceB K w w := ⟨Nat.le_refl _, fun _ _ => rfl⟩
theorem SinceB.drew (K : Nat) (w : World) : SinceB K w w.drew := ⟨Nat.le_refl _, fun _ _ => rfl⟩
theorem SinceB.drewR (h : SinceB K w0 w) : SinceB K w0 w.drew := ⟨h.size, h.block⟩
theorem SinceB.below (h : SinceB K w0 w) (hb : Below K' w w') (hK : K ≤ K') : SinceB K w0 w' :=
  ⟨Nat.le_trans h.size hb.size, fun b hb' => (hb.block b (Nat.lt_of_lt_of_le hb' hK)).trans (h.block b hb')⟩
theorem SinceB.only {g : Option Nat} (h : SinceB K w0 w) (hb : Only K' g w w') (hK : K ≤ K') (hg : ∀ k, g = some k → K ≤ k) : SinceB K w0 w' :=
  ⟨Nat.le_trans h.size hb.size, fun b hb' => (hb.block b (Nat.lt_of_lt_of_le hb' hK) (fun e => by have := hg b e; omega)).trans (h.block b hb')⟩
theorem SinceB.alloc (h : SinceB K w0 w) (hK : K ≤ w.heap.size) (o : Obj) : SinceB K w0 (w.alloc o) := h.below ((Below.refl w.heap.size w).alloc (Nat.le_refl _) o) hK
theorem SinceB.set (h : SinceB K w0 w) {p : Addr} (hp : K ≤ p.block) (u : Value) : SinceB K w0 (w.setCell p u) := h.below ((Below.refl K w).setCell hp u) (Nat.le_refl _)
theorem SinceB.and_ {R : Prop} (h : SinceB K w0 w) (k : SinceB K w0 w → R) : SinceB K w0 w ∧ R := ⟨h, k h⟩
end
end Go.Proofs.Ytopmbnnjhoinkaa.Rg
namespace Go.Proofs.Ytopmbnnjhoinkaa
open Go Go.RowKit Rg
set_option linter.unusedVariables false
set_option linter.unusedSimpArgs false
set_option maxHeartbeats 1000000
abbrev tW : TypeId := 48
abbrev tE : TypeId := 94
abbrev tQ : TypeId := 25
abbrev Cx := Nat → Option (TypeId × Nat)
inductive CT where
  | any
  | le (m : Int)
  | rng (lo hi : Int)
  | bool
  | sl (e : TypeId) (mx : Nat)
def F0 (e : TypeId) : List CT :=
  if e = 27 then [.le 100, .any, .any, .any, .any, .any, .any]
  else if e = 42 then [.any, .sl 27 100]
  else if e = 34 then [.any, .any, .any, .le 100, .any, .any, .any, .any, .any, .sl 27 100, .sl 42 100]
  else if e = 48 then [.any, .sl 87 4, .sl 34 200]
  else if e = 94 then [.any, .any, .any, .any, .any, .any, .le 100, .any, .any, .any, .any, .any, .sl 27 100, .sl 42 100]
  else if e = 25 then [.any, .any, .any, .any, .any]
  else []
def F (T D : Nat) (e : TypeId) : List CT := if e = 87 then [.rng 0 3, .any, .bool, .any, .sl 27 T, .sl 34 120, .sl 27 D] else F0 e
def isz (e : TypeId) : Nat := (F 0 0 e).length
theorem F_len (T D : Nat) (e : TypeId) : (F T D e).length = isz e := by
  unfold isz F
  split <;> rfl
def SlV (c : Cx) (e : TypeId) (v : Value) : Prop :=
  v = .slice none 0 0 ∨ ∃ g k n d N, v = .slice (some ⟨g, k * isz e, none⟩) n d ∧ n ≤ d ∧ d ≤ maxLen ∧ c g = some (e, N) ∧ k * isz e + d * isz e ≤ N
def slen : Value → Nat
  | .slice _ n _ => n
  | _ => 0
def CT.ok (c : Cx) : CT → Value → Prop
  | .any, v => ∃ x, v = .int .i64 x
  | .le m, v => ∃ x, v = .int .i64 x ∧ x ≤ m
  | .rng lo hi, v => ∃ x, v = .int .i64 x ∧ lo ≤ x ∧ x ≤ hi
  | .bool, v => ∃ b, v = .bool b
  | .sl e mx, v => SlV c e v ∧ slen v ≤ mx
def Tys (c : Cx) : List CT → List Value → Prop
  | [], [] => True
  | t :: ts, v :: vs => t.ok c v ∧ Tys c ts vs
  | [], _ :: _ => False
  | _ :: _, [] => False
def TyE (T D : Nat) (c : Cx) (e : TypeId) (vs : List Value) : Prop := Tys c (F T D e) vs
def Cx.le (c c' : Cx) : Prop := ∀ b x, c b = some x → c' b = some x
theorem Cx.le.refl (c : Cx) : Cx.le c c := fun _ _ h => h
theorem Cx.le.trans {a b c : Cx} (h : Cx.le a b) (k : Cx.le b c) : Cx.le a c := fun i x hx => k i x (h i x hx)
structure Ext (N : Nat) (c c' : Cx) : Prop where
  le : Cx.le c c'
  old : ∀ b, b < N → c' b = c b
theorem Ext.refl (N : Nat) (c : Cx) : Ext N c c := ⟨Cx.le.refl c, fun _ _ => rfl⟩
theorem Ext.trans {N N' : Nat} {a b c : Cx} (h : Ext N a b) (k : Ext N' b c) (hN : N ≤ N') : Ext N a c := ⟨h.le.trans k.le, fun i hi => (k.old i (by omega)).trans (h.old i hi)⟩
section
variable {c c' : Cx} {T D T' D' : Nat} {e : TypeId} {v : Value} {vs : List Value} {ts : List CT}
theorem SlV.mono (h : SlV c e v) (hc : Cx.le c c') : SlV c' e v := by
  rcases h with h | ⟨g, k, n, d, N, h1, h2, h3, h4, h5⟩
  · exact .inl h
  · exact .inr ⟨g, k, n, d, N, h1, h2, h3, hc _ _ h4, h5⟩
theorem SlV.nil_ (c : Cx) (e : TypeId) : SlV c e (.slice none 0 0) := .inl rfl
theorem SlV.form (h : SlV c e v) : ∃ A n d, v = .slice A n d ∧ n ≤ d ∧ d ≤ maxLen := by
  rcases h with h | ⟨g, k, n, d, N, h1, h2, h3, _⟩
  · exact ⟨none, 0, 0, h, Nat.le_refl _, by simp [maxLen]⟩
  · exact ⟨_, n, d, h1, h2, h3⟩
theorem SlV.cap {A : Option Addr} {n d : Nat} (h : SlV c e (.slice A n d)) : n ≤ d ∧ d ≤ maxLen := by
  obtain ⟨A', n', d', h1, h2, h3⟩ := h.form
  injection h1 with h4 h5 h6
  subst h5; subst h6
  exact ⟨h2, h3⟩
theorem SlV.addr {A : Option Addr} {n d i : Nat} (h : SlV c e (.slice A n d)) (hi : i < n) : ∃ g off, A = some ⟨g, off, none⟩ := by
  rcases h with h | ⟨g, k, n', d', N, h1, _⟩
  · injection h with h1 h2 h3; omega
  · injection h1 with h1; exact ⟨_, _, h1⟩
theorem CT.ok.mono {t : CT} (h : t.ok c v) (hc : Cx.le c c') : t.ok c' v := by
  cases t
  case sl e mx => exact ⟨h.1.mono hc, h.2⟩
  all_goals exact h
theorem CT.ok.one {t : CT} (h : t.ok c v) : v.oneCell' = true := by
  cases t
  case sl e mx =>
    obtain ⟨A, n, d, rfl, _⟩ := h.1.form
    rfl
  case any => obtain ⟨x, rfl⟩ := h; rfl
  case le => obtain ⟨x, rfl, _⟩ := h; rfl
  case rng => obtain ⟨x, rfl, _⟩ := h; rfl
  case bool => obtain ⟨x, rfl⟩ := h; rfl
theorem Tys.len : ∀ {ts : List CT} {vs : List Value}, Tys c ts vs → vs.length = ts.length
  | [], [], _ => rfl
  | t :: ts, v :: vs, h => by simp [Tys.len h.2]
  | [], _ :: _, h => h.elim
  | _ :: _, [], h => h.elim
theorem Tys.get : ∀ {ts : List CT} {vs : List Value}, Tys c ts vs → ∀ (j : Nat) (u : Value), vs[j]? = some u → ∃ t, ts[j]? = some t ∧ t.ok c u
  | [], [], _, j, u, hu => by simp at hu
  | t :: ts, v :: vs, h, 0, u, hu => by simp at hu; subst hu; exact ⟨t, rfl, h.1⟩
  | t :: ts, v :: vs, h, j + 1, u, hu => by
    obtain ⟨t', h1, h2⟩ := Tys.get h.2 j u (by simpa using hu)
    exact ⟨t', by simpa using h1, h2⟩
  | [], _ :: _, h, _, _, _ => h.elim
  | _ :: _, [], h, _, _, _ => h.elim
theorem Tys.of_get : ∀ {ts : List CT} {vs : List Value}, vs.length = ts.length → (∀ (j : Nat) (u : Value), vs[j]? = some u → ∃ t, ts[j]? = some t ∧ t.ok c u) → Tys c ts vs
  | [], [], _, _ => trivial
  | t :: ts, v :: vs, hl, h => by
    obtain ⟨t', h1, h2⟩ := h 0 v rfl
    simp at h1
    subst h1
    exact ⟨h2, Tys.of_get (by simpa using hl) fun j u hu => by
      obtain ⟨t', h1, h2⟩ := h (j + 1) u (by simpa using hu)
      exact ⟨t', by simpa using h1, h2⟩⟩
  | [], _ :: _, hl, _ => by simp at hl
  | _ :: _, [], hl, _ => by simp at hl
theorem F_up (hT : T ≤ T') (hD : D ≤ D') (hc : Cx.le c c') {j : Nat} {t : CT} (h : (F T D e)[j]? = some t) (ho : t.ok c v) : ∃ t', (F T' D' e)[j]? = some t' ∧ t'.ok c' v := by
  unfold F at h ⊢
  split at h
  · rename_i he
    rw [if_pos he]
    match j, h with
    | 0, h => injection h with h; subst h; exact ⟨_, rfl, ho.mono hc⟩
    | 1, h => injection h with h; subst h; exact ⟨_, rfl, ho.mono hc⟩
    | 2, h => injection h with h; subst h; exact ⟨_, rfl, ho.mono hc⟩
    | 3, h => injection h with h; subst h; exact ⟨_, rfl, ho.mono hc⟩
    | 4, h => injection h with h; subst h; exact ⟨_, rfl, ho.1.mono hc, Nat.le_trans ho.2 hT⟩
    | 5, h => injection h with h; subst h; exact ⟨_, rfl, ho.mono hc⟩
    | 6, h => injection h with h; subst h; exact ⟨_, rfl, ho.1.mono hc, Nat.le_trans ho.2 hD⟩
    | j + 7, h => simp at h
  · rename_i he
    rw [if_neg he]
    exact ⟨t, h, ho.mono hc⟩
theorem TyE.len (h : TyE T D c e vs) : vs.length = isz e := (Tys.len h).trans (F_len T D e)
theorem TyE.up (h : TyE T D c e vs) (hT : T ≤ T') (hD : D ≤ D') (hc : Cx.le c c') : TyE T' D' c' e vs :=
  Tys.of_get (by rw [F_len, h.len]) fun j u hu => by
    obtain ⟨t, h1, h2⟩ := Tys.get h j u hu
    exact F_up hT hD hc h1 h2
theorem TyE.mono (h : TyE T D c e vs) (hc : Cx.le c c') : TyE T D c' e vs := h.up (Nat.le_refl _) (Nat.le_refl _) hc
theorem TyE.one (h : TyE T D c e vs) : ∀ u ∈ vs, u.oneCell' = true := by
  intro u hu
  obtain ⟨j, hj, rfl⟩ := List.mem_iff_getElem.1 hu
  obtain ⟨t, _, h2⟩ := Tys.get h j vs[j] (List.getElem?_eq_getElem hj)
  exact h2.one
theorem TyE.set {j : Nat} {u : Value} {t : CT} (h : TyE T D c e vs) (ht : (F T D e)[j]? = some t) (hu : t.ok c u) : TyE T D c e (vs.set j u) :=
  Tys.of_get (by rw [List.length_set, h.len, F_len]) fun i x hx => by
    by_cases hij : j = i
    · subst hij
      rw [List.getElem?_set_self (by rw [h.len, ← F_len T D e]; exact (List.getElem?_eq_some_iff.1 ht).1)] at hx
      injection hx with hx
      subst hx
      exact ⟨t, ht, hu⟩
    · rw [List.getElem?_set_ne hij] at hx
      exact Tys.get h i x hx
end
def TW (T D : Nat) (c : Cx) (w : World) : Prop :=
  ∀ b e N, c b = some (e, N) → ∃ cs : Array Value, w.heap[b]? = some (.cells cs e (0, 0)) ∧ cs.size = N ∧ ∀ (j : Nat) (u : Value), cs[j]? = some u → ∃ t, (F T D e)[j % isz e]? = some t ∧ t.ok c u
section
variable {c c' : Cx} {T D T' D' : Nat} {e : TypeId} {v : Value} {vs : List Value} {ts : List CT} {w w' : World}
theorem TW.up (h : TW T D c w) (hT : T ≤ T') (hD : D ≤ D') : TW T' D' c w := fun b e N hb => by
  obtain ⟨cs, h1, h2, h3⟩ := h b e N hb
  refine ⟨cs, h1, h2, fun j u hu => ?_⟩
  obtain ⟨t, h4, h5⟩ := h3 j u hu
  exact F_up hT hD (Cx.le.refl c) h4 h5
theorem TW.lt (h : TW T D c w) {b : Nat} {x : TypeId × Nat} (hb : c b = some x) : b < w.heap.size := by
  obtain ⟨cs, h1, _⟩ := h b x.1 x.2 hb
  exact lt_of_heap h1
theorem TW.none_ (h : TW T D c w) {b : Nat} (hb : w.heap.size ≤ b) : c b = none := by
  cases hc : c b with
  | none => rfl
  | some x => have := h.lt hc; omega
theorem TW.keep (h : TW T D c w) (hk : ∀ b x, c b = some x → w'.heap[b]? = w.heap[b]?) : TW T D c w' := fun b e N hb => by
  obtain ⟨cs, h1, h2, h3⟩ := h b e N hb
  exact ⟨cs, (hk b _ hb).trans h1, h2, h3⟩
theorem TW.only {g : Option Nat} (h : TW T D c w) (ho : Only w.heap.size g w w') (hg : ∀ k, g = some k → c k = none) : TW T D c w' :=
  h.keep fun b x hb => ho.block b (h.lt hb) (fun e => by rw [hg b e] at hb; cases hb)
theorem TW.below (h : TW T D c w) (ho : Below w.heap.size w w') : TW T D c w' := h.keep fun b x hb => ho.block b (h.lt hb)
theorem TW.alloc (h : TW T D c w) (o : Obj) : TW T D c (w.alloc o) := h.below ((Below.refl _ _).alloc (Nat.le_refl _) o)
theorem TW.drew (h : TW T D c w) : TW T D c w.drew := h
theorem TW.setCell (h : TW T D c w) {p : Addr} (hp : c p.block = none) (u : Value) : TW T D c (w.setCell p u) :=
  h.keep fun b x hb => Below.heap_setCell w p u b (by rintro rfl; rw [hp] at hb; cases hb)
def Cx.put (c : Cx) (b : Nat) (x : TypeId × Nat) : Cx := fun i => if i = b then some x else c i
theorem Cx.put_same (c : Cx) (b : Nat) (x : TypeId × Nat) : c.put b x b = some x := if_pos rfl
theorem Cx.put_other (c : Cx) {b i : Nat} (x : TypeId × Nat) (h : i ≠ b) : c.put b x i = c i := if_neg h
theorem Ext.put {c : Cx} {b N : Nat} (x : TypeId × Nat) (hb : c b = none) (hN : N ≤ b) : Ext N c (c.put b x) :=
  ⟨fun i y hi => by
    by_cases h : i = b
    · subst h; rw [hb] at hi; cases hi
    · rw [Cx.put_other c x h]; exact hi,
   fun i hi => Cx.put_other c x (by omega)⟩
theorem TW.row (h : TW T D c w) {cs : Array Value} (hcs : ∀ (j : Nat) (u : Value), cs[j]? = some u → ∃ t, (F T D e)[j % isz e]? = some t ∧ t.ok c u) :
    TW T D (c.put w.heap.size (e, cs.size)) (w.alloc (.cells cs e)) := fun b e' N hb => by
  have hx : Cx.le c (c.put w.heap.size (e, cs.size)) := (Ext.put (N := 0) _ (h.none_ (Nat.le_refl _)) (Nat.zero_le _)).le
  by_cases hbs : b = w.heap.size
  · subst hbs
    rw [Cx.put_same] at hb
    injection hb with hb
    injection hb with h1 h2
    subst h1; subst h2
    refine ⟨cs, heap_alloc_new w _, rfl, fun j u hu => ?_⟩
    obtain ⟨t, h1, h2⟩ := hcs j u hu
    exact ⟨t, h1, h2.mono hx⟩
  · rw [Cx.put_other c _ hbs] at hb
    obtain ⟨cs', h1, h2, h3⟩ := h.alloc (.cells cs e) b e' N hb
    refine ⟨cs', h1, h2, fun j u hu => ?_⟩
    obtain ⟨t, h1, h2⟩ := h3 j u hu
    exact ⟨t, h1, h2.mono hx⟩
theorem TW.turn (h : TW T D c w) {b N : Nat} (hb : c b = some (e, N)) {cs : Array Value} (hsz : cs.size = N) (hcs : ∀ (j : Nat) (u : Value), cs[j]? = some u → ∃ t, (F T D e)[j % isz e]? = some t ∧ t.ok c u)
    (hn : w'.heap[b]? = some (.cells cs e (0, 0))) (hk : ∀ i, i ≠ b → i < w.heap.size → w'.heap[i]? = w.heap[i]?) : TW T D c w' := fun i e' N' hi => by
  by_cases hib : i = b
  · subst hib
    rw [hb] at hi
    injection hi with hi
    injection hi with h1 h2
    subst h1; subst h2
    exact ⟨cs, hn, hsz, hcs⟩
  · obtain ⟨cs', h1, h2, h3⟩ := h i e' N' hi
    exact ⟨cs', (hk i hib (h.lt hi)).trans h1, h2, h3⟩
end
theorem mod_row {sz : Nat} (k j : Nat) (hj : j < sz) : (k * sz + j) % sz = j := by
  rw [Nat.add_comm, Nat.add_mul_mod_self_right, Nat.mod_eq_of_lt hj]
section
variable {c : Cx} {T D : Nat} {e : TypeId} {w : World}
theorem TW.cells (hT : TW T D c w) {g off n d : Nat} (hv : SlV c e (.slice (some ⟨g, off, none⟩) n d)) : ∃ us : List Value, us.length = n * isz e ∧ (∀ (j : Nat) (u : Value), us[j]? = some u → w.cell? ⟨g, off + j, none⟩ = some u) ∧
    ∀ (j : Nat) (u : Value), us[j]? = some u → ∃ t, (F T D e)[j % isz e]? = some t ∧ t.ok c u := by
  rcases hv with h | ⟨g', k, n', d', N, h1, h2, h3, h4, h5⟩
  · cases h
  · injection h1 with h1 h6 h7
    injection h1 with h1
    injection h1 with h1 h8
    subst h1; subst h6; subst h7; subst h8
    obtain ⟨cs, h6, h7, h8⟩ := hT g e N h4
    have hle : k * isz e + n * isz e ≤ cs.size := by
      have := Nat.mul_le_mul_right (isz e) h2
      omega
    have hget : ∀ (j : Nat) (u : Value), ((cs.toList.drop (k * isz e)).take (n * isz e))[j]? = some u → cs[k * isz e + j]? = some u := by
      intro j u hu
      rw [List.getElem?_take] at hu
      split at hu
      · rw [List.getElem?_drop] at hu
        simpa using hu
      · cases hu
    refine ⟨(cs.toList.drop (k * isz e)).take (n * isz e), ?_, fun j u hu => ?_, fun j u hu => ?_⟩
    · rw [List.length_take, List.length_drop, Array.length_toList]; omega
    · simp only [World.cell?, h6]
      exact hget j u hu
    · obtain ⟨t, h9, h10⟩ := h8 _ u (hget j u hu)
      rw [Nat.add_comm, Nat.add_mul_mod_self_right] at h9
      exact ⟨t, h9, h10⟩
theorem TW.elem (hT : TW T D c w) {g off n d i : Nat} (hv : SlV c e (.slice (some ⟨g, off, none⟩) n d)) (hi : i < n) : ∃ us : List Value, (∀ (j : Nat) (u : Value), us[j]? = some u → w.cell? ⟨g, off + i * isz e + j, none⟩ = some u) ∧ TyE T D c e us := by
  obtain ⟨us, h1, h2, h3⟩ := hT.cells hv
  have hle : i * isz e + isz e ≤ n * isz e := by
    have := Nat.mul_le_mul_right (isz e) (show i + 1 ≤ n by omega)
    rw [Nat.add_mul] at this; omega
  have hget : ∀ (j : Nat) (u : Value), ((us.drop (i * isz e)).take (isz e))[j]? = some u → us[i * isz e + j]? = some u ∧ j < isz e := by
    intro j u hu
    rw [List.getElem?_take] at hu
    split at hu
    · rename_i hj
      rw [List.getElem?_drop] at hu
      exact ⟨hu, hj⟩
    · cases hu
  refine ⟨(us.drop (i * isz e)).take (isz e), fun j u hu => ?_, Tys.of_get ?_ fun j u hu => ?_⟩
  · have := h2 _ u (hget j u hu).1
    rw [← Nat.add_assoc] at this
    exact this
  · rw [List.length_take, List.length_drop, F_len]; omega
  · obtain ⟨h4, h5⟩ := hget j u hu
    obtain ⟨t, h6, h7⟩ := h3 _ u h4
    rw [mod_row _ _ h5] at h6
    exact ⟨t, h6, h7⟩
end
structure Bs where
  c0 : Cx
  w0 : World
  G : Option Nat
abbrev LE := Nat × TypeId × List Value
abbrev VE := TypeId × (List Value → Prop) × Value
structure St (k : Bs) (P T D : Nat) (c : Cx) (L : List LE) (V : List VE) (w : World) : Prop where
  ext : Ext k.w0.heap.size k.c0 c
  tw : TW T D c w
  on : Only k.w0.heap.size k.G k.w0 w
  rd : ∀ g, k.G = some g → Rd w g P ∧ g < k.w0.heap.size ∧ c g = none
  bx : ∀ x ∈ L, w.heap[x.1]? = some (.cells x.2.2.toArray x.2.1 (0, 0)) ∧ k.w0.heap.size ≤ x.1 ∧ c x.1 = none ∧ TyE T D c x.2.1 x.2.2
  nd : L.Pairwise (fun x y => x.1 ≠ y.1)
  vs : ∀ x ∈ V, SlV c x.1 x.2.2 ∧ ∃ ls : List (Cs (isz x.1)), Own Cs.val (isz x.1) x.1 w k.w0.heap.size x.2.2 ls ∧ ∀ y ∈ ls, x.2.1 y.val
  vd : V.Pairwise (fun x y => ∀ j, x.2.2.ownBlock = some j → y.2.2.ownBlock ≠ some j)
theorem Only.szB {B : Nat} {g : Option Nat} {w w' : World} (h : Only B g w w') : w.heap.size ≤ w'.heap.size := h.size
section
variable {k : Bs} {P T D P' T' D' : Nat} {c c' : Cx} {L : List LE} {V : List VE} {w w' : World}
theorem St.start {c : Cx} {w : World} {G : Option Nat} (hT : TW T D c w) (hr : ∀ g, G = some g → Rd w g P ∧ c g = none) : St ⟨c, w, G⟩ P T D c [] [] w :=
  ⟨Ext.refl _ _, hT, Only.refl _ _ _, fun g hg => ⟨(hr g hg).1, (hr g hg).1.lt, (hr g hg).2⟩, fun x hx => (by cases hx), List.Pairwise.nil, fun x hx => (by cases hx), List.Pairwise.nil⟩
theorem St.base (h : St k P T D c L V w) : k.w0.heap.size ≤ w.heap.size := h.on.size
theorem St.neG (h : St k P T D c L V w) {b : Nat} (hb : k.w0.heap.size ≤ b) : k.G ≠ some b := fun e => by have := (h.rd b e).2.1; omega
theorem St.move (h : St k P T D c L V w) (hx : Ext w.heap.size c c') (hT : TW T' D' c' w') (hTT : T ≤ T') (hDD : D ≤ D') (ho : Only w.heap.size k.G w w') (hr : ∀ g, k.G = some g → Rd w' g P') : St k P' T' D' c' L V w' := by
  have hb := h.base
  refine ⟨h.ext.trans hx hb, hT, h.on.trans (ho.mono hb), fun g hg => ?_, fun x hx' => ?_, h.nd, fun x hx' => ?_, h.vd⟩
  · obtain ⟨h1, h2, h3⟩ := h.rd g hg
    exact ⟨hr g hg, h2, by rw [hx.old g (by omega)]; exact h3⟩
  · obtain ⟨h1, h2, h3, h4⟩ := h.bx x hx'
    have hl := lt_of_heap h1
    exact ⟨(ho.block x.1 hl (h.neG h2)).trans h1, h2, by rw [hx.old x.1 hl]; exact h3, h4.up hTT hDD hx.le⟩
  · obtain ⟨h1, ls, h2, h3⟩ := h.vs x hx'
    exact ⟨h1.mono hx.le, ls, h2.only ho (Nat.le_refl _) (fun j hj => h.neG (h2.lt j hj).1), h3⟩
theorem St.raise (h : St k P T D c L V w) (hTT : T ≤ T') (hDD : D ≤ D') : St k P T' D' c L V w := h.move (Ext.refl _ _) (h.tw.up hTT hDD) hTT hDD (Only.refl _ _ _) (fun g hg => (h.rd g hg).1)
theorem St.below (h : St k P T D c L V w) (hx : Ext w.heap.size c c') (hT : TW T' D' c' w') (hTT : T ≤ T') (hDD : D ≤ D') (ho : Below w.heap.size w w') : St k P T' D' c' L V w' :=
  h.move hx hT hTT hDD (Only.of_below ho) (fun g hg => (h.rd g hg).1.keep ho)
theorem St.past (h : St k P T D c L V w) (ho : Below w.heap.size w w') : St k P T D c L V w' := h.below (Ext.refl _ _) (h.tw.below ho) (Nat.le_refl _) (Nat.le_refl _) ho
theorem St.alloc (h : St k P T D c L V w) (o : Obj) : St k P T D c L V (w.alloc o) := h.past ((Below.refl _ _).alloc (Nat.le_refl _) o)
theorem St.drew (h : St k P T D c L V w) : St k P T D c L V w.drew := h.past (Below.refl _ _).drew
theorem St.pastR {g : Nat} (h : St k P T D c L V w) (hg : k.G = some g) (ho : Only w.heap.size (some g) w w') (hr : Rd w' g P') : St k P' T D c L V w' :=
  h.move (Ext.refl _ _) (h.tw.only ho (fun j hj => by injection hj with hj; subst hj; exact (h.rd g hg).2.2)) (Nat.le_refl _) (Nat.le_refl _) (by rw [hg]; exact ho) (fun j hj => by rw [hg] at hj; injection hj with hj; subst hj; exact hr)
theorem St.tailL {x : LE} (h : St k P T D c (x :: L) V w) : St k P T D c L V w :=
  ⟨h.ext, h.tw, h.on, h.rd, fun y hy => h.bx y (List.mem_cons_of_mem _ hy), (List.pairwise_cons.1 h.nd).2, h.vs, h.vd⟩
theorem St.tailV {x : VE} (h : St k P T D c L (x :: V) w) : St k P T D c L V w :=
  ⟨h.ext, h.tw, h.on, h.rd, h.bx, h.nd, fun y hy => h.vs y (List.mem_cons_of_mem _ hy), (List.pairwise_cons.1 h.vd).2⟩
theorem St.tailV1 {x y : VE} (h : St k P T D c L (x :: y :: V) w) : St k P T D c L (x :: V) w :=
  ⟨h.ext, h.tw, h.on, h.rd, h.bx, h.nd, fun z hz => h.vs z (by rcases List.mem_cons.1 hz with rfl | h2; exact List.mem_cons_self; exact List.mem_cons_of_mem _ (List.mem_cons_of_mem _ h2)),
    by
      have h1 := List.pairwise_cons.1 h.vd
      have h2 := List.pairwise_cons.1 h1.2
      exact List.pairwise_cons.2 ⟨fun z hz => h1.1 z (List.mem_cons_of_mem _ hz), h2.2⟩⟩
theorem St.box {e : TypeId} {vs : List Value} (h : St k P T D c L V w) (hv : TyE T D c e vs) : St k P T D c ((w.heap.size, e, vs) :: L) V (w.alloc (.cells vs.toArray e)) := by
  have h1 := h.alloc (.cells vs.toArray e)
  refine ⟨h1.ext, h1.tw, h1.on, h1.rd, fun x hx => ?_, List.pairwise_cons.2 ⟨fun y hy => ?_, h1.nd⟩, h1.vs, h1.vd⟩
  · rcases List.mem_cons.1 hx with rfl | hx
    · exact ⟨heap_alloc_new w _, h.base, h.tw.none_ (Nat.le_refl _), hv⟩
    · exact h1.bx x hx
  · have := lt_of_heap (h.bx y hy).1
    show w.heap.size ≠ y.1
    omega
theorem pw_set {α : Type} {R : α → α → Prop} {l : List α} (hl : l.Pairwise R) {i : Nat} {x y : α} (hi : l[i]? = some x) (h1 : ∀ z, R x z → R y z) (h2 : ∀ z, R z x → R z y) : (l.set i y).Pairwise R := by
  induction l generalizing i with
  | nil => simp
  | cons a l ih =>
    obtain ⟨h3, h4⟩ := List.pairwise_cons.1 hl
    cases i with
    | zero =>
      simp at hi
      subst hi
      exact List.pairwise_cons.2 ⟨fun z hz => h1 z (h3 z hz), h4⟩
    | succ i =>
      simp at hi
      refine List.pairwise_cons.2 ⟨fun z hz => ?_, ih h4 hi⟩
      rcases List.mem_or_eq_of_mem_set hz with hz | rfl
      · exact h3 z hz
      · exact h2 a (h3 x (List.mem_of_getElem? hi))
theorem mem_set_iff {α : Type} {l : List α} {i : Nat} {y z : α} (h : z ∈ l.set i y) : z = y ∨ ∃ j, j ≠ i ∧ l[j]? = some z := by
  obtain ⟨j, hj, rfl⟩ := List.mem_iff_getElem.1 h
  by_cases hij : i = j
  · subst hij; left; simp
  · right
    refine ⟨j, fun e => hij e.symm, ?_⟩
    rw [List.getElem_set_ne hij]
    exact List.getElem?_eq_getElem _
theorem St.put {i b : Nat} {e : TypeId} {vs us : List Value} (h : St k P T D c L V w) (hi : L[i]? = some (b, e, vs)) (hv : TyE T D c e us) (ho : Only w.heap.size (some b) w w') (hn : w'.heap[b]? = some (.cells us.toArray e (0, 0))) : St k P T D c (L.set i (b, e, us)) V w' := by
  have hb := h.base
  obtain ⟨b1, b2, b3, b4⟩ := h.bx _ (List.mem_of_getElem? hi)
  have hlt := lt_of_heap b1
  have hne : ∀ j, c j ≠ none → (some b : Option Nat) ≠ some j := fun j hj e => by injection e with e; subst e; exact hj b3
  refine ⟨h.ext, h.tw.keep (fun j x hj => ho.block j (h.tw.lt hj) (hne j (by rw [hj]; simp))), h.on.trans ⟨ho.os, ho.tape, ho.output, ho.size, fun j hj hg => ho.block j (by omega) (fun e => by injection e with e; subst e; have : k.w0.heap.size ≤ b := b2; omega)⟩, fun g hg => ?_, fun x hx => ?_, ?_, fun x hx => ?_, h.vd⟩
  · obtain ⟨h1, h2, h3⟩ := h.rd g hg
    exact ⟨h1.only ho (fun j hj => by injection hj with hj; subst hj; have : k.w0.heap.size ≤ b := b2; omega), h2, h3⟩
  · rcases mem_set_iff hx with rfl | ⟨j, hj, hjx⟩
    · exact ⟨hn, b2, b3, hv⟩
    · obtain ⟨h1, h2, h3, h4⟩ := h.bx x (List.mem_of_getElem? hjx)
      refine ⟨(ho.block x.1 (lt_of_heap h1) (fun e => ?_)).trans h1, h2, h3, h4⟩
      injection e with e
      have hpw := List.pairwise_iff_getElem.1 h.nd
      obtain ⟨hil, hi'⟩ := List.getElem?_eq_some_iff.1 hi
      obtain ⟨hjl, hj'⟩ := List.getElem?_eq_some_iff.1 hjx
      rcases Nat.lt_or_gt_of_ne hj with hlt' | hlt'
      · exact hpw j i hjl hil hlt' (by rw [hj', hi']; exact e.symm)
      · exact hpw i j hil hjl hlt' (by rw [hj', hi']; exact e)
  · exact pw_set h.nd hi (fun z hz => hz) (fun z hz => hz)
  · obtain ⟨h1, ls, h2, h3⟩ := h.vs x hx
    refine ⟨h1, ls, h2.keep (fun j hj => ho.block j (h2.lt j hj).2 (fun e => ?_)), h3⟩
    injection e with e
    subst e
    rcases h1 with h1 | ⟨g, q, n, d, N, h1, _, _, h5, _⟩
    · rw [h1] at hj; simp [Value.ownBlock] at hj
    · rw [h1] at hj; simp [Value.ownBlock] at hj; subst hj; rw [b3] at h5; cases h5
theorem St.set {i b j : Nat} {e : TypeId} {vs : List Value} {u : Value} {t : CT} (h : St k P T D c L V w) (hi : L[i]? = some (b, e, vs)) (ht : (F T D e)[j]? = some t) (hu : t.ok c u) : St k P T D c (L.set i (b, e, vs.set j u)) V (w.setCell ⟨b, j, none⟩ u) := by
  obtain ⟨b1, b2, b3, b4⟩ := h.bx _ (List.mem_of_getElem? hi)
  have b1 : w.heap[b]? = some (.cells vs.toArray e (0, 0)) := b1
  refine h.put hi (b4.set ht hu) (Only.put (g := b) [u] (Only.refl _ _ _)) ?_
  simp [World.setCell, Array.getElem?_modify, b1]
theorem St.setAll {i b : Nat} {e : TypeId} {vs us : List Value} (h : St k P T D c L V w) (hi : L[i]? = some (b, e, vs)) (hv : TyE T D c e us) : St k P T D c (L.set i (b, e, us)) V (putCells w b 0 us) := by
  obtain ⟨b1, b2, b3, b4⟩ := h.bx _ (List.mem_of_getElem? hi)
  have hl : us.length = vs.length := by rw [hv.len, b4.len]
  refine h.put hi hv (Only.put us (Only.refl _ _ _)) ?_
  obtain ⟨cur', h1, h2, h3⟩ := heap_putCells us w b 0 _ _ b1 (by simp [hl])
  have : cur' = us.toArray := by
    apply Array.toList_inj.1
    rw [h3]
    simp [hl]
  rw [← this]
  exact h1
theorem St.addV {e : TypeId} {Pr : List Value → Prop} {v : Value} {lo : Nat} {ls : List (Cs (isz e))} (h : St k P T D c L V w) (hv : SlV c e v) (ho : Own Cs.val (isz e) e w lo v ls) (hP : ∀ y ∈ ls, Pr y.val) (hlo : k.w0.heap.size ≤ lo) (hn : ∀ x ∈ V, ∀ j, x.2.2.ownBlock = some j → j < lo) : St k P T D c L ((e, Pr, v) :: V) w := by
  refine ⟨h.ext, h.tw, h.on, h.rd, h.bx, h.nd, fun x hx => ?_, List.pairwise_cons.2 ⟨fun y hy j hj hj2 => ?_, h.vd⟩⟩
  · rcases List.mem_cons.1 hx with rfl | hx
    · exact ⟨hv, ls, ho.mono hlo, hP⟩
    · exact h.vs x hx
  · have h1 := hn y hy j hj2
    have h2 := (ho.lt j hj).1
    omega
theorem St.ownLt (h : St k P T D c L V w) : ∀ x ∈ V, ∀ j, x.2.2.ownBlock = some j → j < w.heap.size := fun x hx j hj => by
  obtain ⟨_, ls, h2, _⟩ := h.vs x hx
  exact (h2.lt j hj).2
theorem St.row {e : TypeId} {Pr : List Value → Prop} {n : Nat} {us : List Value} (h : St k P T D c L V w) (hn : n ≤ 1) (hu : n = 0 → us = []) (hv : n = 1 → TyE T D c e us ∧ Pr us) :
    St k P T D (c.put w.heap.size (e, us.length)) L ((e, Pr, .slice (some ⟨w.heap.size, 0, none⟩) n n) :: V) (w.alloc (.cells us.toArray e)) := by
  have hc : ∀ (j : Nat) (u : Value), us.toArray[j]? = some u → ∃ t, (F T D e)[j % isz e]? = some t ∧ t.ok c u := by
    intro j u hj
    rcases (show n = 0 ∨ n = 1 by omega) with h0 | h1
    · rw [hu h0] at hj; simp at hj
    · obtain ⟨h2, _⟩ := hv h1
      have hj' : us[j]? = some u := by simpa using hj
      have hlt : j < isz e := by rw [← h2.len]; exact (List.getElem?_eq_some_iff.1 hj').1
      rw [Nat.mod_eq_of_lt hlt]
      exact Tys.get h2 j u hj'
  have hT := h.tw.row hc
  simp only [List.size_toArray] at hT
  have hN : c w.heap.size = none := h.tw.none_ (Nat.le_refl _)
  have h1 := h.below (Ext.put (e, us.length) hN (Nat.le_refl _)) hT (Nat.le_refl _) (Nat.le_refl _) ((Below.refl _ _).alloc (Nat.le_refl _) (.cells us.toArray e))
  have hlen : n * isz e = us.length := by
    rcases (show n = 0 ∨ n = 1 by omega) with h0 | h1
    · rw [hu h0, h0]; simp
    · rw [(hv h1).1.len, h1]; simp
  obtain ⟨ls, hls1, hls2, hls3⟩ : ∃ ls : List (Cs (isz e)), ls.length = n ∧ ls.flatMap Cs.val = us ∧ ∀ y ∈ ls, Pr y.val := by
    rcases (show n = 0 ∨ n = 1 by omega) with h0 | h1
    · exact ⟨[], h0.symm, by rw [hu h0]; rfl, fun y hy => by cases hy⟩
    · obtain ⟨h2, h3⟩ := hv h1
      obtain ⟨y, hy⟩ : ∃ y : Cs (isz e), y.val = us := ⟨⟨us, h2.len, h2.one⟩, rfl⟩
      refine ⟨[y], h1.symm, by simp [hy], fun z hz => ?_⟩
      rw [List.mem_singleton] at hz
      subst hz
      rw [hy]
      exact h3
  have hS : SlV (c.put w.heap.size (e, us.length)) e (.slice (some ⟨w.heap.size, 0, none⟩) n n) := .inr ⟨w.heap.size, 0, n, n, us.length, by simp, Nat.le_refl _, by unfold maxLen; omega, Cx.put_same _ _ _, by omega⟩
  have hO : Own Cs.val (isz e) e (w.alloc (.cells us.toArray e)) w.heap.size (.slice (some ⟨w.heap.size, 0, none⟩) n n) ls := by
    have := Own.of_row (enc := (Cs.val : Cs (isz e) → List Value)) (sz := isz e) (e := e) (w := w.alloc (.cells us.toArray e)) (lo := w.heap.size) (xs := ls) (g := w.heap.size) (c := n) (cur := us.toArray) (Nat.le_refl _) (heap_alloc_new w _) (by omega) (by unfold maxLen; omega) (by simp [hlen]) (by
      rw [hls1, hlen, hls2]
      simp)
    rwa [hls1] at this
  exact h1.addV hS hO hls3 h.base h.ownLt
end
theorem zeroCells_get {z : Array Value} {n j : Nat} {u : Value} (hz : 0 < z.size) (h : (Builtin.zeroCells z n)[j]? = some u) : z[j % z.size]? = some u := by
  unfold Builtin.zeroCells at h
  rw [Array.getElem?_map] at h
  obtain ⟨i, hi, hu⟩ := Option.map_eq_some_iff.1 h
  have hi' : i = j := by
    rw [Array.getElem?_range] at hi
    split at hi <;> simp_all
  subst hi'
  have hlt : i % z.size < z.size := Nat.mod_lt _ hz
  rw [← hu, getElem!_pos z (i % z.size) hlt]
  exact Array.getElem?_eq_getElem hlt
def InfoOf (P : Program) (e : TypeId) (z : Value) (bytes : Nat) : Prop := (P.info? e).map (fun i => (i.zero, i.size, i.bytes)) = some (some z, isz e, bytes)
def ZeroOk (e : TypeId) (z : Value) : Prop := ∀ T D c, TyE T D c e z.cells.toList
section
variable {Pg : Program} {k : Bs} {P T D : Nat} {c : Cx} {L : List LE} {V : List VE} {w w' : World}
theorem St.app {t ty e : TypeId} {z : Value} {bytes : Nat} (ht : Pg.underlying t = some (.slice e)) (hi : InfoOf Pg e z bytes) (hz : ZeroOk e z) (hpos : 0 < isz e)
    (h : St k P T D c L V w) {i : Nat} {Pr : List Value → Prop} {A : Option Addr} {n d : Nat} (hV : V[i]? = some (e, Pr, .slice A n d)) {B : Option Addr} {m q : Nat} (hx : SlV c e (.slice B m q))
    (hxs : ∃ ms : List (Cs (isz e)), ms.length = m ∧ Sl Cs.val (isz e) w 0 w.heap.size B ms ∧ ∀ y ∈ ms, Pr y.val) (hbound : (n + m) * bytes ≤ 140737488355328 ∧ n + m ≤ maxLen) :
    ∃ c' A' d' w', (Builtin.append_ #[t, t] ty #[.slice A n d, .slice B m q]).run Pg w = .ok (.slice A' (n + m) d') w' ∧ St k P T D c' L (V.set i (e, Pr, .slice A' (n + m) d')) w' ∧ Ext w.heap.size c c' := by
  obtain ⟨ms, hml, hms, hmP⟩ := hxs
  obtain ⟨inf, hi1, hi2, hi3, hi4⟩ := info_parts hi
  have hzs : z.cells.size = isz e := by have := (hz T D c).len; simpa using this
  have hmem : (e, Pr, Value.slice A n d) ∈ V := List.mem_of_getElem? hV
  obtain ⟨hv, ls, hown, hlP⟩ := h.vs _ hmem
  have hown : Own Cs.val (isz e) e w k.w0.heap.size (.slice A n d) ls := hown
  have hv : SlV c e (.slice A n d) := hv
  have hll := hown.lenEq
  have fin : ∀ (c' : Cx) (A' : Option Addr) (d' : Nat) (w' : World), (Builtin.append_ #[t, t] ty #[.slice A n d, .slice B m q]).run Pg w = .ok (.slice A' (n + m) d') w' → Ext w.heap.size c c' → TW T D c' w' → SlV c' e (.slice A' (n + m) d') →
      Own Cs.val (isz e) e w' k.w0.heap.size (.slice A' (n + m) d') (ls ++ ms) → w.grownBy w' (Value.slice A n d).ownBlock → ((Value.slice A' (n + m) d').ownBlock = (Value.slice A n d).ownBlock ∨ (Value.slice A' (n + m) d').ownBlock = some w.heap.size) →
      ∃ c' A' d' w', (Builtin.append_ #[t, t] ty #[.slice A n d, .slice B m q]).run Pg w = .ok (.slice A' (n + m) d') w' ∧ St k P T D c' L (V.set i (e, Pr, .slice A' (n + m) d')) w' ∧ Ext w.heap.size c c' := by
    intro c' A' d' w' hrun hE hT' hS' hO' hg hloc
    refine ⟨c', A', d', w', hrun, ⟨h.ext.trans hE h.base, hT', ?_, fun g hg' => ?_, fun x hx' => ?_, h.nd, fun x hx' => ?_, ?_⟩, hE⟩
    · exact h.on.trans (Only.of_below ((Below.refl _ w).grown hg h.base fun j hj => (hown.lt j hj).1))
    · obtain ⟨h1, h2, h3⟩ := h.rd g hg'
      have hB : Below k.w0.heap.size w w' := (Below.refl _ w).grown hg h.base fun j hj => (hown.lt j hj).1
      exact ⟨h1.below hB h2, h2, by rw [hE.old g (by have := h.base; omega)]; exact h3⟩
    · obtain ⟨h1, h2, h3, h4⟩ := h.bx x hx'
      have hl := lt_of_heap h1
      refine ⟨(hg.block x.1 hl (fun e1 => ?_)).trans h1, h2, by rw [hE.old x.1 hl]; exact h3, h4.mono hE.le⟩
      rcases hv with hv | ⟨g, q', n', d'', N, hv, _, _, h5, _⟩
      · injection hv with e2 e3 e4
        rw [e2] at e1
        simp [Value.ownBlock] at e1
      · injection hv with e2 e3 e4
        rw [e2] at e1
        simp [Value.ownBlock] at e1
        rw [← e1, h3] at h5
        cases h5
    · rcases mem_set_iff hx' with rfl | ⟨j, hj, hjx⟩
      · exact ⟨hS', ls ++ ms, hO', fun y hy => (List.mem_append.1 hy).elim (hlP y) (hmP y)⟩
      · obtain ⟨h1, ls', h2, h3⟩ := h.vs x (List.mem_of_getElem? hjx)
        refine ⟨h1.mono hE.le, ls', h2.keep (fun b hb => hg.block b (h2.lt b hb).2 (fun e1 => ?_)), h3⟩
        have hpw := List.pairwise_iff_getElem.1 h.vd
        obtain ⟨hil, hi'⟩ := List.getElem?_eq_some_iff.1 hV
        obtain ⟨hjl, hj'⟩ := List.getElem?_eq_some_iff.1 hjx
        rcases Nat.lt_or_gt_of_ne hj with hlt' | hlt'
        · exact hpw j i hjl hil hlt' b (by rw [hj']; exact hb) (by rw [hi']; exact e1.symm)
        · exact hpw i j hil hjl hlt' b (by rw [hi']; exact e1.symm) (by rw [hj']; exact hb)
    · have hsym : ∀ (z1 : VE), z1 ∈ V → ∀ j, (Value.slice A' (n + m) d').ownBlock = some j → ((Value.slice A n d).ownBlock = some j → z1.2.2.ownBlock ≠ some j) → z1.2.2.ownBlock ≠ some j := by
        intro z1 hz1 j hj hor
        rcases hloc with h1 | h1
        · exact hor (h1 ▸ hj)
        · rw [hj] at h1
          injection h1 with h1
          intro h2
          have := h.ownLt z1 hz1 j h2
          omega
      clear hms hmP
      have hvd := h.vd
      have hall : ∀ z1 ∈ V, ∀ j, (Value.slice A' (n + m) d').ownBlock = some j → ((Value.slice A n d).ownBlock = some j → z1.2.2.ownBlock ≠ some j) → z1.2.2.ownBlock ≠ some j := hsym
      clear hsym
      have key : ∀ (V : List VE) (i : Nat), V[i]? = some (e, Pr, Value.slice A n d) → V.Pairwise (fun x y => ∀ j, x.2.2.ownBlock = some j → y.2.2.ownBlock ≠ some j) → (∀ z1 ∈ V, ∀ j, (Value.slice A' (n + m) d').ownBlock = some j → ((Value.slice A n d).ownBlock = some j → z1.2.2.ownBlock ≠ some j) → z1.2.2.ownBlock ≠ some j) →
          (V.set i (e, Pr, .slice A' (n + m) d')).Pairwise (fun x y => ∀ j, x.2.2.ownBlock = some j → y.2.2.ownBlock ≠ some j) := by
        intro V
        induction V with
        | nil => intro i hi; simp at hi
        | cons a V ih =>
          intro i hi hpw hal
          obtain ⟨p1, p2⟩ := List.pairwise_cons.1 hpw
          cases i with
          | zero =>
            simp at hi
            subst hi
            exact List.pairwise_cons.2 ⟨fun y hy j hj => hal y (List.mem_cons_of_mem _ hy) j hj (fun h1 => p1 y hy j h1), p2⟩
          | succ i =>
            simp at hi
            refine List.pairwise_cons.2 ⟨fun y hy j hj => ?_, ih i hi p2 (fun z1 hz1 => hal z1 (List.mem_cons_of_mem _ hz1))⟩
            rcases List.mem_or_eq_of_mem_set hy with hy | rfl
            · exact p1 y hy j hj
            · intro h1
              exact hal a List.mem_cons_self j h1 (fun h2 h3 => p1 _ (List.mem_of_getElem? hi) j h3 h2) hj
      exact key V i hV hvd hall
  subst hml
  have ownAt : ∀ {v' : Value} {w' : World}, Own Cs.val (isz e) e w' k.w0.heap.size v' (ls ++ ms) → ∃ A' d', v' = .slice A' (n + ms.length) d' := by
    intro v' w' ho
    obtain ⟨A', c1, h1, _⟩ := ho.form
    rw [List.length_append, ← hll] at h1
    exact ⟨A', c1, h1⟩
  by_cases hm0 : ms = []
  · subst hm0
    have hrun : (Builtin.append_ #[t, t] ty #[.slice A n d, .slice B 0 q]).run Pg w = .ok (.slice A n d) w := by
      rcases hown with ⟨h1, h3⟩ | ⟨g, cap, cur, h1, _, hh, hnc, _⟩
      · rw [h1]
        cases B <;> simp [Builtin.append_, run_underlying ht, sizeOf, typeInfo, hi1, Builtin.lenOf, Builtin.firstCells, loadCells, loadCellsFrom]
      · rw [h1]
        cases B <;> simp [Builtin.append_, run_underlying ht, sizeOf, typeInfo, hi1, Builtin.lenOf, Builtin.firstCells, loadCells, loadCellsFrom, hnc, storeCells]
    exact fin c A d w hrun (Ext.refl _ _) h.tw hv (by simpa using hown) (World.grownBy.refl w _) (.inl rfl)
  · obtain ⟨b, off, rfl, _, _, hc⟩ := hms hm0
    obtain ⟨us, hu1, hu2, hu3⟩ := h.tw.cells hx
    have hadd : ∀ j, ((⟨b, off, none⟩ : Addr).add j) = ⟨b, off + j, none⟩ := fun j => by
      unfold Addr.add
      split
      · rename_i h0; rw [h0]; rfl
      · rfl
    have husone : ∀ u ∈ us, u.oneCell' = true := fun u hu => by
      obtain ⟨j, hj, rfl⟩ := List.mem_iff_getElem.1 hu
      obtain ⟨t', _, h2⟩ := hu3 j us[j] (List.getElem?_eq_getElem hj)
      exact h2.one
    have hus : ∀ j u, us[j]? = some u → w.cell? ((⟨b, off, none⟩ : Addr).add j) = some u := fun j u hu => by rw [hadd]; exact hu2 j u hu
    have hmsl : 0 < ms.length := List.length_pos_iff.2 hm0
    have hzc : ∀ (c' : Cx) (N j : Nat) (u : Value), (Builtin.zeroCells z.cells N)[j]? = some u → ∃ t', (F T D e)[j % isz e]? = some t' ∧ t'.ok c' u := fun c' N j u hu => by
      have h1 := zeroCells_get (by omega) hu
      rw [hzs] at h1
      exact Tys.get (hz T D c') _ u (by simpa using h1)
    have hlsus : ms.flatMap Cs.val = us := by
      apply List.ext_getElem?
      intro j
      by_cases hj : j < ms.length * isz e
      · have hk : j / isz e < ms.length := Nat.div_lt_of_lt_mul (by rw [Nat.mul_comm]; exact hj)
        have hr : j % isz e < isz e := Nat.mod_lt _ hpos
        have hdm : j / isz e * isz e + j % isz e = j := by rw [Nat.mul_comm]; exact Nat.div_add_mod j (isz e)
        have hu' : (Cs.val ms[j / isz e])[j % isz e]? = some ((Cs.val ms[j / isz e])[j % isz e]'(by rw [Cs.len]; exact hr)) := List.getElem?_eq_getElem _
        have h5 := flatMap_get Cs.len ms (j / isz e) ms[j / isz e] (List.getElem?_eq_getElem hk) (j % isz e) _ hu'
        have h6 := hc (j / isz e) ms[j / isz e] (List.getElem?_eq_getElem hk) (j % isz e) _ hu'
        rw [hdm] at h5
        rw [Nat.add_assoc, hdm] at h6
        have hju : j < us.length := by omega
        have h7 := hu2 j us[j] (List.getElem?_eq_getElem hju)
        rw [h6] at h7
        injection h7 with h7
        rw [h5, List.getElem?_eq_getElem hju, h7]
      · rw [List.getElem?_eq_none (by rw [flatMap_len Cs.len]; omega), List.getElem?_eq_none (by omega)]
    obtain ⟨v2, w2, hrun2, hO2, hg2, hloc2⟩ := run_appG (P := Pg) Cs.len hpos Cs.one t ty e inf z bytes ht hi1 hi2 hi3 hi4 hzs hown ⟨b, off, none⟩ ms q (fun j u hu => hus j u (by rw [← hlsus]; exact hu)) (by rw [← hll]; exact hbound.2) (by rw [← hll]; exact hbound.1) h.base
    obtain ⟨A2, d2, rfl⟩ := ownAt hO2
    have fresh : ∀ (old N : Nat) (olds : List Value), (∀ (j : Nat) (u : Value), olds[j]? = some u → ∃ t', (F T D e)[j % isz e]? = some t' ∧ t'.ok c u) → olds.length = n * isz e → N = n + ms.length →
        (Builtin.append_ #[t, t] ty #[.slice A n d, .slice (some ⟨b, off, none⟩) ms.length q]).run Pg w = .ok (.slice (some ⟨w.heap.size, 0, none⟩) N (grownCap w N old e)) (w.drew.alloc (.cells (olds.toArray ++ us.toArray ++ Builtin.zeroCells z.cells (grownCap w N old e - N)) e)) →
        ∃ c' A' d' w', (Builtin.append_ #[t, t] ty #[.slice A n d, .slice (some ⟨b, off, none⟩) ms.length q]).run Pg w = .ok (.slice A' (n + ms.length) d') w' ∧ St k P T D c' L (V.set i (e, Pr, .slice A' (n + ms.length) d')) w' ∧ Ext w.heap.size c c' := by
      intro old N olds hol holl hN hrun
      subst hN
      rw [hrun] at hrun2
      injection hrun2 with hq1 hq2
      injection hq1 with hq3 hq4 hq5
      subst hq3; subst hq5; subst hq2
      have hge := grownCap_ge w (n + ms.length) old e
      have hcm := grownCap_le_maxLen w (n + ms.length) old e hbound.2
      have hTW := h.tw.drew.row (cs := olds.toArray ++ us.toArray ++ Builtin.zeroCells z.cells (grownCap w (n + ms.length) old e - (n + ms.length))) (e := e) (fun j u hu => by
        rw [Array.getElem?_append] at hu
        split at hu
        · rw [Array.getElem?_append] at hu
          split at hu
          · exact hol j u (by simpa using hu)
          · obtain ⟨t', h1, h2⟩ := hu3 _ u (by simpa using hu)
            rename_i hlt1 hlt2
            simp only [List.size_toArray] at h1 hlt1 hlt2
            refine ⟨t', ?_, h2⟩
            rw [show j % isz e = (j - olds.length) % isz e by
              rw [holl]
              rw [holl] at hlt2
              rw [show j = n * isz e + (j - n * isz e) by omega, Nat.add_comm, Nat.add_mul_mod_self_right]
              congr 1
              omega]
            exact h1
        · obtain ⟨t', h1, h2⟩ := hzc c _ _ u hu
          rename_i hlt1
          simp only [Array.size_append, List.size_toArray] at h1 hlt1
          refine ⟨t', ?_, h2⟩
          rw [show j % isz e = (j - (olds.length + us.length)) % isz e by
            rw [holl, hu1, ← Nat.add_mul]
            rw [holl, hu1, ← Nat.add_mul] at hlt1
            rw [show j = (n + ms.length) * isz e + (j - (n + ms.length) * isz e) by omega, Nat.add_comm, Nat.add_mul_mod_self_right]
            congr 1
            omega]
          exact h1)
      refine fin _ _ _ _ hrun (Ext.put _ (h.tw.none_ (Nat.le_refl _)) (Nat.le_refl _)) hTW (.inr ⟨w.heap.size, 0, n + ms.length, grownCap w (n + ms.length) old e, _, by simp, hge, hcm, Cx.put_same _ _ _, ?_⟩) hO2 hg2 hloc2
      simp only [Array.size_append, List.size_toArray, size_zeroCells, hzs, holl, hu1, ← Nat.add_mul, Nat.zero_mul, Nat.zero_add]
      exact Nat.mul_le_mul_right _ (by omega)
    rcases hown with ⟨h1, h0⟩ | ⟨g, cap, cur, h1, hbg, hg, hnc, hcm, hcs, htake⟩
    · injection h1 with e1 e2 e3
      subst e1; subst e2; subst e3
      have hr := run_append_nil (P := Pg) w t ty e inf z ht hi1 hi2 ⟨b, off, none⟩ ms.length q us (by rw [hi3]; exact hu1) hus hmsl (by have := hbound.2; simp only [maxLen] at this; omega) (by have := hbound.1; rw [hi4]; simp only [Nat.zero_add] at this; omega)
      refine fresh 0 ms.length [] (fun j u hu => by simp at hu) (by simp) (by omega) ?_
      rw [hr]
      simp
    · injection h1 with e1 e2 e3
      subst e1; subst e3
      have e2' : ls.length = n := e2.symm
      have hgc : c g = some (e, cur.size) := by
        rcases hv with hv | ⟨g', q', n', d'', N, hv, _, _, h5, _⟩
        · cases hv
        · injection hv with e4 e5 e6
          injection e4 with e4
          injection e4 with e4 e7
          subst e4
          obtain ⟨cs, h8, h9, _⟩ := h.tw g e N h5
          rw [hg] at h8
          injection h8 with h8
          injection h8 with h8
          subst h8
          rw [h5, h9]
      obtain ⟨cs, h8, h9, h10⟩ := h.tw g e cur.size hgc
      rw [hg] at h8
      injection h8 with h8
      injection h8 with h8
      subst h8
      by_cases hroom : n + ms.length ≤ d
      · have hfit : n * inf.size + us.length ≤ cur.size := by
          have := Nat.mul_le_mul_right (isz e) hroom
          rw [hi3, hu1, ← Nat.add_mul]; omega
        have hr := run_append_room (P := Pg) w t ty e inf ht hi1 g n d cur hg ⟨b, off, none⟩ ms.length q us (by rw [hi3]; exact hu1) hus husone hroom hfit
        have hrun' := hrun2
        rw [hr] at hrun2
        injection hrun2 with hq1 hq2
        injection hq1 with hq3 hq4 hq5
        subst hq3; subst hq5; subst hq2
        refine fin c _ _ _ hrun' (Ext.refl _ _) ?_ ?_ hO2 hg2 hloc2
        · refine h.tw.turn hgc (cs := (cur.toList.take (n * inf.size) ++ us ++ cur.toList.drop (n * inf.size + us.length)).toArray) ?_ (fun j u hu => ?_) (setRow_heap w g cur _ e _ hg) (fun j hj _ => setRow_other w g j _ hj)
          · simp only [List.size_toArray, List.length_append, List.length_take, List.length_drop, Array.length_toList]
            omega
          · rw [List.getElem?_toArray, List.append_assoc, List.getElem?_append] at hu
            split at hu
            · rw [List.getElem?_take] at hu
              split at hu
              · exact h10 j u (by simpa using hu)
              · cases hu
            · rename_i hlt
              simp only [List.length_take, Array.length_toList] at hu hlt
              rw [show min (n * inf.size) cur.size = n * isz e by rw [hi3]; rw [hi3] at hfit; omega] at hu hlt
              rw [List.getElem?_append] at hu
              split at hu
              · obtain ⟨t', h1, h2⟩ := hu3 _ u hu
                refine ⟨t', ?_, h2⟩
                rw [show j % isz e = (j - n * isz e) % isz e by
                  rw [show j = n * isz e + (j - n * isz e) by omega, Nat.add_comm, Nat.add_mul_mod_self_right]
                  congr 1
                  omega]
                exact h1
              · rename_i hlt2
                rw [List.getElem?_drop] at hu
                rw [hi3] at hu
                have e8 : n * isz e + us.length + (j - n * isz e - us.length) = j := by omega
                rw [e8] at hu
                exact h10 j u (by simpa using hu)
        · exact .inr ⟨g, 0, n + ms.length, d, cur.size, by simp, hroom, hcm, hgc, by omega⟩
      · have holds : ∀ j u, (ls.flatMap Cs.val)[j]? = some u → w.cell? ((⟨g, 0, none⟩ : Addr).add j) = some u := by
          intro j u hu
          have h5 := hu
          rw [← htake, List.getElem?_take] at h5
          split at h5
          · have e2 : ((⟨g, 0, none⟩ : Addr).add j) = ⟨g, j, none⟩ := by
              unfold Addr.add
              split
              · rename_i h0; rw [h0]
              · simp
            rw [e2]
            simp only [World.cell?, hg]
            simpa using h5
          · cases h5
        have hr := run_append_grow (P := Pg) w t ty e inf z ht hi1 hi2 ⟨g, 0, none⟩ n d (ls.flatMap Cs.val) (by rw [flatMap_len Cs.len, e2', hi3]) holds ⟨b, off, none⟩ ms.length q us (by rw [hi3]; exact hu1) hus (by omega) (by have := hbound.2; simp only [maxLen] at this; omega) (growslice_fits (by omega) (by rw [hi4]; exact hbound.1))
        refine fresh d (n + ms.length) (ls.flatMap Cs.val) (fun j u hu => ?_) (by rw [flatMap_len Cs.len, e2']) rfl hr
        rw [← htake, List.getElem?_take] at hu
        split at hu
        · exact h10 j u (by simpa using hu)
        · cases hu
end
end Go.Proofs.Ytopmbnnjhoinkaa
