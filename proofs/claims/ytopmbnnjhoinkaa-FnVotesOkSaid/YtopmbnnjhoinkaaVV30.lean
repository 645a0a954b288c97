/-
  What 'FVd' rests on (texts of this seat put together: TF TG TH TX12).
  Conditions: none.
-/
import Derived.Test.YtopmbnnjhoinkaaVV29
namespace Go.Proofs.Ytopmbnnjhoinkaa
open Go Go.RowKit Rg
set_option linter.unusedVariables false
set_option linter.unusedSimpArgs false
set_option maxHeartbeats 1000000
section
variable {Pg : Program} {k : Bs} {P T D : Nat} {c : Cx} {L : List LE} {V : List VE} {w : World}
theorem loadVar_box (hS : St k P T D c L V w) {e : TypeId} {z : Value} {bytes b : Nat} {vs : List Value} (i : Nat) (hL : L[i]? = some (b, e, vs)) (hi : InfoOf Pg e z bytes) (ha : (isAgg e).run Pg w = .ok true w) : (loadVar e ⟨b, 0, none⟩).run Pg w = .ok (.agg vs.toArray) w := by
  obtain ⟨b1, b2, b3, b4⟩ := hS.bx _ (List.mem_of_getElem? hL)
  have b1 : w.heap[b]? = some (.cells vs.toArray e (0, 0)) := b1
  have hlen : vs.length = isz e := b4.len
  obtain ⟨inf, hi1, hi2, hi3, hi4⟩ := info_parts hi
  have hl := run_loadCells_list (P := Pg) w ⟨b, 0, none⟩ vs (fun j u hu => by
    have : ((⟨b, 0, none⟩ : Addr).add j) = ⟨b, j, none⟩ := by
      unfold Addr.add
      split
      · rename_i h0; rw [h0]
      · simp
    rw [this]
    simp [World.cell?, b1, hu])
  rw [hlen] at hl
  simp [loadVar, ha, sizeOf, typeInfo, hi1, hi3, hl, Result.andThen]
theorem results_c {fn : Func} {tmps : Array Value} {t : Tmp} {e : TypeId} {z : Value} {bytes b : Nat} {vs : List Value} (h : fn.results = #[.cell t e]) (hS : St k P T D c L V w) (i : Nat) (hL : L[i]? = some (b, e, vs)) (hi : InfoOf Pg e z bytes) (ha : (isAgg e).run Pg w = .ok true w) (ht : tmps.getD t undef = .pointer (some ⟨b, 0, none⟩)) :
    (results fn tmps).run Pg w = .ok (.agg vs.toArray) w := by
  have hl := loadVar_box hS i hL hi ha
  have ht' : (tmps[t]?).getD undef = .pointer (some ⟨b, 0, none⟩) := by simpa using ht
  simp [results, h, ht', asAddr, hl, Result.andThen]
theorem results_ct {fn : Func} {tmps : Array Value} {t u : Tmp} {e : TypeId} {z : Value} {bytes b : Nat} {vs : List Value} {v : Value} (h : fn.results = #[.cell t e, .tmp u]) (hS : St k P T D c L V w) (i : Nat) (hL : L[i]? = some (b, e, vs)) (hi : InfoOf Pg e z bytes) (ha : (isAgg e).run Pg w = .ok true w) (ht : tmps.getD t undef = .pointer (some ⟨b, 0, none⟩)) (hu : tmps.getD u undef = v) :
    (results fn tmps).run Pg w = .ok (.tuple #[.agg vs.toArray, v]) w := by
  have hl := loadVar_box hS i hL hi ha
  have ht' : (tmps[t]?).getD undef = .pointer (some ⟨b, 0, none⟩) := by simpa using ht
  have hu' : (tmps[u]?).getD undef = v := by simpa using hu
  simp [results, h, ht', hu', asAddr, hl, Result.andThen]
end
theorem aggR (w : World) : (isAgg 87).run Try.prog w = .ok true w := by simp [isAgg, run_underlying Try.underlying87, Result.andThen]
theorem aggW (w : World) : (isAgg 48).run Try.prog w = .ok true w := by simp [isAgg, run_underlying Try.underlying48, Result.andThen]
theorem aggM (w : World) : (isAgg 34).run Try.prog w = .ok true w := by simp [isAgg, run_underlying Try.underlying34, Result.andThen]
theorem aggE (w : World) : (isAgg 94).run Try.prog w = .ok true w := by simp [isAgg, run_underlying Try.underlying94, Result.andThen]
def PSl (e : TypeId) (Pr : List Value → Prop) (M T D : Nat) (c0 : Cx) (w0 : World) (x : Ending) (w' : World) : Prop := ∃ (c' : Cx) (A : Option Addr) (n d : Nat), x = .returned (.slice A n d) ∧ n ≤ M ∧ SlV c' e (.slice A n d) ∧
  (∃ ls : List (Cs (isz e)), Own Cs.val (isz e) e w' w0.heap.size (.slice A n d) ls ∧ ∀ y ∈ ls, Pr y.val) ∧ Ext w0.heap.size c0 c' ∧ TW T D c' w' ∧ Below w0.heap.size w0 w'
theorem St.psl {T D M P : Nat} {c0 c : Cx} {w0 w : World} {L : List LE} {V : List VE} {e : TypeId} {Pr : List Value → Prop} {A : Option Addr} {n d : Nat} (j : Nat) (h : St ⟨c0, w0, none⟩ P T D c L V w) (hV : V[j]? = some (e, Pr, .slice A n d)) (hn : n ≤ M) : PSl e Pr M T D c0 w0 (.returned (.slice A n d)) w :=
  ⟨c, A, n, d, rfl, hn, h.slV hV, (h.vs _ (List.mem_of_getElem? hV)).2, h.fin.1, h.fin.2.1, h.fin.2.2⟩
section
variable {Pg : Program} {k : Bs} {P T D : Nat} {c : Cx} {L : List LE} {V : List VE} {w : World}
def KB (c : Cx) (w : World) (g : Nat) (ob : Obj) : Prop := (∃ x, c g = some x) ∧ w.heap[g]? = some ob
theorem St.msV (h : St k P T D c L V w) {g : Nat} {ob : Obj} (ho : KB c w g ob) : MS ((g, ob) :: objs L) w := MS.cons ho.2 h.ms
theorem TW.kb {e : TypeId} {g off n d : Nat} (hT : TW T D c w) (hv : SlV c e (.slice (some ⟨g, off, none⟩) n d)) : ∃ ob, KB c w g ob := by
  obtain ⟨ob, ho⟩ := hT.rowOb hv
  rcases hv with hv | ⟨g', q', n', d'', N, hv, _, _, h5, _⟩
  · cases hv
  · injection hv with e4 e5 e6
    injection e4 with e4
    injection e4 with e4 e7
    subst e4
    exact ⟨ob, ⟨_, h5⟩, ho⟩
theorem KB.below {c : Cx} {w w' : World} {g : Nat} {ob : Obj} (hb : Below w.heap.size w w') (h : KB c w g ob) : KB c w' g ob := ⟨h.1, (hb.block g (lt_of_heap h.2)).trans h.2⟩
theorem KB.call {c c' : Cx} {w w' : World} {g : Nat} {ob : Obj} (hx : Ext w.heap.size c c') (hb : Below w.heap.size w w') (h : KB c w g ob) : KB c' w' g ob := by
  obtain ⟨⟨x, h1⟩, h2⟩ := KB.below hb h
  exact ⟨⟨x, hx.le _ _ h1⟩, h2⟩
theorem KB.callR {c c' : Cx} {w w' : World} {g r : Nat} {ob : Obj} (hx : Ext w.heap.size c c') (hb : Only w.heap.size (some r) w w') (hr : c r = none) (h : KB c w g ob) : KB c' w' g ob := by
  obtain ⟨⟨x, h1⟩, h2⟩ := h
  exact ⟨⟨x, hx.le _ _ h1⟩, (hb.block g (lt_of_heap h2) (fun e => by injection e with e; rw [← e, hr] at h1; cases h1)).trans h2⟩
theorem wp_setAB {o : Oper} {a : Act} {K : Act → World → Prop} {Q : Exit → Act → World → Prop} (hS : St k P T D c L V w) {t : TypeId} {x y : Operand} {b : Nat} {us : List Value} {vs : List Value} {z : Value} {bytes : Nat} (i : Nat) (ho : o.op = .store t y x) (hy : a.eval y = .pointer (some ⟨b, 0, none⟩)) (hL : L[i]? = some (b, t, vs))
    (hx : a.eval x = .agg us.toArray) (hu : TyE T D c t us) (hi : InfoOf Pg t z bytes)
    (h : ∀ w', St k P T D c (L.set i (b, t, us)) V w' → (∀ g ob, KB c w g ob → KB c w' g ob) → K (a.put o.dst undef) w') : o.wp Pg a w K Q := by
  obtain ⟨b1, b2, b3, b4⟩ := hS.bx _ (List.mem_of_getElem? hL)
  have b3 : c b = none := b3
  have h1 := h _ (hS.setAll hL hu) (fun g ob hk => ⟨hk.1, (heap_putCells_other us w b 0 g (fun e => by obtain ⟨y, hy⟩ := hk.1; rw [e, b3] at hy; cases hy)).trans hk.2⟩)
  have b1 : w.heap[b]? = some (.cells vs.toArray t (0, 0)) := b1
  have hst := run_storeBox (Pg := Pg) (us := us) (j := 0) b1 (by have h9 : vs.length = isz t := b4.len; have := hu.len; omega) hu.one
  obtain ⟨inf, hi1, hi2, hi3, hi4⟩ := info_parts hi
  unfold Oper.wp
  simp [execOp, ho, hy, hx, Instr.storeAt, Instr.sureAddr, storeVar, sizeOf, typeInfo, hi1, hi3, hu.len, Value.cells, hst, Oper.upon, Result.andThen]
  exact h1
theorem wp_allocB {o : Oper} {a : Act} {K : Act → World → Prop} {Q : Exit → Act → World → Prop} (hS : St k P T D c L V w) {e : TypeId} {z : Value} {bytes : Nat} {vs : List Value} (ho : o.op = .alloc e) (hi : InfoOf Pg e z bytes) (hz : z = .agg vs.toArray) (hv : TyE T D c e vs)
    (h : ∀ b w', St k P T D c ((b, e, vs) :: L) V w' → Below w.heap.size w w' → K (a.put o.dst (.pointer (some ⟨b, 0, none⟩))) w') : o.wp Pg a w K Q := by
  subst hz
  have h1 := h _ _ (hS.box hv) ((Below.refl _ _).alloc (Nat.le_refl _) _)
  obtain ⟨inf, hi1, hi2, hi3, hi4⟩ := info_parts hi
  unfold Oper.wp
  simp [execOp, ho, Instr.alloc, zeroValue, typeInfo, hi1, hi2, newVar, newRow, Value.cells, Oper.upon, Result.andThen]
  exact h1
theorem wp_region_StV {id : Nat} {a : Act} {l : List Oper} {Q : Exit → Act → World → Prop} (hS : St k P T D c L V w) {g : Nat} {ob : Obj} (ho : KB c w g ob) (zs : List TypeId) (et sl : List Tmp) (la : Nat) (t : OrdF) (hz : sizedB Pg zs = true) (hm : Pg.follows .mixedOrders = true)
    (hB : (Region.noSelect l.toArray && decide (t.len = l.length) && okOF zs .any l.toArray et sl la t (Array.replicate l.length false)) = true)
    (h : wpOF Pg l.toArray (MS ((g, ob) :: objs L)) et sl la (fun a' w' => Q .normal a' w') t a w.drew) : (Code.region id l.toArray true).wp Pg Q a w := wp_region_OF (MS ((g, ob) :: objs L)) zs et sl la t hz hm hB (MS.cons (show w.drew.heap[g]? = some ob from ho.2) hS.drew.ms) h
theorem St.nilV (h : St k P T D c L V w) (e : TypeId) (Pr : List Value → Prop) : St k P T D c L ((e, Pr, .slice none 0 0) :: V) w :=
  h.addV (SlV.nil_ c e) (Own.nil_ Cs.val (isz e) e w w.heap.size) (fun y hy => by cases hy) h.base h.ownLt
theorem Only.through {B : Nat} {G : Option Nat} {a w w' : World} {g : Nat} (h : Only B G a w) (ho : Only w.heap.size (some g) w w') (hg : B ≤ g) (hB : B ≤ w.heap.size) : Only B G a w' :=
  h.trans ⟨ho.os, ho.tape, ho.output, ho.size, fun j hj hn => ho.block j (by omega) (fun e => by injection e with e; omega)⟩
theorem St.poke {e : TypeId} {Pr : List Value → Prop} {g off n d i : Nat} {us : List Value} (h : St k P T D c L ((e, Pr, .slice (some ⟨g, off, none⟩) n d) :: V) w) (hi : i < n) (hu : TyE T D c e us) :
    (∃ cs : List Value, w.heap[g]? = some (.cells cs.toArray e (0, 0)) ∧ off + i * isz e + us.length ≤ cs.length) ∧ St k P T D c L V (putCells w g (off + i * isz e) us) := by
  obtain ⟨hv, ls, hown, _⟩ := h.vs _ List.mem_cons_self
  have hv : SlV c e (.slice (some ⟨g, off, none⟩) n d) := hv
  have hown : Own Cs.val (isz e) e w k.w0.heap.size (.slice (some ⟨g, off, none⟩) n d) ls := hown
  have hbase := h.base
  have hg : k.w0.heap.size ≤ g := (hown.lt g rfl).1
  have hgl : g < w.heap.size := (hown.lt g rfl).2
  rcases hv with hx | ⟨g', q, n', d', N, h1, h2, h3, h4, h5⟩
  · cases hx
  injection h1 with h1 h6 h7
  injection h1 with h1
  injection h1 with h1 h8
  subst h1; subst h6; subst h7; subst h8
  obtain ⟨cs, c1, c2, c3⟩ := h.tw g e N h4
  have hlen : us.length = isz e := hu.len
  have hcl : cs.toList.length = cs.size := Array.length_toList
  have hle : q * isz e + i * isz e + isz e ≤ cs.size := by
    have h9 := Nat.mul_le_mul_right (isz e) (show i + 1 ≤ d by omega)
    rw [Nat.add_mul] at h9
    omega
  refine ⟨⟨cs.toList, by simpa using c1, by rw [hcl]; omega⟩, ?_⟩
  obtain ⟨cur, p1, p2, p3⟩ := heap_putCells us w g (q * isz e + i * isz e) cs e c1 (by omega)
  have ho : Only w.heap.size (some g) w (putCells w g (q * isz e + i * isz e) us) := Only.put us (Only.refl _ _ _)
  have hsz : (q * isz e + i * isz e) = (q + i) * isz e := by rw [Nat.add_mul]
  have hT' : TW T D c (putCells w g (q * isz e + i * isz e) us) := by
    refine h.tw.turn h4 (p2.trans c2) (fun j u hj => ?_) p1 (fun j hj _ => heap_putCells_other us w g _ j hj)
    have hj' : (cs.toList.take (q * isz e + i * isz e) ++ us ++ cs.toList.drop (q * isz e + i * isz e + us.length))[j]? = some u := by rw [← p3]; simpa using hj
    rcases Nat.lt_or_ge j (q * isz e + i * isz e) with hlt | hge
    · rw [List.append_assoc, List.getElem?_append_left (by rw [List.length_take, hcl]; omega), List.getElem?_take, if_pos hlt] at hj'
      exact c3 j u (by simpa using hj')
    · rcases Nat.lt_or_ge j (q * isz e + i * isz e + us.length) with hlt2 | hge2
      · rw [List.getElem?_append_left (by rw [List.length_append, List.length_take, hcl]; omega), List.getElem?_append_right (by rw [List.length_take, hcl]; omega), List.length_take, hcl, Nat.min_eq_left (by omega)] at hj'
        have hmod : j % isz e = j - (q * isz e + i * isz e) := by
          have hjj : j = (q + i) * isz e + (j - (q * isz e + i * isz e)) := by omega
          conv => lhs; rw [hjj]
          exact mod_row _ _ (by omega)
        rw [hmod]
        exact Tys.get hu _ u hj'
      · rw [List.getElem?_append_right (by rw [List.length_append, List.length_take, hcl]; omega), List.length_append, List.length_take, hcl, Nat.min_eq_left (by omega), List.getElem?_drop, show q * isz e + i * isz e + us.length + (j - (q * isz e + i * isz e + us.length)) = j by omega] at hj'
        exact c3 j u (by simpa using hj')
  refine ⟨h.ext, hT', Only.through h.on ho hg hbase, fun g' hg' => ?_, fun x hx => ?_, h.nd, fun x hx => ?_, (List.pairwise_cons.1 h.vd).2⟩
  · obtain ⟨r1, r2, r3⟩ := h.rd g' hg'
    exact ⟨r1.only ho (fun j hj => by injection hj with hj; omega), r2, r3⟩
  · obtain ⟨b1, b2, b3, b4⟩ := h.bx x hx
    exact ⟨(ho.block x.1 (lt_of_heap b1) (fun e => by injection e with e; rw [← e, h4] at b3; cases b3)).trans b1, b2, b3, b4⟩
  · obtain ⟨v1, ls', v2, v3⟩ := h.vs x (List.mem_cons_of_mem _ hx)
    refine ⟨v1, ls', v2.keep (fun j hj => ho.block j (v2.lt j hj).2 (fun e => ?_)), v3⟩
    injection e with e
    subst e
    exact (List.pairwise_cons.1 h.vd).1 x hx g rfl hj
theorem wp_pokeT {o : Oper} {a : Act} {K : Act → World → Prop} {Q : Exit → Act → World → Prop} {e : TypeId} {Pr : List Value → Prop} {g off n d i : Nat} {us : List Value} {z : Value} {bytes : Nat} (hS : St k P T D c L ((e, Pr, .slice (some ⟨g, off, none⟩) n d) :: V) w) {x y : Operand} (ho : o.op = .store e y x) (hy : a.eval y = .pointer (some ⟨g, off + i * isz e, none⟩)) (hi : i < n)
    (hx : a.eval x = .agg us.toArray) (hu : TyE T D c e us) (hI : InfoOf Pg e z bytes)
    (h : ∀ w', St k P T D c L V w' → K (a.put o.dst undef) w') : o.wp Pg a w K Q := by
  obtain ⟨⟨cs, b1, b2⟩, h1⟩ := hS.poke hi hu
  have h1 := h _ h1
  have hst := run_storeBox (Pg := Pg) b1 b2 hu.one
  obtain ⟨inf, hi1, hi2, hi3, hi4⟩ := info_parts hI
  unfold Oper.wp
  simp [execOp, ho, hy, hx, Instr.storeAt, Instr.sureAddr, storeVar, sizeOf, typeInfo, hi1, hi3, hu.len, Value.cells, hst, Oper.upon, Result.andThen]
  exact h1
end
def BareS (w : World) (A : Option Addr) (n : Nat) : Prop := ∃ ms : List (Cs (isz tM)), ms.length = n ∧ Sl Cs.val (isz tM) w 0 w.heap.size A ms ∧ ∀ y ∈ ms, bareP y.val
theorem BareS.nil_ (w : World) (A : Option Addr) : BareS w A 0 := ⟨[], rfl, Sl.nil_, fun y hy => by cases hy⟩
theorem BareS.below {w w' : World} {A : Option Addr} {n : Nat} (h : BareS w A n) (hb : Below w.heap.size w w') : BareS w' A n := by
  obtain ⟨ms, h1, h2, h3⟩ := h
  exact ⟨ms, h1, (h2.below hb (Nat.le_refl _)).mono (Nat.le_refl _) hb.size, h3⟩
theorem BareS.only {w w' : World} {A : Option Addr} {n B : Nat} {G : Option Nat} (h : BareS w A n) (hb : Only B G w w') (hB : w.heap.size ≤ B) (hG : ∀ g, G = some g → ∀ q, A ≠ some ⟨g, q, none⟩) : BareS w' A n := by
  obtain ⟨ms, h1, h2, h3⟩ := h
  refine ⟨ms, h1, fun hne => ?_, h3⟩
  obtain ⟨g, off, rfl, q1, q2, q3⟩ := h2 hne
  have := hb.size
  refine ⟨g, off, rfl, q1, by omega, fun i hi j u hu => ?_⟩
  rw [World.cell?_of_block (hb.block g (by omega) (fun e => hG g e off rfl))]
  exact q3 i hi j u hu
theorem St.bareV {k : Bs} {P T D : Nat} {c : Cx} {L : List LE} {V : List VE} {w : World} (hS : St k P T D c L V w) {j : Nat} {A : Option Addr} {n d : Nat} (hV : V[j]? = some (tM, bareP, .slice A n d)) : BareS w A n := hS.partsV hV
theorem St.oldBare {c0 c : Cx} {w0 w : World} {P T D : Nat} {L : List LE} {V : List VE} (h : St ⟨c0, w0, none⟩ P T D c L V w) {A : Option Addr} {n : Nat} (hb : BareS w0 A n) : BareS w A n := hb.below h.fin.2.2
theorem TW.bareAt {T D : Nat} {c : Cx} {w : World} {g off n d i : Nat} (hT : TW T D c w) (hv : SlV c tM (.slice (some ⟨g, off, none⟩) n d)) (hb : BareS w (some ⟨g, off, none⟩) n) (hi : i < n) {kd fr vw sq : Int} {t : ReqV} {A : Option Addr} {m q : Nat} {B : Option Addr} {p f : Nat}
    (a0 : w.cell? ⟨g, off + i * 11, none⟩ = some (.int .i64 kd)) (a1 : w.cell? ⟨g, off + i * 11 + 1, none⟩ = some (.int .i64 fr)) (a2 : w.cell? ⟨g, off + i * 11 + 2, none⟩ = some (.int .i64 vw)) (a3 : w.cell? ⟨g, off + i * 11 + 3, none⟩ = some (.int .i64 sq)) (a4 : w.cell? ⟨g, off + i * 11 + 4, none⟩ = some (.int .i64 t.1)) (a5 : w.cell? ⟨g, off + i * 11 + 5, none⟩ = some (.int .i64 t.2.1)) (a6 : w.cell? ⟨g, off + i * 11 + 6, none⟩ = some (.int .i64 t.2.2.1)) (a7 : w.cell? ⟨g, off + i * 11 + 7, none⟩ = some (.int .i64 t.2.2.2.1)) (a8 : w.cell? ⟨g, off + i * 11 + 8, none⟩ = some (.int .i64 t.2.2.2.2)) (a9 : w.cell? ⟨g, off + i * 11 + 9, none⟩ = some (.slice A m q)) (a10 : w.cell? ⟨g, off + i * 11 + 10, none⟩ = some (.slice B p f)) :
    bareP [.int .i64 kd, .int .i64 fr, .int .i64 vw, .int .i64 sq, .int .i64 t.1, .int .i64 t.2.1, .int .i64 t.2.2.1, .int .i64 t.2.2.2.1, .int .i64 t.2.2.2.2, .slice A m q, .slice B p f] := by
  obtain ⟨ms, h1, h2, h3⟩ := hb
  have hi' : i < ms.length := by omega
  have hat := h2.at_ hi'
  have hP := h3 ms[i] (List.getElem_mem hi')
  have hl := ms[i].len
  generalize hy : ms[i].val = ys at *
  have e0 : ∀ (j : Nat) (u v : Value), ys[j]? = some u → w.cell? ⟨g, off + i * isz tM + j, none⟩ = some v → u = v := fun j u v h4 h5 => by
    have := hat j u h4
    rw [h5] at this
    injection this with this
    exact this.symm
  have hl' : ys.length = 11 := hl
  match ys, hl' with
  | [x0, x1, x2, x3, x4, x5, x6, x7, x8, x9, x10], _ =>
    have f0 := e0 0 _ _ rfl a0
    have f1 := e0 1 _ _ rfl a1
    have f2 := e0 2 _ _ rfl a2
    have f3 := e0 3 _ _ rfl a3
    have f4 := e0 4 _ _ rfl a4
    have f5 := e0 5 _ _ rfl a5
    have f6 := e0 6 _ _ rfl a6
    have f7 := e0 7 _ _ rfl a7
    have f8 := e0 8 _ _ rfl a8
    have f9 := e0 9 _ _ rfl a9
    have f10 := e0 10 _ _ rfl a10
    subst f0; subst f1; subst f2; subst f3; subst f4; subst f5; subst f6; subst f7; subst f8; subst f9; subst f10
    exact hP
def PWd (T D : Nat) (c0 : Cx) (w0 : World) (x : Ending) (w' : World) : Prop := ∃ (c' : Cx) (bad : Int) (A : Option Addr) (d : Nat) (B : Option Addr) (p q : Nat), x = .returned (.agg (List.toArray [.int .i64 bad, .slice A 4 d, .slice B p q])) ∧ SlV c' tR (.slice A 4 d) ∧ SlV c' tM (.slice B p q) ∧ p ≤ 100 ∧
  (∃ ls : List (Cs (isz tM)), Own Cs.val (isz tM) tM w' w0.heap.size (.slice B p q) ls ∧ ∀ y ∈ ls, bareP y.val) ∧ Ext w0.heap.size c0 c' ∧ TW T D c' w' ∧ Below w0.heap.size w0 w'
def PWb (ws : List Value) (T D : Nat) (c0 : Cx) (w0 : World) (x : Ending) (w' : World) : Prop := ∃ c' : Cx, (x = .returned (.tuple #[.agg ws.toArray, .bool false]) ∨
  ∃ (bad : Int) (A : Option Addr) (d : Nat) (B : Option Addr) (p q : Nat), x = .returned (.tuple #[.agg (List.toArray [.int .i64 bad, .slice A 4 d, .slice B p q]), .bool true]) ∧ SlV c' tR (.slice A 4 d) ∧ SlV c' tM (.slice B p q) ∧ p ≤ 100 ∧
    ∃ ls : List (Cs (isz tM)), Own Cs.val (isz tM) tM w' w0.heap.size (.slice B p q) ls ∧ ∀ y ∈ ls, bareP y.val) ∧ Ext w0.heap.size c0 c' ∧ TW T D c' w' ∧ Below w0.heap.size w0 w'
section
variable {T D P : Nat} {c0 c : Cx} {w0 w : World} {L : List LE} {V : List VE} {bad : Int} {A : Option Addr} {d : Nat} {B : Option Addr} {p q : Nat}
theorem St.pwd (j : Nat) (h : St ⟨c0, w0, none⟩ P T D c L V w) (hV : V[j]? = some (tM, bareP, .slice B p q)) (h1 : SlV c tR (.slice A 4 d)) (hp : p ≤ 100) : PWd T D c0 w0 (.returned (.agg (List.toArray [.int .i64 bad, .slice A 4 d, .slice B p q]))) w :=
  ⟨c, bad, A, d, B, p, q, rfl, h1, h.slV hV, hp, (h.vs _ (List.mem_of_getElem? hV)).2, h.fin.1, h.fin.2.1, h.fin.2.2⟩
theorem St.pwF {ws : List Value} (h : St ⟨c0, w0, none⟩ P T D c L V w) : PWb ws T D c0 w0 (.returned (.tuple #[.agg ws.toArray, .bool false])) w :=
  ⟨c, .inl rfl, h.fin.1, h.fin.2.1, h.fin.2.2⟩
theorem St.pwT {ws : List Value} (j : Nat) (h : St ⟨c0, w0, none⟩ P T D c L V w) (hV : V[j]? = some (tM, bareP, .slice B p q)) (h1 : SlV c tR (.slice A 4 d)) (hp : p ≤ 100) : PWb ws T D c0 w0 (.returned (.tuple #[.agg (List.toArray [.int .i64 bad, .slice A 4 d, .slice B p q]), .bool true])) w :=
  ⟨c, .inr ⟨bad, A, d, B, p, q, rfl, h1, h.slV hV, hp, (h.vs _ (List.mem_of_getElem? hV)).2⟩, h.fin.1, h.fin.2.1, h.fin.2.2⟩
theorem PWd.up {T' D' : Nat} {e : Ending} (h : PWd T D c0 w0 e w) (hT : T ≤ T') (hD : D ≤ D') : PWd T' D' c0 w0 e w := by
  obtain ⟨c', bad, A, d, B, p, q, h1, h2, h3, h4, h5, h6, h7, h8⟩ := h
  exact ⟨c', bad, A, d, B, p, q, h1, h2, h3, h4, h5, h6, h7.up hT hD, h8⟩
end
theorem TW.eventAt {T D : Nat} {c : Cx} {w : World} {g off n d i : Nat} (hT : TW T D c w) (hv : SlV c tE (.slice (some ⟨g, off, none⟩) n d)) (hi : i < n) : ∃ (ek at_ to kd fr vw sq : Int) (t : ReqV) (A : Option Addr) (m q : Nat) (B : Option Addr) (p f : Nat),
    w.cell? ⟨g, off + i * 14, none⟩ = some (.int .i64 ek) ∧ w.cell? ⟨g, off + i * 14 + 1, none⟩ = some (.int .i64 at_) ∧ w.cell? ⟨g, off + i * 14 + 2, none⟩ = some (.int .i64 to) ∧ w.cell? ⟨g, off + i * 14 + 3, none⟩ = some (.int .i64 kd) ∧ w.cell? ⟨g, off + i * 14 + 4, none⟩ = some (.int .i64 fr) ∧ w.cell? ⟨g, off + i * 14 + 5, none⟩ = some (.int .i64 vw) ∧ w.cell? ⟨g, off + i * 14 + 6, none⟩ = some (.int .i64 sq) ∧ w.cell? ⟨g, off + i * 14 + 7, none⟩ = some (.int .i64 t.1) ∧ w.cell? ⟨g, off + i * 14 + 8, none⟩ = some (.int .i64 t.2.1) ∧ w.cell? ⟨g, off + i * 14 + 9, none⟩ = some (.int .i64 t.2.2.1) ∧ w.cell? ⟨g, off + i * 14 + 10, none⟩ = some (.int .i64 t.2.2.2.1) ∧ w.cell? ⟨g, off + i * 14 + 11, none⟩ = some (.int .i64 t.2.2.2.2) ∧ w.cell? ⟨g, off + i * 14 + 12, none⟩ = some (.slice A m q) ∧ w.cell? ⟨g, off + i * 14 + 13, none⟩ = some (.slice B p f) ∧
    TyE T D c tE [.int .i64 ek, .int .i64 at_, .int .i64 to, .int .i64 kd, .int .i64 fr, .int .i64 vw, .int .i64 sq, .int .i64 t.1, .int .i64 t.2.1, .int .i64 t.2.2.1, .int .i64 t.2.2.2.1, .int .i64 t.2.2.2.2, .slice A m q, .slice B p f] := by
  obtain ⟨us, h1, h2⟩ := hT.elem hv hi
  obtain ⟨ek, at_, to, kd, fr, vw, sq, t, A, m, q, B, p, f, rfl, _⟩ := h2.event
  exact ⟨ek, at_, to, kd, fr, vw, sq, t, A, m, q, B, p, f, h1 0 _ rfl, h1 1 _ rfl, h1 2 _ rfl, h1 3 _ rfl, h1 4 _ rfl, h1 5 _ rfl, h1 6 _ rfl, h1 7 _ rfl, h1 8 _ rfl, h1 9 _ rfl, h1 10 _ rfl, h1 11 _ rfl, h1 12 _ rfl, h1 13 _ rfl, h2⟩
def CutQ (R : Act → World → Prop) : Exit → Act → World → Prop := fun e a w => e = .normal ∧ R a w
theorem CutQ.mk {R : Act → World → Prop} {a : Act} {w : World} (h : R a w) : CutQ R .normal a w := ⟨rfl, h⟩
theorem region_cut {Pg : Program} {id : Nat} {ops : Array Oper} {b : Bool} {a : Act} {w : World} {Q : Exit → Act → World → Prop} (R : Act → World → Prop) (h1 : (Code.region id ops b).wp Pg (CutQ R) a w) (h2 : ∀ a w, R a w → Q .normal a w) : (Code.region id ops b).wp Pg Q a w :=
  Code.wp_mono (fun e a w h => by obtain ⟨h, hr⟩ := h; subst h; exact h2 a w hr) h1
theorem St.headV {k : Bs} {P T D : Nat} {c : Cx} {L : List LE} {V : List VE} {w : World} {x : VE} (h : St k P T D c L (x :: V) w) : St k P T D c L [x] w :=
  ⟨h.ext, h.tw, h.on, h.rd, h.bx, h.nd, fun y hy => h.vs y (by rw [List.mem_singleton] at hy; subst hy; exact List.mem_cons_self), List.pairwise_singleton _ _⟩
section
variable {T D : Nat} {c0 : Cx} {w0 : World} {rs cs us vs : List Value} {A : Option Addr} {n d : Nat} {view : Int}
set_option maxRecDepth 100000 in
set_option maxHeartbeats 4000000 in
theorem l5Claims_t (hT : TW T D c0 w0) (hr : TyE T D c0 tR rs) :
    Calls Try.prog 95 #[.agg rs.toArray] w0 fun e w' => PSl 27 noP 5 T D c0 w0 e w' := by
  obtain ⟨me, vw, lv, nx, A1, n1, d1, A2, n2, d2, A3, n3, d3, rfl, g1, g2, g3, g4, g5, g6, g7, g8⟩ := hr.rep
  have hcap := g3.cap
  unfold maxLen at hcap
  have hS : St ⟨c0, w0, none⟩ 0 (T) (D) c0 [] [] w0 := (St.start hT (fun g hg => by cases hg)).raise (by omega) (by omega)
  go_enter Try.func95, Try.ntmps95
  go_wp2_with (first
    | ((refine no_implicit_lambda% (hdE ?_)); intro K hK; (first
      | ((with_reducible refine at_dst 1 ?_ ?_); (focus rfl); (refine no_implicit_lambda% (aB ?_)); (try clear hc ht hv); clear hS; intro b1 w hS hc ht hv)
      | ((with_reducible refine at_dst 5 ?_ ?_); (focus rfl); (refine no_implicit_lambda% (alzC ?_)); (try clear hc ht hv); clear hS; intro b5 w hS hc ht hv)
      | ((with_reducible refine at_dst 7 ?_ ?_); (focus rfl); (refine no_implicit_lambda% (alzC ?_)); (try clear hc ht hv); clear hS; intro b7 w hS hc ht hv)
      | ((with_reducible refine at_dst 8 ?_ ?_); (focus rfl); ((refine no_implicit_lambda% (r0zCnoP ?_)); (try clear hc ht hv); clear hS; intro c b w hS hx; (try clear hx); intro hc ht hv))
      | ((with_reducible refine at_dst 48 ?_ ?_); (focus rfl); ((refine no_implicit_lambda% (r1zCnoP ?_)); (try clear hc ht hv); clear hS; intro c b w hS hx; (try clear hx); intro hc ht hv))
      | ((with_reducible refine at_dst 49 ?_ ?_); (focus rfl); ((refine no_implicit_lambda% (apzC ?_)); (try clear hc ht hv); clear hS; intro c A49 d49 w hS hx; (try clear hx); intro hc ht hv))
      | ((refine no_implicit_lambda% (sazC ?_)); (try clear hc ht hv); clear hS; intro w hS hc ht hv)))
    | (go_at_call 105; refine (l5Is_t hS.tw tyA tyA).mono ?_; rintro e w ⟨bq, rfl, hb⟩; replace hS := hS.past hb; clear hb; (try clear hc ht hv); (try dsimp only); (refine no_implicit_lambda% (fct ?_)); intro hc ht hv; cases bq)
    | fail)
  go_loopw [3, 4, 6] (fun sv kv _ wr => ∃ (kk m : Nat) (c : Cx) (A : Option Addr) (d : Nat), kk ≤ 5 ∧ m ≤ kk ∧ kv = .int .i64 ((kk : Int) + 1) ∧ sv = .slice A m d ∧ St ⟨c0, w0, none⟩ 0 T D c [(b1, 87, [.int .i64 me, .int .i64 vw, .bool lv, .int .i64 nx, .slice A1 n1 d1, .slice A2 n2 d2, .slice A3 n3 d3])] [(27, noP, .slice A m d)] wr) (fun _ kv _ _ => 6 - (intOf kv).toNat)
  case atStart => exact ⟨0, 0, c, _, _, by omega, by omega, rfl, rfl, hS⟩
  case round =>
    (try clear hc ht hv); clear hS
    obtain ⟨kk, m, c, A', d', hk5, hmk, rfl, rfl, hS⟩ := hrel
    by_cases hlt : kk < 5
    · (try clear hc ht hv); (refine no_implicit_lambda% (fct ?_)); intro hc ht hv
      go_wp2_with (first
    | ((refine no_implicit_lambda% (hdE ?_)); intro K hK; (first
      | ((with_reducible refine at_dst 1 ?_ ?_); (focus rfl); (refine no_implicit_lambda% (aB ?_)); (try clear hc ht hv); clear hS; intro b1 w hS hc ht hv)
      | ((with_reducible refine at_dst 5 ?_ ?_); (focus rfl); (refine no_implicit_lambda% (alzC ?_)); (try clear hc ht hv); clear hS; intro b5 w hS hc ht hv)
      | ((with_reducible refine at_dst 7 ?_ ?_); (focus rfl); (refine no_implicit_lambda% (alzC ?_)); (try clear hc ht hv); clear hS; intro b7 w hS hc ht hv)
      | ((with_reducible refine at_dst 8 ?_ ?_); (focus rfl); ((refine no_implicit_lambda% (r0zCnoP ?_)); (try clear hc ht hv); clear hS; intro c b w hS hx; (try clear hx); intro hc ht hv))
      | ((with_reducible refine at_dst 48 ?_ ?_); (focus rfl); ((refine no_implicit_lambda% (r1zCnoP ?_)); (try clear hc ht hv); clear hS; intro c b w hS hx; (try clear hx); intro hc ht hv))
      | ((with_reducible refine at_dst 49 ?_ ?_); (focus rfl); ((refine no_implicit_lambda% (apzC ?_)); (try clear hc ht hv); clear hS; intro c A49 d49 w hS hx; (try clear hx); intro hc ht hv))
      | ((refine no_implicit_lambda% (sazC ?_)); (try clear hc ht hv); clear hS; intro w hS hc ht hv)))
    | (go_at_call 105; refine (l5Is_t hS.tw tyA tyA).mono ?_; rintro e w ⟨bq, rfl, hb⟩; replace hS := hS.past hb; clear hb; (try clear hc ht hv); (try dsimp only); (refine no_implicit_lambda% (fct ?_)); intro hc ht hv; cases bq)
    | fail)
      go_loopw [6] (fun iv ws => ∃ (i : Nat) (tb : ClaimT), i ≤ n1 ∧ iv = .int .i64 (i : Int) ∧ St ⟨c0, w0, none⟩ 0 T D c [(b5, 27, [.int .i64 tb.1, .int .i64 tb.2.1, .int .i64 tb.2.2.1, .int .i64 tb.2.2.2.1, .int .i64 tb.2.2.2.2.1, .int .i64 tb.2.2.2.2.2.1, .int .i64 tb.2.2.2.2.2.2]), (b1, 87, [.int .i64 me, .int .i64 vw, .bool lv, .int .i64 nx, .slice A1 n1 d1, .slice A2 n2 d2, .slice A3 n3 d3])] [(27, noP, .slice A' m d')] ws) (fun iv _ => n1 - (intOf iv).toNat)
      case atStart => exact ⟨0, (0, -1, 0, 0, 0, 0, 0), Nat.zero_le _, rfl, hS⟩
      case round =>
        (try clear hc ht hv); clear hS
        obtain ⟨i, tb, hi, rfl, hS⟩ := hrel
        have htb := hS.ty 0 rfl
        by_cases hlti : i < n1
        · obtain ⟨g, off, rfl⟩ := g3.addr hlti
          obtain ⟨t, a0, a1, a2, a3, a4, a5, a6, u1⟩ := hT.claimAt g3 hlti
          cases f1 : (t.1 == (kk : Int) + 1) <;> cases f2 : decide (tb.2.1 < t.2.1)
          all_goals
            (try clear hc ht hv); (refine no_implicit_lambda% (fct ?_)); intro hc ht hv; (refine no_implicit_lambda% (fx0c49e ?_)); intro e0 e1 e2 e3 e4 e5 e6
            go_wp2_with (first
    | ((refine no_implicit_lambda% (hdE ?_)); intro K hK; (first
      | ((with_reducible refine at_dst 1 ?_ ?_); (focus rfl); (refine no_implicit_lambda% (aB ?_)); (try clear hc ht hv); (try clear e0 e1 e2 e3 e4 e5 e6); clear hS; intro b1 w hS hc ht hv; (refine no_implicit_lambda% (fx0c49e ?_)); intro e0 e1 e2 e3 e4 e5 e6)
      | ((with_reducible refine at_dst 5 ?_ ?_); (focus rfl); (refine no_implicit_lambda% (alzC ?_)); (try clear hc ht hv); (try clear e0 e1 e2 e3 e4 e5 e6); clear hS; intro b5 w hS hc ht hv; (refine no_implicit_lambda% (fx0c49e ?_)); intro e0 e1 e2 e3 e4 e5 e6)
      | ((with_reducible refine at_dst 7 ?_ ?_); (focus rfl); (refine no_implicit_lambda% (alzC ?_)); (try clear hc ht hv); (try clear e0 e1 e2 e3 e4 e5 e6); clear hS; intro b7 w hS hc ht hv; (refine no_implicit_lambda% (fx0c49e ?_)); intro e0 e1 e2 e3 e4 e5 e6)
      | ((with_reducible refine at_dst 8 ?_ ?_); (focus rfl); ((refine no_implicit_lambda% (r0zCnoP ?_)); (try clear hc ht hv); (try clear e0 e1 e2 e3 e4 e5 e6); clear hS; intro c b w hS hx; (try clear hx); intro hc ht hv; (refine no_implicit_lambda% (fx0c49e ?_)); intro e0 e1 e2 e3 e4 e5 e6))
      | ((with_reducible refine at_dst 48 ?_ ?_); (focus rfl); ((refine no_implicit_lambda% (r1zCnoP ?_)); (try clear hc ht hv); (try clear e0 e1 e2 e3 e4 e5 e6); clear hS; intro c b w hS hx; (try clear hx); intro hc ht hv; (refine no_implicit_lambda% (fx0c49e ?_)); intro e0 e1 e2 e3 e4 e5 e6))
      | ((with_reducible refine at_dst 49 ?_ ?_); (focus rfl); ((refine no_implicit_lambda% (apzC ?_)); (try clear hc ht hv); (try clear e0 e1 e2 e3 e4 e5 e6); clear hS; intro c A49 d49 w hS hx; (try clear hx); intro hc ht hv; (refine no_implicit_lambda% (fx0c49e ?_)); intro e0 e1 e2 e3 e4 e5 e6))
      | ((refine no_implicit_lambda% (sazC ?_)); (try clear hc ht hv); (try clear e0 e1 e2 e3 e4 e5 e6); clear hS; intro w hS hc ht hv; (refine no_implicit_lambda% (fx0c49e ?_)); intro e0 e1 e2 e3 e4 e5 e6)))
    | (go_at_call 105; refine (l5Is_t hS.tw tyA tyA).mono ?_; rintro e w ⟨bq, rfl, hb⟩; replace hS := hS.past hb; clear hb; (try clear hc ht hv); (try clear e0 e1 e2 e3 e4 e5 e6); (try dsimp only); (refine no_implicit_lambda% (fct ?_)); intro hc ht hv; (refine no_implicit_lambda% (fx0c49e ?_)); intro e0 e1 e2 e3 e4 e5 e6; cases bq)
    | fail)
            all_goals
              go_roundw
              case rel => first | exact ⟨i + 1, tb, by omega, by go_num, hS.tailL⟩ | exact ⟨i + 1, t, by omega, by go_num, hS.tailL⟩
              case measure => simp [intOf]; omega
        · obtain rfl : i = n1 := by omega
          cases f9 : decide (0 ≤ tb.2.1)
          all_goals
            (try clear hc ht hv); (refine no_implicit_lambda% (fct ?_)); intro hc ht hv
            go_wp2_with (first
    | ((refine no_implicit_lambda% (hdE ?_)); intro K hK; (first
      | ((with_reducible refine at_dst 1 ?_ ?_); (focus rfl); (refine no_implicit_lambda% (aB ?_)); (try clear hc ht hv); clear hS; intro b1 w hS hc ht hv)
      | ((with_reducible refine at_dst 5 ?_ ?_); (focus rfl); (refine no_implicit_lambda% (alzC ?_)); (try clear hc ht hv); clear hS; intro b5 w hS hc ht hv)
      | ((with_reducible refine at_dst 7 ?_ ?_); (focus rfl); (refine no_implicit_lambda% (alzC ?_)); (try clear hc ht hv); clear hS; intro b7 w hS hc ht hv)
      | ((with_reducible refine at_dst 8 ?_ ?_); (focus rfl); ((refine no_implicit_lambda% (r0zCnoP ?_)); (try clear hc ht hv); clear hS; intro c b w hS hx; (try clear hx); intro hc ht hv))
      | ((with_reducible refine at_dst 48 ?_ ?_); (focus rfl); ((refine no_implicit_lambda% (r1zCnoP ?_)); (try clear hc ht hv); clear hS; intro c b w hS hx; (try clear hx); intro hc ht hv))
      | ((with_reducible refine at_dst 49 ?_ ?_); (focus rfl); ((refine no_implicit_lambda% (apzC ?_)); (try clear hc ht hv); clear hS; intro c A49 d49 w hS hx; (try clear hx); intro hc ht hv))
      | ((refine no_implicit_lambda% (sazC ?_)); (try clear hc ht hv); clear hS; intro w hS hc ht hv)))
    | (go_at_call 105; refine (l5Is_t hS.tw tyA tyA).mono ?_; rintro e w ⟨bq, rfl, hb⟩; replace hS := hS.past hb; clear hb; (try clear hc ht hv); (try dsimp only); (refine no_implicit_lambda% (fct ?_)); intro hc ht hv; cases bq)
    | fail)
            all_goals
              go_roundw
              case rel => first | exact ⟨kk + 1, m, c, _, _, by omega, by omega, by go_num, rfl, hS.tailL⟩ | exact ⟨kk + 1, m + 1, c, _, _, by omega, by omega, by go_num, rfl, hS.tailL.tailV⟩
              case measure => simp [intOf]; omega
    · obtain rfl : kk = 5 := by omega
      (try clear hc ht hv); (refine no_implicit_lambda% (fct ?_)); intro hc ht hv
      go_wp2_with (first
    | ((refine no_implicit_lambda% (hdE ?_)); intro K hK; (first
      | ((with_reducible refine at_dst 1 ?_ ?_); (focus rfl); (refine no_implicit_lambda% (aB ?_)); (try clear hc ht hv); clear hS; intro b1 w hS hc ht hv)
      | ((with_reducible refine at_dst 5 ?_ ?_); (focus rfl); (refine no_implicit_lambda% (alzC ?_)); (try clear hc ht hv); clear hS; intro b5 w hS hc ht hv)
      | ((with_reducible refine at_dst 7 ?_ ?_); (focus rfl); (refine no_implicit_lambda% (alzC ?_)); (try clear hc ht hv); clear hS; intro b7 w hS hc ht hv)
      | ((with_reducible refine at_dst 8 ?_ ?_); (focus rfl); ((refine no_implicit_lambda% (r0zCnoP ?_)); (try clear hc ht hv); clear hS; intro c b w hS hx; (try clear hx); intro hc ht hv))
      | ((with_reducible refine at_dst 48 ?_ ?_); (focus rfl); ((refine no_implicit_lambda% (r1zCnoP ?_)); (try clear hc ht hv); clear hS; intro c b w hS hx; (try clear hx); intro hc ht hv))
      | ((with_reducible refine at_dst 49 ?_ ?_); (focus rfl); ((refine no_implicit_lambda% (apzC ?_)); (try clear hc ht hv); clear hS; intro c A49 d49 w hS hx; (try clear hx); intro hc ht hv))
      | ((refine no_implicit_lambda% (sazC ?_)); (try clear hc ht hv); clear hS; intro w hS hc ht hv)))
    | (go_at_call 105; refine (l5Is_t hS.tw tyA tyA).mono ?_; rintro e w ⟨bq, rfl, hb⟩; replace hS := hS.past hb; clear hb; (try clear hc ht hv); (try dsimp only); (refine no_implicit_lambda% (fct ?_)); intro hc ht hv; cases bq)
    | fail)
      all_goals ((try simp only [Exit.inBlock, Exit.then]); first | exact bodyPost_ret (by simp [results, Try.results95, go_sem, hc] <;> rfl) rfl (hS.psl 0 rfl (by omega)) | exact bodyPost_ret (by simp [results, Try.results95, go_sem, hc] <;> rfl) rfl (hS.psl 1 rfl (by omega)) | exact bodyPost_ret (by simp [results, Try.results95, go_sem, hc] <;> rfl) rfl (hS.psl 2 rfl (by omega)))
end
end Go.Proofs.Ytopmbnnjhoinkaa
