/-
  What 'FVd' rests on (texts of this seat put together: TR TRa TX15 TS).
  Conditions: none.
-/
import Derived.Test.YtopmbnnjhoinkaaVV45
import Derived.ArgAppend
namespace Go.Proofs.Ytopmbnnjhoinkaa
open Go Go.RowKit Rg
set_option linter.unusedVariables false
set_option linter.unusedSimpArgs false
set_option maxHeartbeats 1000000
abbrev cE : Cx := fun _ => none
theorem TW.empty (T D : Nat) (w : World) : TW T D cE w := fun b e N h => by cases h
section
variable {k : Bs} {P P' T D T' D' : Nat} {c c' : Cx} {L : List LE} {V : List VE} {w w' : World} {g : Nat}
theorem St.startR (hT : TW T D c w) (hr : Rd w g P) (hc : c g = none) : St ⟨c, w, some g⟩ P T D c [] [] w :=
  St.start hT (fun g' hg' => by injection hg' with hg'; subst hg'; exact ⟨hr, hc⟩)
theorem St.upP (h : St k P T D c L V w) (hP : P ≤ P') : St k P' T D c L V w :=
  h.move (Ext.refl _ _) h.tw (Nat.le_refl _) (Nat.le_refl _) (Only.refl _ _ _) (fun g hg => (h.rd g hg).1.mono hP)
theorem St.belowR (h : St k P T D c L V w) (hg : k.G = some g) (hx : Ext w.heap.size c c') (hT : TW T' D' c' w') (hTT : T ≤ T') (hDD : D ≤ D') (ho : Only w.heap.size (some g) w w') (hr : Rd w' g P') : St k P' T' D' c' L V w' :=
  h.move hx hT hTT hDD (by rw [hg]; exact ho) (fun j hj => by rw [hg] at hj; injection hj with hj; subst hj; exact hr)
theorem St.rdc (h : St k P T D c L V w) (hg : k.G = some g) : c g = none := (h.rd g hg).2.2
end
def PClR (w0 : World) (g P : Nat) (x : Ending) (w' : World) : Prop := ∃ t : ClaimT, x = .returned (.agg (List.toArray [.int .i64 t.1, .int .i64 t.2.1, .int .i64 t.2.2.1, .int .i64 t.2.2.2.1, .int .i64 t.2.2.2.2.1, .int .i64 t.2.2.2.2.2.1, .int .i64 t.2.2.2.2.2.2])) ∧ t.1 ≤ 100 ∧ Rd w' g P ∧ Only w0.heap.size (some g) w0 w'
def PSlR (e : TypeId) (Pr : List Value → Prop) (M T D : Nat) (c0 : Cx) (w0 : World) (g P : Nat) (x : Ending) (w' : World) : Prop := ∃ (c' : Cx) (A : Option Addr) (n d : Nat), x = .returned (.slice A n d) ∧ n ≤ M ∧ SlV c' e (.slice A n d) ∧
  (∃ ls : List (Cs (isz e)), Own Cs.val (isz e) e w' w0.heap.size (.slice A n d) ls ∧ ∀ y ∈ ls, Pr y.val) ∧ Ext w0.heap.size c0 c' ∧ TW T D c' w' ∧ Rd w' g P ∧ Only w0.heap.size (some g) w0 w'
def PAgR (e : TypeId) (T D : Nat) (c0 : Cx) (w0 : World) (g P : Nat) (x : Ending) (w' : World) : Prop := ∃ (c' : Cx) (us : List Value), x = .returned (.agg us.toArray) ∧ TyE T D c' e us ∧ Ext w0.heap.size c0 c' ∧ TW T D c' w' ∧ Rd w' g P ∧ Only w0.heap.size (some g) w0 w'
def clen (us : List Value) : Nat := slen (us.getD 9 undef)
def PMgR (T D : Nat) (c0 : Cx) (w0 : World) (g P : Nat) (x : Ending) (w' : World) : Prop := ∃ (c' : Cx) (us : List Value), x = .returned (.agg us.toArray) ∧ TyE T D c' tM us ∧ Ext w0.heap.size c0 c' ∧ TW T D c' w' ∧ Rd w' g P ∧ Only w0.heap.size (some g) w0 w' ∧ clen us ≤ 10
theorem PMgR.ag {T D : Nat} {c0 : Cx} {w0 : World} {g P : Nat} {x : Ending} {w' : World} (h : PMgR T D c0 w0 g P x w') : PAgR tM T D c0 w0 g P x w' := by
  obtain ⟨c', us, h1, h2, h3, h4, h5, h6, _⟩ := h
  exact ⟨c', us, h1, h2, h3, h4, h5, h6⟩
def PWdR (T D : Nat) (c0 : Cx) (w0 : World) (g P : Nat) (x : Ending) (w' : World) : Prop := ∃ (c' : Cx) (bad : Int) (A : Option Addr) (d : Nat) (B : Option Addr) (p q : Nat), x = .returned (.agg (List.toArray [.int .i64 bad, .slice A 4 d, .slice B p q])) ∧ SlV c' tR (.slice A 4 d) ∧ SlV c' tM (.slice B p q) ∧ p ≤ 100 ∧
  (∃ ls : List (Cs (isz tM)), Own Cs.val (isz tM) tM w' w0.heap.size (.slice B p q) ls ∧ ∀ y ∈ ls, bareP y.val) ∧ Ext w0.heap.size c0 c' ∧ TW T D c' w' ∧ Rd w' g P ∧ Only w0.heap.size (some g) w0 w'
section
variable {P P' T D M : Nat} {c0 c : Cx} {L : List LE} {V : List VE} {w0 w : World} {g : Nat}
theorem St.finR (h : St ⟨c0, w0, some g⟩ P T D c L V w) (hP : P ≤ P') : Ext w0.heap.size c0 c ∧ TW T D c w ∧ Rd w g P' ∧ Only w0.heap.size (some g) w0 w := ⟨h.ext, h.tw, (h.rd g rfl).1.mono hP, h.on⟩
theorem St.pslR {e : TypeId} {Pr : List Value → Prop} {A : Option Addr} {n d : Nat} (j : Nat) (h : St ⟨c0, w0, some g⟩ P T D c L V w) (hV : V[j]? = some (e, Pr, .slice A n d)) (hn : n ≤ M) (hP : P ≤ P') : PSlR e Pr M T D c0 w0 g P' (.returned (.slice A n d)) w :=
  ⟨c, A, n, d, rfl, hn, h.slV hV, (h.vs _ (List.mem_of_getElem? hV)).2, h.finR hP⟩
theorem St.pagR {e : TypeId} {b : Nat} {us : List Value} (i : Nat) (h : St ⟨c0, w0, some g⟩ P T D c L V w) (hL : L[i]? = some (b, e, us)) (hP : P ≤ P') : PAgR e T D c0 w0 g P' (.returned (.agg us.toArray)) w :=
  ⟨c, us, rfl, h.ty i hL, h.finR hP⟩
theorem St.pmgR {b : Nat} {us : List Value} (i : Nat) (h : St ⟨c0, w0, some g⟩ P T D c L V w) (hL : L[i]? = some (b, tM, us)) (hP : P ≤ P') (hc : clen us ≤ 10) : PMgR T D c0 w0 g P' (.returned (.agg us.toArray)) w :=
  ⟨c, us, rfl, h.ty i hL, (h.finR hP).1, (h.finR hP).2.1, (h.finR hP).2.2.1, (h.finR hP).2.2.2, hc⟩
theorem St.pclR {b : Nat} {us : List Value} (i : Nat) (h : St ⟨c0, w0, some g⟩ P T D c L V w) (hL : L[i]? = some (b, tC, us)) (hP : P ≤ P') : PClR w0 g P' (.returned (.agg us.toArray)) w := by
  obtain ⟨t, rfl, ht⟩ := (h.ty i hL).claim
  exact ⟨t, rfl, ht, (h.finR hP).2.2.1, h.on⟩
theorem St.pwdR {bad : Int} {A : Option Addr} {d : Nat} {B : Option Addr} {p q : Nat} (j : Nat) (h : St ⟨c0, w0, some g⟩ P T D c L V w) (hV : V[j]? = some (tM, bareP, .slice B p q)) (h1 : SlV c tR (.slice A 4 d)) (hp : p ≤ 100) (hP : P ≤ P') : PWdR T D c0 w0 g P' (.returned (.agg (List.toArray [.int .i64 bad, .slice A 4 d, .slice B p q]))) w :=
  ⟨c, bad, A, d, B, p, q, rfl, h1, h.slV hV, hp, (h.vs _ (List.mem_of_getElem? hV)).2, h.finR hP⟩
end
theorem aggC (w : World) : (isAgg 27).run Try.prog w = .ok true w := by simp [isAgg, run_underlying Try.underlying27, Result.andThen]
theorem hoG_of {c0 : Cx} {w0 : World} {g gs os n d : Nat} {e : TypeId} (hG : c0 g = none) (h2 : SlV c0 e (.slice (some ⟨gs, os, none⟩) n d)) : (Bs.mk c0 w0 (some g)).G ≠ some gs := by
  intro h
  injection h with h
  subst h
  rcases h2 with h2 | ⟨_, _, _, _, _, h2, _, _, h5, _⟩
  · cases h2
  · injection h2 with h2
    injection h2 with h2
    injection h2 with h2
    subst h2
    rw [hG] at h5
    cases h5
theorem KB.cell {c c' : Cx} {w w' : World} {p : Addr} {ob : Obj} {v : Value} (h : KB c w p.block ob) (h' : KB c' w' p.block ob) (hc : w.cell? p = some v) : w'.cell? p = some v := (World.cell?_of_block (h'.2.trans h.2.symm)).trans hc
theorem St.swapV {k : Bs} {P T D : Nat} {c : Cx} {L : List LE} {V : List VE} {w : World} {x y : VE} (h : St k P T D c L (x :: y :: V) w) : St k P T D c L (y :: x :: V) w := by
  obtain ⟨h1, h2⟩ := List.pairwise_cons.1 h.vd
  obtain ⟨h3, h4⟩ := List.pairwise_cons.1 h2
  refine ⟨h.ext, h.tw, h.on, h.rd, h.bx, h.nd, fun z hz => h.vs z ?_, List.pairwise_cons.2 ⟨fun z hz => ?_, List.pairwise_cons.2 ⟨fun z hz => h1 z (List.mem_cons_of_mem _ hz), h4⟩⟩⟩
  · rcases List.mem_cons.1 hz with rfl | hz
    · exact List.mem_cons_of_mem _ List.mem_cons_self
    · rcases List.mem_cons.1 hz with rfl | hz
      · exact List.mem_cons_self
      · exact List.mem_cons_of_mem _ (List.mem_cons_of_mem _ hz)
  · rcases List.mem_cons.1 hz with rfl | hz
    · intro j hj hz
      exact h1 y List.mem_cons_self j hz hj
    · exact h3 z hz
section
variable {Pg : Program} {o : Oper} {a : Act} {w : World} {K : Act → World → Prop} {Q : Exit → Act → World → Prop} {k : Bs} {P T D : Nat} {c : Cx} {L : List LE} {V : List VE}
theorem wp_setPT (hS : St k P T D c L V w) {t : TypeId} {x y : Operand} {b j : Nat} {us : List Value} {e : TypeId} {vs : List Value} {z : Value} {bytes : Nat} (i : Nat) (ho : o.op = .store t y x) (hy : a.eval y = .pointer (some ⟨b, j, none⟩)) (hL : L[i]? = some (b, e, vs))
    (hx : a.eval x = .agg us.toArray) (hul : us.length = isz t) (h1c : ∀ u ∈ us, u.oneCell' = true) (hj : j + us.length ≤ vs.length) (hu : TyE T D c e (vs.take j ++ us ++ vs.drop (j + us.length))) (hi : InfoOf Pg t z bytes)
    (h : ∀ w', St k P T D c (L.set i (b, e, vs.take j ++ us ++ vs.drop (j + us.length))) V w' → K (a.put o.dst undef) w') : o.wp Pg a w K Q := by
  obtain ⟨b1, b2, b3, b4⟩ := hS.bx _ (List.mem_of_getElem? hL)
  have b1 : w.heap[b]? = some (.cells vs.toArray e (0, 0)) := b1
  obtain ⟨cur, p1, p2, p3⟩ := heap_putCells us w b j vs.toArray e b1 (by simpa using hj)
  have hcur : cur = (vs.take j ++ us ++ vs.drop (j + us.length)).toArray := by
    apply Array.toList_inj.1
    rw [p3]
  have h1 := h _ (hS.put hL hu (Only.put us (Only.refl _ _ _)) (by rw [← hcur]; exact p1))
  have hst := run_storeBox (Pg := Pg) (us := us) b1 hj h1c
  obtain ⟨inf, hi1, hi2, hi3, hi4⟩ := info_parts hi
  unfold Oper.wp
  simp [execOp, ho, hy, hx, Instr.storeAt, Instr.sureAddr, storeVar, sizeOf, typeInfo, hi1, hi3, hul, Value.cells, hst, Oper.upon, Result.andThen]
  exact h1
end
section
variable {T D P g : Nat} {c0 : Cx} {w0 : World} {bad : Int} {A : Option Addr} {d : Nat} {B : Option Addr} {p q : Nat} {C : Option Addr} {m f : Nat}
set_option maxRecDepth 100000 in
set_option maxHeartbeats 4000000 in
theorem l20Claim_t (hR : Rd w0 g P) (hP : P ≤ 900000 - 30) :
    Calls Try.prog 41 #[.pointer (some ⟨g, 0, none⟩)] w0 fun e w' => PClR w0 g (P + 30) e w' := by
  have hT := TW.empty 0 0 w0
  have hG : cE g = none := rfl
  have hS : St ⟨cE, w0, some g⟩ P 0 0 cE [] [] w0 := St.startR hT hR hG
  go_enter Try.func41, Try.ntmps41
  go_wp2_with (first
    | ((refine no_implicit_lambda% (hdE ?_)); intro K hK; (first
      | ((with_reducible refine at_store rfl ?_); (with_reducible apply wp_setPT hS 0); (focus rfl); (focus rfl); (focus rfl); (focus rfl); (focus rfl); (focus (intro u hu; simp at hu; rcases hu with rfl | rfl | rfl | rfl | rfl <;> rfl)); (focus (simp)); (focus (simp only [List.take_succ_cons, List.take_zero, List.drop_succ_cons, List.drop_zero, List.cons_append, List.nil_append, List.length_cons, List.length_nil, Nat.zero_add, Nat.reduceAdd]; (exact tyA))); (focus exact inQ); (try clear hc ht hv); clear hS; intro w hS; (try simp only [List.take_succ_cons, List.take_zero, List.drop_succ_cons, List.drop_zero, List.cons_append, List.nil_append, List.length_cons, List.length_nil, List.set_cons_zero, List.set_cons_succ, Nat.zero_add, Nat.reduceAdd] at hS); (refine no_implicit_lambda% (fct ?_)); intro hc ht hv)
      | ((with_reducible refine at_store rfl ?_); (with_reducible apply wp_setPT hS 1); (focus rfl); (focus rfl); (focus rfl); (focus rfl); (focus rfl); (focus (intro u hu; simp at hu; rcases hu with rfl | rfl | rfl | rfl | rfl <;> rfl)); (focus (simp)); (focus (simp only [List.take_succ_cons, List.take_zero, List.drop_succ_cons, List.drop_zero, List.cons_append, List.nil_append, List.length_cons, List.length_nil, Nat.zero_add, Nat.reduceAdd]; (exact tyA))); (focus exact inQ); (try clear hc ht hv); clear hS; intro w hS; (try simp only [List.take_succ_cons, List.take_zero, List.drop_succ_cons, List.drop_zero, List.cons_append, List.nil_append, List.length_cons, List.length_nil, List.set_cons_zero, List.set_cons_succ, Nat.zero_add, Nat.reduceAdd] at hS); (refine no_implicit_lambda% (fct ?_)); intro hc ht hv)
      | ((with_reducible refine at_store rfl ?_); (with_reducible apply wp_setPT hS 2); (focus rfl); (focus rfl); (focus rfl); (focus rfl); (focus rfl); (focus (intro u hu; simp at hu; rcases hu with rfl | rfl | rfl | rfl | rfl <;> rfl)); (focus (simp)); (focus (simp only [List.take_succ_cons, List.take_zero, List.drop_succ_cons, List.drop_zero, List.cons_append, List.nil_append, List.length_cons, List.length_nil, Nat.zero_add, Nat.reduceAdd]; (exact tyA))); (focus exact inQ); (try clear hc ht hv); clear hS; intro w hS; (try simp only [List.take_succ_cons, List.take_zero, List.drop_succ_cons, List.drop_zero, List.cons_append, List.nil_append, List.length_cons, List.length_nil, List.set_cons_zero, List.set_cons_succ, Nat.zero_add, Nat.reduceAdd] at hS); (refine no_implicit_lambda% (fct ?_)); intro hc ht hv)
      | ((with_reducible refine at_store rfl ?_); (with_reducible apply wp_setPT hS 3); (focus rfl); (focus rfl); (focus rfl); (focus rfl); (focus rfl); (focus (intro u hu; simp at hu; rcases hu with rfl | rfl | rfl | rfl | rfl <;> rfl)); (focus (simp)); (focus (simp only [List.take_succ_cons, List.take_zero, List.drop_succ_cons, List.drop_zero, List.cons_append, List.nil_append, List.length_cons, List.length_nil, Nat.zero_add, Nat.reduceAdd]; (exact tyA))); (focus exact inQ); (try clear hc ht hv); clear hS; intro w hS; (try simp only [List.take_succ_cons, List.take_zero, List.drop_succ_cons, List.drop_zero, List.cons_append, List.nil_append, List.length_cons, List.length_nil, List.set_cons_zero, List.set_cons_succ, Nat.zero_add, Nat.reduceAdd] at hS); (refine no_implicit_lambda% (fct ?_)); intro hc ht hv)
      | ((with_reducible refine at_dst 2 ?_ ?_); (focus rfl); (refine no_implicit_lambda% (alzC ?_)); (try clear hc ht hv); clear hS; intro b2 w hS hc ht hv)
      | ((with_reducible refine at_dst 3 ?_ ?_); (focus rfl); (refine no_implicit_lambda% (alzC ?_)); (try clear hc ht hv); clear hS; intro b3 w hS hc ht hv)
      | ((refine no_implicit_lambda% (sazC ?_)); (try clear hc ht hv); clear hS; intro w hS hc ht hv)
      | ((refine no_implicit_lambda% (sazQ ?_)); (try clear hc ht hv); clear hS; intro w hS hc ht hv)))
    | (go_at_call 25; refine (pick_c _ _ _ _ (hS.rd _ rfl).1 (by omega) (by omega)).mono ?_; rintro e w ⟨kq, rfl, hkq, hr', ho⟩; replace hkq := hkq.1 (by omega); (try replace hobV := KB.callR (Ext.refl _ _) ho (hS.rdc rfl) hobV); replace hS := hS.pastR rfl ho hr'; clear hr' ho; (try clear hc ht hv); (try dsimp only); (refine no_implicit_lambda% (fct ?_)); intro hc ht hv)
    | (go_at_call 69; refine (l20Req_c _ _ _ (hS.rd _ rfl).1 (by omega)).mono ?_; rintro e w ⟨tr, rfl, hq2, hr', ho⟩; clear hq2; replace hS := hS.pastR rfl ho hr'; clear hr' ho; (try clear hc ht hv); (try dsimp only); (refine no_implicit_lambda% (fct ?_)); intro hc ht hv)
    | fail)
  all_goals ((try simp only [Exit.inBlock, Exit.then]); first | exact bodyPost_ret (results_c (e := 27) rfl hS 0 rfl inC (aggC _) rfl) rfl (hS.pclR 0 rfl (by omega)) | exact bodyPost_ret (results_c (e := 27) rfl hS 1 rfl inC (aggC _) rfl) rfl (hS.pclR 1 rfl (by omega)) | exact bodyPost_ret (results_c (e := 27) rfl hS 2 rfl inC (aggC _) rfl) rfl (hS.pclR 2 rfl (by omega)) | exact bodyPost_ret (results_c (e := 27) rfl hS 3 rfl inC (aggC _) rfl) rfl (hS.pclR 3 rfl (by omega)))
set_option maxRecDepth 100000 in
set_option maxHeartbeats 4000000 in
theorem l20Claims_t (hT : TW T D c0 w0) (hR : Rd w0 g P) (hG : c0 g = none) (hP : P ≤ 860000) :
    Calls Try.prog 74 #[.pointer (some ⟨g, 0, none⟩)] w0 fun e w' => PSlR tC noP 3 T D c0 w0 g (P + 100) e w' := by
  have hS : St ⟨c0, w0, some g⟩ P T D c0 [] [] w0 := St.startR hT hR hG
  go_enter Try.func74, Try.ntmps74
  go_wp2_with (first
    | ((refine no_implicit_lambda% (hdE ?_)); intro K hK; (first
      | ((with_reducible refine at_dst 5 ?_ ?_); (focus rfl); (refine no_implicit_lambda% (alzC ?_)); (try clear hc ht hv); clear hS; intro b5 w hS hc ht hv)
      | ((with_reducible refine at_dst 6 ?_ ?_); (focus rfl); ((refine no_implicit_lambda% (r0zCnoP ?_)); (try clear hc ht hv); clear hS; intro c b w hS hx; (try clear hx); intro hc ht hv))
      | ((with_reducible refine at_dst 20 ?_ ?_); (focus rfl); ((refine no_implicit_lambda% (r1zCnoP ?_)); (try clear hc ht hv); clear hS; intro c b w hS hx; (try clear hx); intro hc ht hv))
      | ((with_reducible refine at_dst 21 ?_ ?_); (focus rfl); ((refine no_implicit_lambda% (apzC ?_)); (try clear hc ht hv); clear hS; intro c A21 d21 w hS hx; (try clear hx); intro hc ht hv))
      | ((refine no_implicit_lambda% (sazC ?_)); (try clear hc ht hv); clear hS; intro w hS hc ht hv)
      | ((refine no_implicit_lambda% (stI ?_)); (try clear hc ht hv); clear hS; intro w hS hc ht hv)))
    | (go_at_call 25; refine (pick_c _ _ _ _ (hS.rd _ rfl).1 (by omega) (by omega)).mono ?_; rintro e w ⟨kq, rfl, hkq, hr', ho⟩; replace hkq := hkq.1 (by omega); (try replace hobV := KB.callR (Ext.refl _ _) ho (hS.rdc rfl) hobV); replace hS := hS.pastR rfl ho hr'; clear hr' ho; (try clear hc ht hv); (try dsimp only); (refine no_implicit_lambda% (fct ?_)); intro hc ht hv)
    | (go_at_call 41; refine (l20Claim_t (hS.rd _ rfl).1 (by omega)).mono ?_; rintro e w ⟨tc, rfl, htc, hr', ho⟩; (try replace hobV := KB.callR (Ext.refl _ _) ho (hS.rdc rfl) hobV); replace hS := hS.pastR rfl ho hr'; clear hr' ho; (try clear hc ht hv); (try dsimp only); (refine no_implicit_lambda% (fct ?_)); intro hc ht hv)
    | fail)
  go_loopw [3, 4] (fun sv kv wr => ∃ (kk m : Nat) (c : Cx) (A : Option Addr) (d : Nat), kk ≤ 3 ∧ m ≤ kk ∧ kv = .int .i64 ((kk : Int) + 1) ∧ sv = .slice A m d ∧ St ⟨c0, w0, some g⟩ (P + 31 * kk) T D c [] [(tC, noP, .slice A m d)] wr) (fun _ kv _ => 4 - (intOf kv).toNat)
  case atStart => exact ⟨0, 0, c, _, _, by omega, by omega, rfl, rfl, hS⟩
  case round =>
    (try clear hc ht hv); clear hS
    obtain ⟨kk, m, c, A', d', hk3, hmk, rfl, rfl, hS⟩ := hrel
    by_cases hlt : kk < 3
    · (try clear hc ht hv); (refine no_implicit_lambda% (fct ?_)); intro hc ht hv
      go_wp2_with (first
    | ((refine no_implicit_lambda% (hdE ?_)); intro K hK; (first
      | ((with_reducible refine at_dst 5 ?_ ?_); (focus rfl); (refine no_implicit_lambda% (alzC ?_)); (try clear hc ht hv); clear hS; intro b5 w hS hc ht hv)
      | ((with_reducible refine at_dst 6 ?_ ?_); (focus rfl); ((refine no_implicit_lambda% (r0zCnoP ?_)); (try clear hc ht hv); clear hS; intro c b w hS hx; (try clear hx); intro hc ht hv))
      | ((with_reducible refine at_dst 20 ?_ ?_); (focus rfl); ((refine no_implicit_lambda% (r1zCnoP ?_)); (try clear hc ht hv); clear hS; intro c b w hS hx; (try clear hx); intro hc ht hv))
      | ((with_reducible refine at_dst 21 ?_ ?_); (focus rfl); ((refine no_implicit_lambda% (apzC ?_)); (try clear hc ht hv); clear hS; intro c A21 d21 w hS hx; (try clear hx); intro hc ht hv))
      | ((refine no_implicit_lambda% (sazC ?_)); (try clear hc ht hv); clear hS; intro w hS hc ht hv)
      | ((refine no_implicit_lambda% (stI ?_)); (try clear hc ht hv); clear hS; intro w hS hc ht hv)))
    | (go_at_call 25; refine (pick_c _ _ _ _ (hS.rd _ rfl).1 (by omega) (by omega)).mono ?_; rintro e w ⟨kq, rfl, hkq, hr', ho⟩; replace hkq := hkq.1 (by omega); (try replace hobV := KB.callR (Ext.refl _ _) ho (hS.rdc rfl) hobV); replace hS := hS.pastR rfl ho hr'; clear hr' ho; (try clear hc ht hv); (try dsimp only); (refine no_implicit_lambda% (fct ?_)); intro hc ht hv)
    | (go_at_call 41; refine (l20Claim_t (hS.rd _ rfl).1 (by omega)).mono ?_; rintro e w ⟨tc, rfl, htc, hr', ho⟩; (try replace hobV := KB.callR (Ext.refl _ _) ho (hS.rdc rfl) hobV); replace hS := hS.pastR rfl ho hr'; clear hr' ho; (try clear hc ht hv); (try dsimp only); (refine no_implicit_lambda% (fct ?_)); intro hc ht hv)
    | fail)
      all_goals
        go_roundw
        case rel => first | exact ⟨kk + 1, m, c, _, _, by omega, by omega, by go_num, rfl, hS.upP (by omega)⟩ | exact ⟨kk + 1, m + 1, c, _, _, by omega, by omega, by go_num, rfl, hS.tailL.tailV.upP (by omega)⟩
        case measure => simp [intOf]; omega
    · obtain rfl : kk = 3 := by omega
      (try clear hc ht hv); (refine no_implicit_lambda% (fct ?_)); intro hc ht hv
      go_wp2_with (first
    | ((refine no_implicit_lambda% (hdE ?_)); intro K hK; (first
      | ((with_reducible refine at_dst 5 ?_ ?_); (focus rfl); (refine no_implicit_lambda% (alzC ?_)); (try clear hc ht hv); clear hS; intro b5 w hS hc ht hv)
      | ((with_reducible refine at_dst 6 ?_ ?_); (focus rfl); ((refine no_implicit_lambda% (r0zCnoP ?_)); (try clear hc ht hv); clear hS; intro c b w hS hx; (try clear hx); intro hc ht hv))
      | ((with_reducible refine at_dst 20 ?_ ?_); (focus rfl); ((refine no_implicit_lambda% (r1zCnoP ?_)); (try clear hc ht hv); clear hS; intro c b w hS hx; (try clear hx); intro hc ht hv))
      | ((with_reducible refine at_dst 21 ?_ ?_); (focus rfl); ((refine no_implicit_lambda% (apzC ?_)); (try clear hc ht hv); clear hS; intro c A21 d21 w hS hx; (try clear hx); intro hc ht hv))
      | ((refine no_implicit_lambda% (sazC ?_)); (try clear hc ht hv); clear hS; intro w hS hc ht hv)
      | ((refine no_implicit_lambda% (stI ?_)); (try clear hc ht hv); clear hS; intro w hS hc ht hv)))
    | (go_at_call 25; refine (pick_c _ _ _ _ (hS.rd _ rfl).1 (by omega) (by omega)).mono ?_; rintro e w ⟨kq, rfl, hkq, hr', ho⟩; replace hkq := hkq.1 (by omega); (try replace hobV := KB.callR (Ext.refl _ _) ho (hS.rdc rfl) hobV); replace hS := hS.pastR rfl ho hr'; clear hr' ho; (try clear hc ht hv); (try dsimp only); (refine no_implicit_lambda% (fct ?_)); intro hc ht hv)
    | (go_at_call 41; refine (l20Claim_t (hS.rd _ rfl).1 (by omega)).mono ?_; rintro e w ⟨tc, rfl, htc, hr', ho⟩; (try replace hobV := KB.callR (Ext.refl _ _) ho (hS.rdc rfl) hobV); replace hS := hS.pastR rfl ho hr'; clear hr' ho; (try clear hc ht hv); (try dsimp only); (refine no_implicit_lambda% (fct ?_)); intro hc ht hv)
    | fail)
      all_goals ((try simp only [Exit.inBlock, Exit.then]); first | exact bodyPost_ret (by simp [results, Try.results74, go_sem, hc] <;> rfl) rfl (hS.pslR 0 rfl (by omega) (by omega)) | exact bodyPost_ret (by simp [results, Try.results74, go_sem, hc] <;> rfl) rfl (hS.pslR 1 rfl (by omega) (by omega)) | exact bodyPost_ret (by simp [results, Try.results74, go_sem, hc] <;> rfl) rfl (hS.pslR 2 rfl (by omega) (by omega)))
set_option maxRecDepth 100000 in
set_option maxHeartbeats 4000000 in
theorem l20Votes_t (hT : TW T D c0 w0) (hR : Rd w0 g P) (hG : c0 g = none) (hP : P ≤ 850000) :
    Calls Try.prog 75 #[.pointer (some ⟨g, 0, none⟩)] w0 fun e w' => PSlR tV noP 4 T D c0 w0 g (P + 410) e w' := by
  have hS : St ⟨c0, w0, some g⟩ P T D c0 [] [] w0 := St.startR hT hR hG
  go_enter Try.func75, Try.ntmps75
  go_wp2_with (first
    | ((refine no_implicit_lambda% (hdE ?_)); intro K hK; (first
      | ((with_reducible refine at_dst 5 ?_ ?_); (focus rfl); ((refine no_implicit_lambda% (r0zVnoP ?_)); (try clear hc ht hv); clear hS; intro c b w hS hx; (try clear hx); intro hc ht hv))
      | ((with_reducible refine at_dst 18 ?_ ?_); (focus rfl); ((refine no_implicit_lambda% (r1zVnoP ?_)); (try clear hc ht hv); clear hS; intro c b w hS hx; (try clear hx); intro hc ht hv))
      | ((with_reducible refine at_dst 19 ?_ ?_); (focus rfl); ((refine no_implicit_lambda% (apzV ?_)); (try clear hc ht hv); clear hS; intro c A19 d19 w hS hx; (try clear hx); intro hc ht hv))))
    | (go_at_call 25; refine (pick_c _ _ _ _ (hS.rd _ rfl).1 (by omega) (by omega)).mono ?_; rintro e w ⟨kq, rfl, hkq, hr', ho⟩; replace hkq := hkq.1 (by omega); (try replace hobV := KB.callR (Ext.refl _ _) ho (hS.rdc rfl) hobV); replace hS := hS.pastR rfl ho hr'; clear hr' ho; (try clear hc ht hv); (try dsimp only); (refine no_implicit_lambda% (fct ?_)); intro hc ht hv)
    | (go_at_call 74; refine (l20Claims_t hS.tw (hS.rd _ rfl).1 (hS.rdc rfl) (by omega)).mono ?_; rintro e w ⟨c, Ak, nk, dk, rfl, hnk, hs_, ⟨ls_, ho_, hp_⟩, hx, hT', hr', ho⟩; have hlt_ := hS.ownLt; replace hS := (hS.belowR rfl hx hT' (Nat.le_refl _) (Nat.le_refl _) ho hr').addV hs_ ho_ hp_ hS.base hlt_; clear hx hT' hr' ho hlt_ ho_ hp_ hs_ ls_; (try clear hc ht hv); (try dsimp only); (refine no_implicit_lambda% (fct ?_)); intro hc ht hv)
    | fail)
  go_loopw [3, 4] (fun sv kv wr => ∃ (kk m : Nat) (c : Cx) (A : Option Addr) (d : Nat), kk ≤ 4 ∧ m ≤ kk ∧ kv = .int .i64 (kk : Int) ∧ sv = .slice A m d ∧ St ⟨c0, w0, some g⟩ (P + 101 * kk) T D c [] [(tV, noP, .slice A m d)] wr) (fun _ kv _ => 4 - (intOf kv).toNat)
  case atStart => exact ⟨0, 0, c, _, _, by omega, by omega, rfl, rfl, hS⟩
  case round =>
    (try clear hc ht hv); clear hS
    obtain ⟨kk, m, c, A', d', hk3, hmk, rfl, rfl, hS⟩ := hrel
    by_cases hlt : kk < 4
    · (try clear hc ht hv); (refine no_implicit_lambda% (fct ?_)); intro hc ht hv
      go_wp2_with (first
    | ((refine no_implicit_lambda% (hdE ?_)); intro K hK; (first
      | ((with_reducible refine at_dst 5 ?_ ?_); (focus rfl); ((refine no_implicit_lambda% (r0zVnoP ?_)); (try clear hc ht hv); clear hS; intro c b w hS hx; (try clear hx); intro hc ht hv))
      | ((with_reducible refine at_dst 18 ?_ ?_); (focus rfl); ((refine no_implicit_lambda% (r1zVnoP ?_)); (try clear hc ht hv); clear hS; intro c b w hS hx; (try clear hx); intro hc ht hv))
      | ((with_reducible refine at_dst 19 ?_ ?_); (focus rfl); ((refine no_implicit_lambda% (apzV ?_)); (try clear hc ht hv); clear hS; intro c A19 d19 w hS hx; (try clear hx); intro hc ht hv))))
    | (go_at_call 25; refine (pick_c _ _ _ _ (hS.rd _ rfl).1 (by omega) (by omega)).mono ?_; rintro e w ⟨kq, rfl, hkq, hr', ho⟩; replace hkq := hkq.1 (by omega); (try replace hobV := KB.callR (Ext.refl _ _) ho (hS.rdc rfl) hobV); replace hS := hS.pastR rfl ho hr'; clear hr' ho; (try clear hc ht hv); (try dsimp only); (refine no_implicit_lambda% (fct ?_)); intro hc ht hv)
    | (go_at_call 74; refine (l20Claims_t hS.tw (hS.rd _ rfl).1 (hS.rdc rfl) (by omega)).mono ?_; rintro e w ⟨c, Ak, nk, dk, rfl, hnk, hs_, ⟨ls_, ho_, hp_⟩, hx, hT', hr', ho⟩; have hlt_ := hS.ownLt; replace hS := (hS.belowR rfl hx hT' (Nat.le_refl _) (Nat.le_refl _) ho hr').addV hs_ ho_ hp_ hS.base hlt_; clear hx hT' hr' ho hlt_ ho_ hp_ hs_ ls_; (try clear hc ht hv); (try dsimp only); (refine no_implicit_lambda% (fct ?_)); intro hc ht hv)
    | fail)
      all_goals
        go_roundw
        case rel => first | exact ⟨kk + 1, m, c, _, _, by omega, by omega, by go_num, rfl, hS.upP (by omega)⟩ | exact ⟨kk + 1, m + 1, c, _, _, by omega, by omega, by go_num, rfl, hS.tailV.tailV.upP (by omega)⟩
        case measure => simp [intOf]; omega
    · obtain rfl : kk = 4 := by omega
      (try clear hc ht hv); (refine no_implicit_lambda% (fct ?_)); intro hc ht hv
      go_wp2_with (first
    | ((refine no_implicit_lambda% (hdE ?_)); intro K hK; (first
      | ((with_reducible refine at_dst 5 ?_ ?_); (focus rfl); ((refine no_implicit_lambda% (r0zVnoP ?_)); (try clear hc ht hv); clear hS; intro c b w hS hx; (try clear hx); intro hc ht hv))
      | ((with_reducible refine at_dst 18 ?_ ?_); (focus rfl); ((refine no_implicit_lambda% (r1zVnoP ?_)); (try clear hc ht hv); clear hS; intro c b w hS hx; (try clear hx); intro hc ht hv))
      | ((with_reducible refine at_dst 19 ?_ ?_); (focus rfl); ((refine no_implicit_lambda% (apzV ?_)); (try clear hc ht hv); clear hS; intro c A19 d19 w hS hx; (try clear hx); intro hc ht hv))))
    | (go_at_call 25; refine (pick_c _ _ _ _ (hS.rd _ rfl).1 (by omega) (by omega)).mono ?_; rintro e w ⟨kq, rfl, hkq, hr', ho⟩; replace hkq := hkq.1 (by omega); (try replace hobV := KB.callR (Ext.refl _ _) ho (hS.rdc rfl) hobV); replace hS := hS.pastR rfl ho hr'; clear hr' ho; (try clear hc ht hv); (try dsimp only); (refine no_implicit_lambda% (fct ?_)); intro hc ht hv)
    | (go_at_call 74; refine (l20Claims_t hS.tw (hS.rd _ rfl).1 (hS.rdc rfl) (by omega)).mono ?_; rintro e w ⟨c, Ak, nk, dk, rfl, hnk, hs_, ⟨ls_, ho_, hp_⟩, hx, hT', hr', ho⟩; have hlt_ := hS.ownLt; replace hS := (hS.belowR rfl hx hT' (Nat.le_refl _) (Nat.le_refl _) ho hr').addV hs_ ho_ hp_ hS.base hlt_; clear hx hT' hr' ho hlt_ ho_ hp_ hs_ ls_; (try clear hc ht hv); (try dsimp only); (refine no_implicit_lambda% (fct ?_)); intro hc ht hv)
    | fail)
      all_goals ((try simp only [Exit.inBlock, Exit.then]); first | exact bodyPost_ret (by simp [results, Try.results75, go_sem, hc] <;> rfl) rfl (hS.pslR 0 rfl (by omega) (by omega)) | exact bodyPost_ret (by simp [results, Try.results75, go_sem, hc] <;> rfl) rfl (hS.pslR 1 rfl (by omega) (by omega)) | exact bodyPost_ret (by simp [results, Try.results75, go_sem, hc] <;> rfl) rfl (hS.pslR 2 rfl (by omega) (by omega)))
end
section
variable {T D : Nat} {c0 : Cx} {w0 : World} {rs cs us vs : List Value} {bad : Int} {A : Option Addr} {d : Nat} {B : Option Addr} {p q : Nat} {C : Option Addr} {m f : Nat}
set_option maxRecDepth 100000 in
set_option maxHeartbeats 4000000 in
theorem l6New_t (hT : TW T D c0 w0) (bad : Int) :
    Calls Try.prog 79 #[.int .i64 bad] w0 fun e w' => PWd T D c0 w0 e w' := by
  have hS : St ⟨c0, w0, none⟩ 0 (T) (D) c0 [] [] w0 := (St.start hT (fun g hg => by cases hg)).raise (by omega) (by omega)
  go_enter Try.func79, Try.ntmps79
  go_wp2_with (first
    | ((refine no_implicit_lambda% (hdE ?_)); intro K hK; (first
      | ((with_reducible refine at_dst 2 ?_ ?_); (focus rfl); (refine no_implicit_lambda% (alzW ?_)); (try clear hc ht hv); clear hS; intro b2 w hS hc ht hv)
      | ((with_reducible refine at_dst 3 ?_ ?_); (focus rfl); (refine no_implicit_lambda% (alzW ?_)); (try clear hc ht hv); clear hS; intro b3 w hS hc ht hv)
      | ((with_reducible refine at_dst 15 ?_ ?_); (focus rfl); ((refine no_implicit_lambda% (r1zRnoP ?_)); (try clear hc ht hv); clear hS; intro c b w hS hx; (try clear hx); intro hc ht hv))
      | ((with_reducible refine at_dst 16 ?_ ?_); (focus rfl); ((refine no_implicit_lambda% (apzR ?_)); (try clear hc ht hv); clear hS; intro c A16 d16 w hS hx; (try clear hx); intro hc ht hv))
      | ((refine no_implicit_lambda% (sazW ?_)); (try clear hc ht hv); clear hS; intro w hS hc ht hv)
      | ((refine no_implicit_lambda% (stS ?_)); (try clear hc ht hv); clear hS; intro w hS hc ht hv)))
    | (go_at_call 88; refine (l5New_c _ _).mono ?_; rintro e w ⟨rfl, hb⟩; replace hS := hS.past hb; clear hb; (try clear hc ht hv); (try dsimp only); (refine no_implicit_lambda% (fct ?_)); intro hc ht hv)
    | ((refine no_implicit_lambda% (rgspecl6New5 ?_)); (try clear hc ht hv); clear hS; intro hS hc ht hv)
    | ((with_reducible refine wpOF_both ?_ ?_) <;> (refine no_implicit_lambda% (pk_ ?_))) | ((with_reducible refine wpOF_three ?_ ?_ ?_) <;> (refine no_implicit_lambda% (pk_ ?_))) | ((with_reducible refine MS.and_ ?_ ?_); (focus (exact msA)); intro hM) | (refine no_implicit_lambda% (ofS ?_)) | ((refine no_implicit_lambda% (ofK ?_)); intro K hK) | (refine no_implicit_lambda% (ofL ?_)) | ((refine no_implicit_lambda% (ofM ?_)); intro K hK) | ((refine no_implicit_lambda% (ofX ?_)); intro K hK) | (refine no_implicit_lambda% (ofN ?_)) | ((with_reducible apply wpT_split); (focus rfl); (focus rfl); (focus rfl); all_goals (intro hxx; simp only [hxx]))
    | fail)
  replace hS := hS.nilV tR noP
  go_loopw [4] (fun iv wr => ∃ (i : Nat) (c : Cx) (A : Option Addr) (d : Nat), i ≤ 4 ∧ iv = .int .i64 (i : Int) ∧ St ⟨c0, w0, none⟩ 0 T D c [(b3, tW, [.int .i64 bad, .slice A i d, .slice none 0 0]), (b2, tW, [.int .i64 0, .slice none 0 0, .slice none 0 0])] [(tR, noP, .slice A i d)] wr) (fun iv _ => 4 - (intOf iv).toNat)
  case atStart => exact ⟨0, c0, none, 0, Nat.zero_le _, rfl, hS⟩
  case round =>
    (try clear hc ht hv); clear hS
    obtain ⟨i, c, A, d, hi, rfl, hS⟩ := hrel
    by_cases hlti : i < 4
    · (try clear hc ht hv); (refine no_implicit_lambda% (fct ?_)); intro hc ht hv
      go_wp2_with (first
    | ((refine no_implicit_lambda% (hdE ?_)); intro K hK; (first
      | ((with_reducible refine at_dst 2 ?_ ?_); (focus rfl); (refine no_implicit_lambda% (alzW ?_)); (try clear hc ht hv); clear hS; intro b2 w hS hc ht hv)
      | ((with_reducible refine at_dst 3 ?_ ?_); (focus rfl); (refine no_implicit_lambda% (alzW ?_)); (try clear hc ht hv); clear hS; intro b3 w hS hc ht hv)
      | ((with_reducible refine at_dst 15 ?_ ?_); (focus rfl); ((refine no_implicit_lambda% (r1zRnoP ?_)); (try clear hc ht hv); clear hS; intro c b w hS hx; (try clear hx); intro hc ht hv))
      | ((with_reducible refine at_dst 16 ?_ ?_); (focus rfl); ((refine no_implicit_lambda% (apzR ?_)); (try clear hc ht hv); clear hS; intro c A16 d16 w hS hx; (try clear hx); intro hc ht hv))
      | ((refine no_implicit_lambda% (sazW ?_)); (try clear hc ht hv); clear hS; intro w hS hc ht hv)
      | ((refine no_implicit_lambda% (stS ?_)); (try clear hc ht hv); clear hS; intro w hS hc ht hv)))
    | (go_at_call 88; refine (l5New_c _ _).mono ?_; rintro e w ⟨rfl, hb⟩; replace hS := hS.past hb; clear hb; (try clear hc ht hv); (try dsimp only); (refine no_implicit_lambda% (fct ?_)); intro hc ht hv)
    | ((refine no_implicit_lambda% (rgspecl6New5 ?_)); (try clear hc ht hv); clear hS; intro hS hc ht hv)
    | ((with_reducible refine wpOF_both ?_ ?_) <;> (refine no_implicit_lambda% (pk_ ?_))) | ((with_reducible refine wpOF_three ?_ ?_ ?_) <;> (refine no_implicit_lambda% (pk_ ?_))) | ((with_reducible refine MS.and_ ?_ ?_); (focus (exact msA)); intro hM) | (refine no_implicit_lambda% (ofS ?_)) | ((refine no_implicit_lambda% (ofK ?_)); intro K hK) | (refine no_implicit_lambda% (ofL ?_)) | ((refine no_implicit_lambda% (ofM ?_)); intro K hK) | ((refine no_implicit_lambda% (ofX ?_)); intro K hK) | (refine no_implicit_lambda% (ofN ?_)) | ((with_reducible apply wpT_split); (focus rfl); (focus rfl); (focus rfl); all_goals (intro hxx; simp only [hxx]))
    | fail)
      all_goals
        go_roundw
        case rel => exact ⟨i + 1, c, _, _, by omega, by go_num, hS.tailV⟩
        case measure => simp [intOf]; omega
    · obtain rfl : i = 4 := by omega
      replace hS := hS.nilV tM bareP
      (try clear hc ht hv); (refine no_implicit_lambda% (fct ?_)); intro hc ht hv
      go_wp2_with (first
    | ((refine no_implicit_lambda% (hdE ?_)); intro K hK; (first
      | ((with_reducible refine at_dst 2 ?_ ?_); (focus rfl); (refine no_implicit_lambda% (alzW ?_)); (try clear hc ht hv); clear hS; intro b2 w hS hc ht hv)
      | ((with_reducible refine at_dst 3 ?_ ?_); (focus rfl); (refine no_implicit_lambda% (alzW ?_)); (try clear hc ht hv); clear hS; intro b3 w hS hc ht hv)
      | ((with_reducible refine at_dst 15 ?_ ?_); (focus rfl); ((refine no_implicit_lambda% (r1zRnoP ?_)); (try clear hc ht hv); clear hS; intro c b w hS hx; (try clear hx); intro hc ht hv))
      | ((with_reducible refine at_dst 16 ?_ ?_); (focus rfl); ((refine no_implicit_lambda% (apzR ?_)); (try clear hc ht hv); clear hS; intro c A16 d16 w hS hx; (try clear hx); intro hc ht hv))
      | ((refine no_implicit_lambda% (sazW ?_)); (try clear hc ht hv); clear hS; intro w hS hc ht hv)
      | ((refine no_implicit_lambda% (stS ?_)); (try clear hc ht hv); clear hS; intro w hS hc ht hv)))
    | (go_at_call 88; refine (l5New_c _ _).mono ?_; rintro e w ⟨rfl, hb⟩; replace hS := hS.past hb; clear hb; (try clear hc ht hv); (try dsimp only); (refine no_implicit_lambda% (fct ?_)); intro hc ht hv)
    | ((refine no_implicit_lambda% (rgspecl6New5 ?_)); (try clear hc ht hv); clear hS; intro hS hc ht hv)
    | ((with_reducible refine wpOF_both ?_ ?_) <;> (refine no_implicit_lambda% (pk_ ?_))) | ((with_reducible refine wpOF_three ?_ ?_ ?_) <;> (refine no_implicit_lambda% (pk_ ?_))) | ((with_reducible refine MS.and_ ?_ ?_); (focus (exact msA)); intro hM) | (refine no_implicit_lambda% (ofS ?_)) | ((refine no_implicit_lambda% (ofK ?_)); intro K hK) | (refine no_implicit_lambda% (ofL ?_)) | ((refine no_implicit_lambda% (ofM ?_)); intro K hK) | ((refine no_implicit_lambda% (ofX ?_)); intro K hK) | (refine no_implicit_lambda% (ofN ?_)) | ((with_reducible apply wpT_split); (focus rfl); (focus rfl); (focus rfl); all_goals (intro hxx; simp only [hxx]))
    | fail)
      all_goals (exact no_implicit_lambda% fW4_3)
set_option maxRecDepth 100000 in
set_option maxHeartbeats 4000000 in
theorem WorldNew_t (hT : TW T D c0 w0) {bad : Int} (hb : inB bad 0 3 = true) :
    Calls Try.prog 67 #[.int .i64 bad] w0 fun e w' => PWd T D c0 w0 e w' := by
  have hS : St ⟨c0, w0, none⟩ 0 (T) (D) c0 [] [] w0 := (St.start hT (fun g hg => by cases hg)).raise (by omega) (by omega)
  go_enter Try.func67, Try.ntmps67
  go_wp2_with (first
    | ((refine no_implicit_lambda% (hdE ?_)); intro K hK; (first
      | ((with_reducible refine at_dst 2 ?_ ?_); (focus rfl); (refine no_implicit_lambda% (alzW ?_)); (try clear hc ht hv); clear hS; intro b2 w hS hc ht hv)
      | ((refine no_implicit_lambda% (sazW ?_)); (try clear hc ht hv); clear hS; intro w hS hc ht hv)))
    | (go_at_call 34; refine (l1In_c _ _ _ _).mono ?_; rintro e w ⟨rfl, rfl⟩; (try clear hc ht hv); (try dsimp only); (refine no_implicit_lambda% (fct ?_)); intro hc ht hv)
    | (go_at_call 79; refine (l6New_t hS.tw (T := _) (D := _) _).mono ?_; rintro e w ⟨c, bad', Aw, dw, Bw, pw, qw, rfl, s1, s2, hpw, ⟨ls, ho, hP⟩, hx, hT', hb⟩; have hlt_ := hS.ownLt; replace hS := (hS.below hx hT' (by omega) (by omega) hb).addV s2 ho hP hS.base hlt_; clear hx hT' hb hlt_ ho hP ls; (try clear hc ht hv); (try dsimp only); (refine no_implicit_lambda% (fct ?_)); intro hc ht hv)
    | fail)
  all_goals (exact no_implicit_lambda% fW4_3)
set_option maxRecDepth 100000 in
set_option maxHeartbeats 4000000 in
theorem l6Copy_t (hT : TW T D c0 w0) (h1 : SlV c0 tR (.slice A 4 d)) (h2 : SlV c0 tM (.slice B p q)) (hp : p ≤ 100) (hb : BareS w0 B p) (hB : T ≤ 100000000 ∧ D ≤ 1000000000) :
    Calls Try.prog 39 #[.agg (List.toArray [.int .i64 bad, .slice A 4 d, .slice B p q])] w0 fun e w' => PWd T D c0 w0 e w' := by
  have hS : St ⟨c0, w0, none⟩ 0 (T) (D) c0 [] [] w0 := (St.start hT (fun g hg => by cases hg)).raise (by omega) (by omega)
  go_enter Try.func39, Try.ntmps39
  go_wp2_with (first
    | ((refine no_implicit_lambda% (hdE ?_)); intro K hK; (first
      | ((with_reducible refine at_dst 1 ?_ ?_); (focus rfl); (refine no_implicit_lambda% (aB ?_)); (try clear hc ht hv); clear hS; intro b1 w hS hc ht hv)
      | ((with_reducible refine at_dst 2 ?_ ?_); (focus rfl); (refine no_implicit_lambda% (alzW ?_)); (try clear hc ht hv); clear hS; intro b2 w hS hc ht hv)
      | ((with_reducible refine at_dst 3 ?_ ?_); (focus rfl); (refine no_implicit_lambda% (alzW ?_)); (try clear hc ht hv); clear hS; intro b3 w hS hc ht hv)
      | ((with_reducible refine at_dst 24 ?_ ?_); (focus rfl); ((refine no_implicit_lambda% (r1zRnoP ?_)); (try clear hc ht hv); clear hS; intro c b w hS hx; (try replace hrs := hrs.mono hx.le); (try replace hus := hus.mono hx.le); (try clear hx); intro hc ht hv))
      | ((with_reducible refine at_dst 42 ?_ ?_); (focus rfl); ((refine no_implicit_lambda% (r1zMbareP ?_)); (try clear hc ht hv); clear hS; intro c b w hS hx; (try replace hrs := hrs.mono hx.le); (try replace hus := hus.mono hx.le); (try clear hx); intro hc ht hv))
      | ((with_reducible refine at_dst 25 ?_ ?_); (focus rfl); ((refine no_implicit_lambda% (apzR ?_)); (try clear hc ht hv); clear hS; intro c A25 d25 w hS hx; (try replace hrs := hrs.mono hx.le); (try replace hus := hus.mono hx.le); (try clear hx); intro hc ht hv))
      | ((with_reducible refine at_dst 43 ?_ ?_); (focus rfl); ((refine no_implicit_lambda% (apzM ?_)); (try clear hc ht hv); clear hS; intro c A43 d43 w hS hx; (try replace hrs := hrs.mono hx.le); (try replace hus := hus.mono hx.le); (try clear hx); intro hc ht hv))
      | ((refine no_implicit_lambda% (sazW ?_)); (try clear hc ht hv); clear hS; intro w hS hc ht hv)
      | ((refine no_implicit_lambda% (stS ?_)); (try clear hc ht hv); clear hS; intro w hS hc ht hv)))
    | (go_at_call 65; refine (l5Copy_t hS.tw tyA (by omega)).mono ?_; rintro e w ⟨c, rs, rfl, hrs, hx, hT', hb⟩; (try replace hobV := KB.call hx hb hobV); replace hS := hS.below hx hT' (by omega) (by omega) hb; clear hx hT' hb; (try clear hc ht hv); (obtain ⟨_, _, _, _, _, _, _, _, _, _, _, _, _, rfl, _, _, _, _, _, _, _, _⟩ := hrs.rep); (try dsimp only); (refine no_implicit_lambda% (fct ?_)); intro hc ht hv)
    | (go_at_call 66; refine (l3Copy_t hS.tw tyA).mono ?_; rintro e w ⟨c, us, rfl, hus, hx, hT', hb, hbare⟩; replace hS := hS.below hx hT' (by omega) (by omega) hb; clear hx hT' hb; (try clear hc ht hv); (obtain ⟨_, _, _, _, _, _, _, _, _, _, _, rfl, _, _, _, _, _⟩ := hus.msg); (try dsimp only); (refine no_implicit_lambda% (fct ?_)); intro hc ht hv)
    | ((refine no_implicit_lambda% (rgspecl6Copy5XO ?_)); (try clear hc ht hv); clear hS; intro hS hc ht hv)
    | ((refine no_implicit_lambda% (rgspecl6Copy9XO ?_)); (try clear hc ht hv); clear hS; intro hS hc ht hv)
    | ((with_reducible refine wpOF_both ?_ ?_) <;> (refine no_implicit_lambda% (pk_ ?_))) | ((with_reducible refine wpOF_three ?_ ?_ ?_) <;> (refine no_implicit_lambda% (pk_ ?_))) | ((with_reducible refine MS.and_ ?_ ?_); (focus (exact msA)); intro hM) | (refine no_implicit_lambda% (ofS ?_)) | ((refine no_implicit_lambda% (ofK ?_)); intro K hK) | (refine no_implicit_lambda% (ofL ?_)) | ((refine no_implicit_lambda% (ofM ?_)); intro K hK) | ((refine no_implicit_lambda% (ofX ?_)); intro K hK) | (refine no_implicit_lambda% (ofN ?_)) | ((with_reducible apply wpT_split); (focus rfl); (focus rfl); (focus rfl); all_goals (intro hxx; simp only [hxx]))
    | fail)
  replace hS := hS.nilV tR noP
  go_loopw [4] (fun iv wr => ∃ (i : Nat) (c : Cx) (A' : Option Addr) (d' : Nat), i ≤ 4 ∧ iv = .int .i64 (i : Int) ∧ St ⟨c0, w0, none⟩ 0 T D c [(b3, tW, [.int .i64 bad, .slice A' i d', .slice none 0 0]), (b2, tW, [.int .i64 0, .slice none 0 0, .slice none 0 0]), (b1, tW, [.int .i64 bad, .slice A 4 d, .slice B p q])] [(tR, noP, .slice A' i d')] wr) (fun iv _ => 4 - (intOf iv).toNat)
  case atStart => exact ⟨0, c0, none, 0, Nat.zero_le _, rfl, hS⟩
  case round =>
    (try clear hc ht hv); clear hS
    obtain ⟨i, c, A', d', hi, rfl, hS⟩ := hrel
    by_cases hlti : i < 4
    · obtain ⟨g, off, rfl⟩ := h1.addr hlti
      obtain ⟨me', vw', lv', nx', Aa, na, da, Ab, nb_, db, Ac, nc, dc, a0, a1, a2, a3, a4, a5, a6, u1⟩ := hT.repAt h1 hlti
      obtain ⟨ob, hob⟩ := hT.rowOb h1
      have hoG : (Bs.mk c0 w0 none).G ≠ some g := (by intro h; cases h)
      (try clear hc ht hv); (refine no_implicit_lambda% (fct ?_)); intro hc ht hv; (refine no_implicit_lambda% (fx371c6 ?_)); intro e0 e1 e2 e3 e4 e5 e6 e9
      go_wp2_with (first
    | ((refine no_implicit_lambda% (hdE ?_)); intro K hK; (first
      | ((with_reducible refine at_dst 1 ?_ ?_); (focus rfl); (refine no_implicit_lambda% (aB ?_)); (try clear hc ht hv); (try clear e0 e1 e2 e3 e4 e5 e6 e9); clear hS; intro b1 w hS hc ht hv; (refine no_implicit_lambda% (fx371c6 ?_)); intro e0 e1 e2 e3 e4 e5 e6 e9)
      | ((with_reducible refine at_dst 2 ?_ ?_); (focus rfl); (refine no_implicit_lambda% (alzW ?_)); (try clear hc ht hv); (try clear e0 e1 e2 e3 e4 e5 e6 e9); clear hS; intro b2 w hS hc ht hv; (refine no_implicit_lambda% (fx371c6 ?_)); intro e0 e1 e2 e3 e4 e5 e6 e9)
      | ((with_reducible refine at_dst 3 ?_ ?_); (focus rfl); (refine no_implicit_lambda% (alzW ?_)); (try clear hc ht hv); (try clear e0 e1 e2 e3 e4 e5 e6 e9); clear hS; intro b3 w hS hc ht hv; (refine no_implicit_lambda% (fx371c6 ?_)); intro e0 e1 e2 e3 e4 e5 e6 e9)
      | ((with_reducible refine at_dst 24 ?_ ?_); (focus rfl); ((refine no_implicit_lambda% (r1zRnoP ?_)); (try clear hc ht hv); (try clear e0 e1 e2 e3 e4 e5 e6 e9); clear hS; intro c b w hS hx; (try replace hrs := hrs.mono hx.le); (try replace hus := hus.mono hx.le); (try clear hx); intro hc ht hv; (refine no_implicit_lambda% (fx371c6 ?_)); intro e0 e1 e2 e3 e4 e5 e6 e9))
      | ((with_reducible refine at_dst 42 ?_ ?_); (focus rfl); ((refine no_implicit_lambda% (r1zMbareP ?_)); (try clear hc ht hv); (try clear e0 e1 e2 e3 e4 e5 e6 e9); clear hS; intro c b w hS hx; (try replace hrs := hrs.mono hx.le); (try replace hus := hus.mono hx.le); (try clear hx); intro hc ht hv; (refine no_implicit_lambda% (fx371c6 ?_)); intro e0 e1 e2 e3 e4 e5 e6 e9))
      | ((with_reducible refine at_dst 25 ?_ ?_); (focus rfl); ((refine no_implicit_lambda% (apzR ?_)); (try clear hc ht hv); (try clear e0 e1 e2 e3 e4 e5 e6 e9); clear hS; intro c A25 d25 w hS hx; (try replace hrs := hrs.mono hx.le); (try replace hus := hus.mono hx.le); (try clear hx); intro hc ht hv; (refine no_implicit_lambda% (fx371c6 ?_)); intro e0 e1 e2 e3 e4 e5 e6 e9))
      | ((with_reducible refine at_dst 43 ?_ ?_); (focus rfl); ((refine no_implicit_lambda% (apzM ?_)); (try clear hc ht hv); (try clear e0 e1 e2 e3 e4 e5 e6 e9); clear hS; intro c A43 d43 w hS hx; (try replace hrs := hrs.mono hx.le); (try replace hus := hus.mono hx.le); (try clear hx); intro hc ht hv; (refine no_implicit_lambda% (fx371c6 ?_)); intro e0 e1 e2 e3 e4 e5 e6 e9))
      | ((refine no_implicit_lambda% (sazW ?_)); (try clear hc ht hv); (try clear e0 e1 e2 e3 e4 e5 e6 e9); clear hS; intro w hS hc ht hv; (refine no_implicit_lambda% (fx371c6 ?_)); intro e0 e1 e2 e3 e4 e5 e6 e9)
      | ((refine no_implicit_lambda% (stS ?_)); (try clear hc ht hv); (try clear e0 e1 e2 e3 e4 e5 e6 e9); clear hS; intro w hS hc ht hv; (refine no_implicit_lambda% (fx371c6 ?_)); intro e0 e1 e2 e3 e4 e5 e6 e9)))
    | (go_at_call 65; refine (l5Copy_t hS.tw tyA (by omega)).mono ?_; rintro e w ⟨c, rs, rfl, hrs, hx, hT', hb⟩; (try replace hobV := KB.call hx hb hobV); replace hS := hS.below hx hT' (by omega) (by omega) hb; clear hx hT' hb; (try clear hc ht hv); (try clear e0 e1 e2 e3 e4 e5 e6 e9); (obtain ⟨_, _, _, _, _, _, _, _, _, _, _, _, _, rfl, _, _, _, _, _, _, _, _⟩ := hrs.rep); (try dsimp only); (refine no_implicit_lambda% (fct ?_)); intro hc ht hv; (refine no_implicit_lambda% (fx371c6 ?_)); intro e0 e1 e2 e3 e4 e5 e6 e9)
    | (go_at_call 66; refine (l3Copy_t hS.tw tyA).mono ?_; rintro e w ⟨c, us, rfl, hus, hx, hT', hb, hbare⟩; replace hS := hS.below hx hT' (by omega) (by omega) hb; clear hx hT' hb; (try clear hc ht hv); (try clear e0 e1 e2 e3 e4 e5 e6 e9); (obtain ⟨_, _, _, _, _, _, _, _, _, _, _, rfl, _, _, _, _, _⟩ := hus.msg); (try dsimp only); (refine no_implicit_lambda% (fct ?_)); intro hc ht hv; (refine no_implicit_lambda% (fx371c6 ?_)); intro e0 e1 e2 e3 e4 e5 e6 e9)
    | ((refine no_implicit_lambda% (rgspecl6Copy5XO ?_)); (try clear hc ht hv); (try clear e0 e1 e2 e3 e4 e5 e6 e9); clear hS; intro hS hc ht hv; (refine no_implicit_lambda% (fx371c6 ?_)); intro e0 e1 e2 e3 e4 e5 e6 e9)
    | ((refine no_implicit_lambda% (rgspecl6Copy9XO ?_)); (try clear hc ht hv); (try clear e0 e1 e2 e3 e4 e5 e6 e9); clear hS; intro hS hc ht hv; (refine no_implicit_lambda% (fx371c6 ?_)); intro e0 e1 e2 e3 e4 e5 e6 e9)
    | ((with_reducible refine wpOF_both ?_ ?_) <;> (refine no_implicit_lambda% (pk_ ?_))) | ((with_reducible refine wpOF_three ?_ ?_ ?_) <;> (refine no_implicit_lambda% (pk_ ?_))) | ((with_reducible refine MS.and_ ?_ ?_); (focus (exact msA)); intro hM) | (refine no_implicit_lambda% (ofS ?_)) | ((refine no_implicit_lambda% (ofK ?_)); intro K hK) | (refine no_implicit_lambda% (ofL ?_)) | ((refine no_implicit_lambda% (ofM ?_)); intro K hK) | ((refine no_implicit_lambda% (ofX ?_)); intro K hK) | (refine no_implicit_lambda% (ofN ?_)) | ((with_reducible apply wpT_split); (focus rfl); (focus rfl); (focus rfl); all_goals (intro hxx; simp only [hxx]))
    | fail)
      all_goals
        go_roundw
        case rel => exact ⟨i + 1, c, _, _, by omega, by go_num, hS.tailV⟩
        case measure => simp [intOf]; omega
    · obtain rfl : i = 4 := by omega
      have hsR := hS.slV (j := 0) rfl
      (try clear hc ht hv); (refine no_implicit_lambda% (fct ?_)); intro hc ht hv
      go_wp2_with (first
    | ((refine no_implicit_lambda% (hdE ?_)); intro K hK; (first
      | ((with_reducible refine at_dst 1 ?_ ?_); (focus rfl); (refine no_implicit_lambda% (aB ?_)); (try clear hc ht hv); clear hS; intro b1 w hS hc ht hv)
      | ((with_reducible refine at_dst 2 ?_ ?_); (focus rfl); (refine no_implicit_lambda% (alzW ?_)); (try clear hc ht hv); clear hS; intro b2 w hS hc ht hv)
      | ((with_reducible refine at_dst 3 ?_ ?_); (focus rfl); (refine no_implicit_lambda% (alzW ?_)); (try clear hc ht hv); clear hS; intro b3 w hS hc ht hv)
      | ((with_reducible refine at_dst 24 ?_ ?_); (focus rfl); ((refine no_implicit_lambda% (r1zRnoP ?_)); (try clear hc ht hv); clear hS; intro c b w hS hx; (try replace hrs := hrs.mono hx.le); (try replace hus := hus.mono hx.le); (try clear hx); intro hc ht hv))
      | ((with_reducible refine at_dst 42 ?_ ?_); (focus rfl); ((refine no_implicit_lambda% (r1zMbareP ?_)); (try clear hc ht hv); clear hS; intro c b w hS hx; (try replace hrs := hrs.mono hx.le); (try replace hus := hus.mono hx.le); (try clear hx); intro hc ht hv))
      | ((with_reducible refine at_dst 25 ?_ ?_); (focus rfl); ((refine no_implicit_lambda% (apzR ?_)); (try clear hc ht hv); clear hS; intro c A25 d25 w hS hx; (try replace hrs := hrs.mono hx.le); (try replace hus := hus.mono hx.le); (try clear hx); intro hc ht hv))
      | ((with_reducible refine at_dst 43 ?_ ?_); (focus rfl); ((refine no_implicit_lambda% (apzM ?_)); (try clear hc ht hv); clear hS; intro c A43 d43 w hS hx; (try replace hrs := hrs.mono hx.le); (try replace hus := hus.mono hx.le); (try clear hx); intro hc ht hv))
      | ((refine no_implicit_lambda% (sazW ?_)); (try clear hc ht hv); clear hS; intro w hS hc ht hv)
      | ((refine no_implicit_lambda% (stS ?_)); (try clear hc ht hv); clear hS; intro w hS hc ht hv)))
    | (go_at_call 65; refine (l5Copy_t hS.tw tyA (by omega)).mono ?_; rintro e w ⟨c, rs, rfl, hrs, hx, hT', hb⟩; (try replace hobV := KB.call hx hb hobV); replace hS := hS.below hx hT' (by omega) (by omega) hb; clear hx hT' hb; (try clear hc ht hv); (obtain ⟨_, _, _, _, _, _, _, _, _, _, _, _, _, rfl, _, _, _, _, _, _, _, _⟩ := hrs.rep); (try dsimp only); (refine no_implicit_lambda% (fct ?_)); intro hc ht hv)
    | (go_at_call 66; refine (l3Copy_t hS.tw tyA).mono ?_; rintro e w ⟨c, us, rfl, hus, hx, hT', hb, hbare⟩; replace hS := hS.below hx hT' (by omega) (by omega) hb; clear hx hT' hb; (try clear hc ht hv); (obtain ⟨_, _, _, _, _, _, _, _, _, _, _, rfl, _, _, _, _, _⟩ := hus.msg); (try dsimp only); (refine no_implicit_lambda% (fct ?_)); intro hc ht hv)
    | ((refine no_implicit_lambda% (rgspecl6Copy5XO ?_)); (try clear hc ht hv); clear hS; intro hS hc ht hv)
    | ((refine no_implicit_lambda% (rgspecl6Copy9XO ?_)); (try clear hc ht hv); clear hS; intro hS hc ht hv)
    | ((with_reducible refine wpOF_both ?_ ?_) <;> (refine no_implicit_lambda% (pk_ ?_))) | ((with_reducible refine wpOF_three ?_ ?_ ?_) <;> (refine no_implicit_lambda% (pk_ ?_))) | ((with_reducible refine MS.and_ ?_ ?_); (focus (exact msA)); intro hM) | (refine no_implicit_lambda% (ofS ?_)) | ((refine no_implicit_lambda% (ofK ?_)); intro K hK) | (refine no_implicit_lambda% (ofL ?_)) | ((refine no_implicit_lambda% (ofM ?_)); intro K hK) | ((refine no_implicit_lambda% (ofX ?_)); intro K hK) | (refine no_implicit_lambda% (ofN ?_)) | ((with_reducible apply wpT_split); (focus rfl); (focus rfl); (focus rfl); all_goals (intro hxx; simp only [hxx]))
    | fail)
      replace hS := hS.nilV tM bareP
      go_loopw [5] (fun iv wr => ∃ (i : Nat) (c : Cx) (B' : Option Addr) (q' : Nat), i ≤ p ∧ iv = .int .i64 (i : Int) ∧ St ⟨c0, w0, none⟩ 0 T D c [(b3, tW, [.int .i64 bad, .slice A' 4 d', .slice B' i q']), (b2, tW, [.int .i64 0, .slice none 0 0, .slice none 0 0]), (b1, tW, [.int .i64 bad, .slice A 4 d, .slice B p q])] [(tM, bareP, .slice B' i q')] wr) (fun iv _ => p - (intOf iv).toNat)
      case atStart => exact ⟨0, c, none, 0, Nat.zero_le _, rfl, hS.tailV1⟩
      case round =>
        (try clear hc ht hv); clear hS hsR
        obtain ⟨i, c, B', q', hi, rfl, hS⟩ := hrel
        by_cases hlti : i < p
        · obtain ⟨g, off, rfl⟩ := h2.addr hlti
          obtain ⟨kd, fr, mv, sq, mr, Ac, nc, dc, Av, nv, dv, a0, a1, a2, a3, a4, a5, a6, a7, a8, a9, a10, u1, u2, u3, u4, u5⟩ := hT.msgAt h2 hlti
          have hbz := hT.bareAt h2 hb hlti a0 a1 a2 a3 a4 a5 a6 a7 a8 a9 a10
          obtain ⟨ob, hob⟩ := hT.rowOb h2
          have hoG : (Bs.mk c0 w0 none).G ≠ some g := (by intro h; cases h)
          (try clear hc ht hv); (refine no_implicit_lambda% (fct ?_)); intro hc ht hv; (refine no_implicit_lambda% (fx2eb15 ?_)); intro e0 e1 e2 e3 e4 e5 e6 e7 e8 e9 e10 e12 e14
          go_wp2_with (first
    | ((refine no_implicit_lambda% (hdE ?_)); intro K hK; (first
      | ((with_reducible refine at_dst 1 ?_ ?_); (focus rfl); (refine no_implicit_lambda% (aB ?_)); (try clear hc ht hv); (try clear e0 e1 e2 e3 e4 e5 e6 e7 e8 e9 e10 e12 e14); clear hS; intro b1 w hS hc ht hv; (refine no_implicit_lambda% (fx2eb15 ?_)); intro e0 e1 e2 e3 e4 e5 e6 e7 e8 e9 e10 e12 e14)
      | ((with_reducible refine at_dst 2 ?_ ?_); (focus rfl); (refine no_implicit_lambda% (alzW ?_)); (try clear hc ht hv); (try clear e0 e1 e2 e3 e4 e5 e6 e7 e8 e9 e10 e12 e14); clear hS; intro b2 w hS hc ht hv; (refine no_implicit_lambda% (fx2eb15 ?_)); intro e0 e1 e2 e3 e4 e5 e6 e7 e8 e9 e10 e12 e14)
      | ((with_reducible refine at_dst 3 ?_ ?_); (focus rfl); (refine no_implicit_lambda% (alzW ?_)); (try clear hc ht hv); (try clear e0 e1 e2 e3 e4 e5 e6 e7 e8 e9 e10 e12 e14); clear hS; intro b3 w hS hc ht hv; (refine no_implicit_lambda% (fx2eb15 ?_)); intro e0 e1 e2 e3 e4 e5 e6 e7 e8 e9 e10 e12 e14)
      | ((with_reducible refine at_dst 24 ?_ ?_); (focus rfl); ((refine no_implicit_lambda% (r1zRnoP ?_)); (try clear hc ht hv); (try clear e0 e1 e2 e3 e4 e5 e6 e7 e8 e9 e10 e12 e14); clear hS; intro c b w hS hx; (try replace hrs := hrs.mono hx.le); (try replace hus := hus.mono hx.le); (try clear hx); intro hc ht hv; (refine no_implicit_lambda% (fx2eb15 ?_)); intro e0 e1 e2 e3 e4 e5 e6 e7 e8 e9 e10 e12 e14))
      | ((with_reducible refine at_dst 42 ?_ ?_); (focus rfl); ((refine no_implicit_lambda% (r1zMbareP ?_)); (try clear hc ht hv); (try clear e0 e1 e2 e3 e4 e5 e6 e7 e8 e9 e10 e12 e14); clear hS; intro c b w hS hx; (try replace hrs := hrs.mono hx.le); (try replace hus := hus.mono hx.le); (try clear hx); intro hc ht hv; (refine no_implicit_lambda% (fx2eb15 ?_)); intro e0 e1 e2 e3 e4 e5 e6 e7 e8 e9 e10 e12 e14))
      | ((with_reducible refine at_dst 25 ?_ ?_); (focus rfl); ((refine no_implicit_lambda% (apzR ?_)); (try clear hc ht hv); (try clear e0 e1 e2 e3 e4 e5 e6 e7 e8 e9 e10 e12 e14); clear hS; intro c A25 d25 w hS hx; (try replace hrs := hrs.mono hx.le); (try replace hus := hus.mono hx.le); (try clear hx); intro hc ht hv; (refine no_implicit_lambda% (fx2eb15 ?_)); intro e0 e1 e2 e3 e4 e5 e6 e7 e8 e9 e10 e12 e14))
      | ((with_reducible refine at_dst 43 ?_ ?_); (focus rfl); ((refine no_implicit_lambda% (apzM ?_)); (try clear hc ht hv); (try clear e0 e1 e2 e3 e4 e5 e6 e7 e8 e9 e10 e12 e14); clear hS; intro c A43 d43 w hS hx; (try replace hrs := hrs.mono hx.le); (try replace hus := hus.mono hx.le); (try clear hx); intro hc ht hv; (refine no_implicit_lambda% (fx2eb15 ?_)); intro e0 e1 e2 e3 e4 e5 e6 e7 e8 e9 e10 e12 e14))
      | ((refine no_implicit_lambda% (sazW ?_)); (try clear hc ht hv); (try clear e0 e1 e2 e3 e4 e5 e6 e7 e8 e9 e10 e12 e14); clear hS; intro w hS hc ht hv; (refine no_implicit_lambda% (fx2eb15 ?_)); intro e0 e1 e2 e3 e4 e5 e6 e7 e8 e9 e10 e12 e14)
      | ((refine no_implicit_lambda% (stS ?_)); (try clear hc ht hv); (try clear e0 e1 e2 e3 e4 e5 e6 e7 e8 e9 e10 e12 e14); clear hS; intro w hS hc ht hv; (refine no_implicit_lambda% (fx2eb15 ?_)); intro e0 e1 e2 e3 e4 e5 e6 e7 e8 e9 e10 e12 e14)))
    | (go_at_call 65; refine (l5Copy_t hS.tw tyA (by omega)).mono ?_; rintro e w ⟨c, rs, rfl, hrs, hx, hT', hb⟩; (try replace hobV := KB.call hx hb hobV); replace hS := hS.below hx hT' (by omega) (by omega) hb; clear hx hT' hb; (try clear hc ht hv); (try clear e0 e1 e2 e3 e4 e5 e6 e7 e8 e9 e10 e12 e14); (obtain ⟨_, _, _, _, _, _, _, _, _, _, _, _, _, rfl, _, _, _, _, _, _, _, _⟩ := hrs.rep); (try dsimp only); (refine no_implicit_lambda% (fct ?_)); intro hc ht hv; (refine no_implicit_lambda% (fx2eb15 ?_)); intro e0 e1 e2 e3 e4 e5 e6 e7 e8 e9 e10 e12 e14)
    | (go_at_call 66; refine (l3Copy_t hS.tw tyA).mono ?_; rintro e w ⟨c, us, rfl, hus, hx, hT', hb, hbare⟩; replace hS := hS.below hx hT' (by omega) (by omega) hb; clear hx hT' hb; (try clear hc ht hv); (try clear e0 e1 e2 e3 e4 e5 e6 e7 e8 e9 e10 e12 e14); (obtain ⟨_, _, _, _, _, _, _, _, _, _, _, rfl, _, _, _, _, _⟩ := hus.msg); (try dsimp only); (refine no_implicit_lambda% (fct ?_)); intro hc ht hv; (refine no_implicit_lambda% (fx2eb15 ?_)); intro e0 e1 e2 e3 e4 e5 e6 e7 e8 e9 e10 e12 e14)
    | ((refine no_implicit_lambda% (rgspecl6Copy5XO ?_)); (try clear hc ht hv); (try clear e0 e1 e2 e3 e4 e5 e6 e7 e8 e9 e10 e12 e14); clear hS; intro hS hc ht hv; (refine no_implicit_lambda% (fx2eb15 ?_)); intro e0 e1 e2 e3 e4 e5 e6 e7 e8 e9 e10 e12 e14)
    | ((refine no_implicit_lambda% (rgspecl6Copy9XO ?_)); (try clear hc ht hv); (try clear e0 e1 e2 e3 e4 e5 e6 e7 e8 e9 e10 e12 e14); clear hS; intro hS hc ht hv; (refine no_implicit_lambda% (fx2eb15 ?_)); intro e0 e1 e2 e3 e4 e5 e6 e7 e8 e9 e10 e12 e14)
    | ((with_reducible refine wpOF_both ?_ ?_) <;> (refine no_implicit_lambda% (pk_ ?_))) | ((with_reducible refine wpOF_three ?_ ?_ ?_) <;> (refine no_implicit_lambda% (pk_ ?_))) | ((with_reducible refine MS.and_ ?_ ?_); (focus (exact msA)); intro hM) | (refine no_implicit_lambda% (ofS ?_)) | ((refine no_implicit_lambda% (ofK ?_)); intro K hK) | (refine no_implicit_lambda% (ofL ?_)) | ((refine no_implicit_lambda% (ofM ?_)); intro K hK) | ((refine no_implicit_lambda% (ofX ?_)); intro K hK) | (refine no_implicit_lambda% (ofN ?_)) | ((with_reducible apply wpT_split); (focus rfl); (focus rfl); (focus rfl); all_goals (intro hxx; simp only [hxx]))
    | fail)
          all_goals
            go_roundw
            case rel => exact ⟨i + 1, c, _, _, by omega, by go_num, hS.tailV⟩
            case measure => simp [intOf]; omega
        · obtain rfl : i = p := by omega
          (try clear hc ht hv); (refine no_implicit_lambda% (fct ?_)); intro hc ht hv
          go_wp2_with (first
    | ((refine no_implicit_lambda% (hdE ?_)); intro K hK; (first
      | ((with_reducible refine at_dst 1 ?_ ?_); (focus rfl); (refine no_implicit_lambda% (aB ?_)); (try clear hc ht hv); clear hS; intro b1 w hS hc ht hv)
      | ((with_reducible refine at_dst 2 ?_ ?_); (focus rfl); (refine no_implicit_lambda% (alzW ?_)); (try clear hc ht hv); clear hS; intro b2 w hS hc ht hv)
      | ((with_reducible refine at_dst 3 ?_ ?_); (focus rfl); (refine no_implicit_lambda% (alzW ?_)); (try clear hc ht hv); clear hS; intro b3 w hS hc ht hv)
      | ((with_reducible refine at_dst 24 ?_ ?_); (focus rfl); ((refine no_implicit_lambda% (r1zRnoP ?_)); (try clear hc ht hv); clear hS; intro c b w hS hx; (try replace hrs := hrs.mono hx.le); (try replace hus := hus.mono hx.le); (try clear hx); intro hc ht hv))
      | ((with_reducible refine at_dst 42 ?_ ?_); (focus rfl); ((refine no_implicit_lambda% (r1zMbareP ?_)); (try clear hc ht hv); clear hS; intro c b w hS hx; (try replace hrs := hrs.mono hx.le); (try replace hus := hus.mono hx.le); (try clear hx); intro hc ht hv))
      | ((with_reducible refine at_dst 25 ?_ ?_); (focus rfl); ((refine no_implicit_lambda% (apzR ?_)); (try clear hc ht hv); clear hS; intro c A25 d25 w hS hx; (try replace hrs := hrs.mono hx.le); (try replace hus := hus.mono hx.le); (try clear hx); intro hc ht hv))
      | ((with_reducible refine at_dst 43 ?_ ?_); (focus rfl); ((refine no_implicit_lambda% (apzM ?_)); (try clear hc ht hv); clear hS; intro c A43 d43 w hS hx; (try replace hrs := hrs.mono hx.le); (try replace hus := hus.mono hx.le); (try clear hx); intro hc ht hv))
      | ((refine no_implicit_lambda% (sazW ?_)); (try clear hc ht hv); clear hS; intro w hS hc ht hv)
      | ((refine no_implicit_lambda% (stS ?_)); (try clear hc ht hv); clear hS; intro w hS hc ht hv)))
    | (go_at_call 65; refine (l5Copy_t hS.tw tyA (by omega)).mono ?_; rintro e w ⟨c, rs, rfl, hrs, hx, hT', hb⟩; (try replace hobV := KB.call hx hb hobV); replace hS := hS.below hx hT' (by omega) (by omega) hb; clear hx hT' hb; (try clear hc ht hv); (obtain ⟨_, _, _, _, _, _, _, _, _, _, _, _, _, rfl, _, _, _, _, _, _, _, _⟩ := hrs.rep); (try dsimp only); (refine no_implicit_lambda% (fct ?_)); intro hc ht hv)
    | (go_at_call 66; refine (l3Copy_t hS.tw tyA).mono ?_; rintro e w ⟨c, us, rfl, hus, hx, hT', hb, hbare⟩; replace hS := hS.below hx hT' (by omega) (by omega) hb; clear hx hT' hb; (try clear hc ht hv); (obtain ⟨_, _, _, _, _, _, _, _, _, _, _, rfl, _, _, _, _, _⟩ := hus.msg); (try dsimp only); (refine no_implicit_lambda% (fct ?_)); intro hc ht hv)
    | ((refine no_implicit_lambda% (rgspecl6Copy5XO ?_)); (try clear hc ht hv); clear hS; intro hS hc ht hv)
    | ((refine no_implicit_lambda% (rgspecl6Copy9XO ?_)); (try clear hc ht hv); clear hS; intro hS hc ht hv)
    | ((with_reducible refine wpOF_both ?_ ?_) <;> (refine no_implicit_lambda% (pk_ ?_))) | ((with_reducible refine wpOF_three ?_ ?_ ?_) <;> (refine no_implicit_lambda% (pk_ ?_))) | ((with_reducible refine MS.and_ ?_ ?_); (focus (exact msA)); intro hM) | (refine no_implicit_lambda% (ofS ?_)) | ((refine no_implicit_lambda% (ofK ?_)); intro K hK) | (refine no_implicit_lambda% (ofL ?_)) | ((refine no_implicit_lambda% (ofM ?_)); intro K hK) | ((refine no_implicit_lambda% (ofX ?_)); intro K hK) | (refine no_implicit_lambda% (ofN ?_)) | ((with_reducible apply wpT_split); (focus rfl); (focus rfl); (focus rfl); all_goals (intro hxx; simp only [hxx]))
    | fail)
          all_goals (exact no_implicit_lambda% fW4_3)
end
section
variable {k : Bs} {P T D : Nat} {c : Cx} {L : List LE} {V : List VE} {w w' : World}
theorem St.fromBase (h : St k P T D c L V w) (h0 : k.c0 = cE) {b : Nat} {x : TypeId × Nat} (hb : c b = some x) : k.w0.heap.size ≤ b := by
  rcases Nat.lt_or_ge b k.w0.heap.size with hlt | hge
  · rw [h.ext.old b hlt, h0] at hb; cases hb
  · exact hge
theorem St.turnF (h : St k P T D c L V w) (h0 : k.c0 = cE) {g N : Nat} {e : TypeId} (hg : c g = some (e, N)) (hV : ∀ x ∈ V, x.1 ≠ e) (hT' : TW T D c w') (ho : Only w.heap.size (some g) w w') : St k P T D c L V w' := by
  have hgb := h.fromBase h0 hg
  refine ⟨h.ext, hT', Only.through h.on ho hgb h.base, fun g' hg' => ?_, fun x hx => ?_, h.nd, fun x hx => ?_, h.vd⟩
  · obtain ⟨r1, r2, r3⟩ := h.rd g' hg'
    exact ⟨r1.only ho (fun j hj => by injection hj with hj; omega), r2, r3⟩
  · obtain ⟨b1, b2, b3, b4⟩ := h.bx x hx
    exact ⟨(ho.block x.1 (lt_of_heap b1) (fun e => by injection e with e; rw [← e, hg] at b3; cases b3)).trans b1, b2, b3, b4⟩
  · obtain ⟨v1, ls', v2, v3⟩ := h.vs x hx
    refine ⟨v1, ls', v2.keep (fun j hj => ho.block j (v2.lt j hj).2 (fun e1 => ?_)), v3⟩
    injection e1 with e1
    subst e1
    rcases v1 with v1 | ⟨g', q, n, d, N', v1, _, _, h5, _⟩
    · rw [v1] at hj; simp [Value.ownBlock] at hj
    · rw [v1] at hj
      simp [Value.ownBlock] at hj
      subst hj
      rw [hg] at h5
      injection h5 with h5
      injection h5 with h5
      exact hV x hx h5.symm
end
section
variable {Pg : Program} {o : Oper} {a : Act} {w : World} {K : Act → World → Prop} {Q : Exit → Act → World → Prop} {k : Bs} {P T D : Nat} {c : Cx} {L : List LE} {V : List VE}
end
section
variable {Pg : Program} {k : Bs} {P T D : Nat} {c : Cx} {L : List LE} {V : List VE} {w : World}
theorem St.appF {t ty e : TypeId} {z : Value} {bytes : Nat} (ht : Pg.underlying t = some (.slice e)) (hi : InfoOf Pg e z bytes) (hz : ZeroOk e z) (hpos : 0 < isz e)
    (h : St k P T D c L V w) (h0 : k.c0 = cE) {A : Option Addr} {n d : Nat} (hv : SlV c e (.slice A n d)) {B : Option Addr} {m q : Nat} (hx : SlV c e (.slice B m q)) (hV : ∀ x ∈ V, x.1 ≠ e) (hm : 0 < m) (hbound : (n + m) * bytes ≤ 140737488355328 ∧ n + m ≤ maxLen) :
    ∃ c' A' d' w', (Builtin.append_ #[t, t] ty #[.slice A n d, .slice B m q]).run Pg w = .ok (.slice A' (n + m) d') w' ∧ St k P T D c' L V w' ∧ Ext w.heap.size c c' ∧ SlV c' e (.slice A' (n + m) d') ∧ (∀ g ob e' N', c g = some (e', N') → e' ≠ e → w.heap[g]? = some ob → w'.heap[g]? = some ob) := by
  obtain ⟨inf, hi1, hi2, hi3, hi4⟩ := info_parts hi
  have hzs : z.cells.size = isz e := by have := (hz T D c).len; simpa using this
  obtain ⟨b, off, rfl⟩ := hx.addr hm
  obtain ⟨us, hu1, hu2, hu3⟩ := h.tw.cells hx
  have hadd : ∀ (b off j : Nat), ((⟨b, off, none⟩ : Addr).add j) = ⟨b, off + j, none⟩ := fun b off j => by
    unfold Addr.add
    split
    · rename_i h0; rw [h0]; rfl
    · rfl
  have husone : ∀ u ∈ us, u.oneCell' = true := fun u hu => by
    obtain ⟨j, hj, rfl⟩ := List.mem_iff_getElem.1 hu
    obtain ⟨t', _, h2⟩ := hu3 j us[j] (List.getElem?_eq_getElem hj)
    exact h2.one
  have hus : ∀ j u, us[j]? = some u → w.cell? ((⟨b, off, none⟩ : Addr).add j) = some u := fun j u hu => by rw [hadd]; exact hu2 j u hu
  have hzc : ∀ (c' : Cx) (N j : Nat) (u : Value), (Builtin.zeroCells z.cells N)[j]? = some u → ∃ t', (F T D e)[j % isz e]? = some t' ∧ t'.ok c' u := fun c' N j u hu => by
    have h1 := zeroCells_get (by omega) hu
    rw [hzs] at h1
    exact Tys.get (hz T D c') _ u (by simpa using h1)
  have fresh : ∀ (old N : Nat) (olds : List Value), (∀ (j : Nat) (u : Value), olds[j]? = some u → ∃ t', (F T D e)[j % isz e]? = some t' ∧ t'.ok c u) → olds.length = n * isz e → N = n + m →
      (Builtin.append_ #[t, t] ty #[.slice A n d, .slice (some ⟨b, off, none⟩) m q]).run Pg w = .ok (.slice (some ⟨w.heap.size, 0, none⟩) N (grownCap w N old e)) (w.drew.alloc (.cells (olds.toArray ++ us.toArray ++ Builtin.zeroCells z.cells (grownCap w N old e - N)) e)) →
      ∃ c' A' d' w', (Builtin.append_ #[t, t] ty #[.slice A n d, .slice (some ⟨b, off, none⟩) m q]).run Pg w = .ok (.slice A' (n + m) d') w' ∧ St k P T D c' L V w' ∧ Ext w.heap.size c c' ∧ SlV c' e (.slice A' (n + m) d') ∧ (∀ g ob e' N', c g = some (e', N') → e' ≠ e → w.heap[g]? = some ob → w'.heap[g]? = some ob) := by
    intro old N olds hol holl hN hrun
    subst hN
    have hge := grownCap_ge w (n + m) old e
    have hcm := grownCap_le_maxLen w (n + m) old e hbound.2
    have hTW := h.tw.drew.row (cs := olds.toArray ++ us.toArray ++ Builtin.zeroCells z.cells (grownCap w (n + m) old e - (n + m))) (e := e) (fun j u hu => by
      rw [Array.getElem?_append] at hu
      split at hu
      · rw [Array.getElem?_append] at hu
        split at hu
        · exact hol j u (by simpa using hu)
        · obtain ⟨t', h1, h2⟩ := hu3 _ u (by simpa using hu)
          rename_i hlt1 hlt2
          simp only [List.size_toArray] at h1 hlt1 hlt2
          refine ⟨t', ?_, h2⟩
          rw [show j % isz e = (j - olds.length) % isz e by
            rw [holl]
            rw [holl] at hlt2
            rw [show j = n * isz e + (j - n * isz e) by omega, Nat.add_comm, Nat.add_mul_mod_self_right]
            congr 1
            omega]
          exact h1
      · obtain ⟨t', h1, h2⟩ := hzc c _ _ u hu
        rename_i hlt1
        simp only [Array.size_append, List.size_toArray] at h1 hlt1
        refine ⟨t', ?_, h2⟩
        rw [show j % isz e = (j - (olds.length + us.length)) % isz e by
          rw [holl, hu1, ← Nat.add_mul]
          rw [holl, hu1, ← Nat.add_mul] at hlt1
          rw [show j = (n + m) * isz e + (j - (n + m) * isz e) by omega, Nat.add_comm, Nat.add_mul_mod_self_right]
          congr 1
          omega]
        exact h1)
    have hE := Ext.put (c := c) (e, (olds.toArray ++ us.toArray ++ Builtin.zeroCells z.cells (grownCap w (n + m) old e - (n + m))).size) (h.tw.none_ (Nat.le_refl _)) (Nat.le_refl w.heap.size)
    refine ⟨_, _, _, _, hrun, h.drew.below (c' := c.put w.heap.size (e, (olds.toArray ++ us.toArray ++ Builtin.zeroCells z.cells (grownCap w (n + m) old e - (n + m))).size)) hE hTW (Nat.le_refl _) (Nat.le_refl _) ((Below.refl _ _).alloc (Nat.le_refl _) _), hE, .inr ⟨w.heap.size, 0, n + m, grownCap w (n + m) old e, _, by simp, hge, hcm, Cx.put_same _ _ _, ?_⟩, fun g ob e' N' hg _ hob => (((Below.refl w.drew.heap.size w.drew).alloc (Nat.le_refl _) _).block g (lt_of_heap hob)).trans hob⟩
    simp only [Array.size_append, List.size_toArray, size_zeroCells, hzs, holl, hu1, ← Nat.add_mul, Nat.zero_mul, Nat.zero_add]
    exact Nat.mul_le_mul_right _ (by omega)
  have hv' := hv
  rcases hv with hv | ⟨g, r, n', d', N, hv, h2, h3, h4, h5⟩
  · injection hv with e1 e2 e3
    subst e1; subst e2; subst e3
    have hr := run_append_nil (P := Pg) w t ty e inf z ht hi1 hi2 ⟨b, off, none⟩ m q us (by rw [hi3]; exact hu1) hus hm (by have := hbound.2; simp only [maxLen] at this; omega) (by have := hbound.1; rw [hi4]; simp only [Nat.zero_add] at this; omega)
    refine fresh 0 m [] (fun j u hu => by simp at hu) (by simp) (by omega) ?_
    rw [hr]
    simp
  · injection hv with e1 e2 e3
    subst e1; subst e2; subst e3
    by_cases hroom : n + m ≤ d
    · obtain ⟨cs, c1, c2, c3⟩ := h.tw g e N h4
      have hcl : cs.toList.length = cs.size := Array.length_toList
      have hfit : r * isz e + n * isz e + us.length ≤ cs.size := by
        have := Nat.mul_le_mul_right (isz e) hroom
        rw [Nat.add_mul] at this
        omega
      have hr := run_append_room_cells (P := Pg) w t ty e inf ht hi1 g (r * isz e) n d ⟨b, off, none⟩ m q us (by rw [hi3]; exact hu1) hus husone hroom (fun j hj => by
        simp only [World.cell?, c1, hi3]
        have : r * isz e + n * isz e + j < cs.size := by omega
        simp [this]) (fun j hj => by simp [World.frozen?, c1])
      rw [← putCells_set, hi3] at hr
      have ho : Only w.heap.size (some g) w (putCells w g (r * isz e + n * isz e) us) := Only.put us (Only.refl _ _ _)
      obtain ⟨cur, p1, p2, p3⟩ := heap_putCells us w g (r * isz e + n * isz e) cs e c1 hfit
      have hT' : TW T D c (putCells w g (r * isz e + n * isz e) us) := by
        refine h.tw.turn h4 (p2.trans c2) (fun j u hj => ?_) p1 (fun j hj _ => heap_putCells_other us w g _ j hj)
        have hj' : (cs.toList.take (r * isz e + n * isz e) ++ us ++ cs.toList.drop (r * isz e + n * isz e + us.length))[j]? = some u := by rw [← p3]; simpa using hj
        rcases Nat.lt_or_ge j (r * isz e + n * isz e) with hlt | hge
        · rw [List.append_assoc, List.getElem?_append_left (by rw [List.length_take, hcl]; omega), List.getElem?_take, if_pos hlt] at hj'
          exact c3 j u (by simpa using hj')
        · rcases Nat.lt_or_ge j (r * isz e + n * isz e + us.length) with hlt2 | hge2
          · rw [List.getElem?_append_left (by rw [List.length_append, List.length_take, hcl]; omega), List.getElem?_append_right (by rw [List.length_take, hcl]; omega), List.length_take, hcl, Nat.min_eq_left (by omega)] at hj'
            obtain ⟨t', h6, h7⟩ := hu3 _ u hj'
            refine ⟨t', ?_, h7⟩
            rw [show j % isz e = (j - (r * isz e + n * isz e)) % isz e by
              rw [← Nat.add_mul]
              rw [← Nat.add_mul] at hge
              rw [show j = (r + n) * isz e + (j - (r + n) * isz e) by omega, Nat.add_comm, Nat.add_mul_mod_self_right]
              congr 1
              omega]
            exact h6
          · rw [List.getElem?_append_right (by rw [List.length_append, List.length_take, hcl]; omega), List.length_append, List.length_take, hcl, Nat.min_eq_left (by omega), List.getElem?_drop, show r * isz e + n * isz e + us.length + (j - (r * isz e + n * isz e + us.length)) = j by omega] at hj'
            exact c3 j u (by simpa using hj')
      refine ⟨c, _, _, _, hr, h.turnF h0 h4 hV hT' ho, Ext.refl _ _, .inr ⟨g, r, n + m, d, N, rfl, hroom, h3, h4, h5⟩, fun g' ob e' N' hg hne hob => (ho.block g' (lt_of_heap hob) (fun e1 => by injection e1 with e1; rw [← e1, h4] at hg; injection hg with hg; injection hg with hg; exact hne hg.symm)).trans hob⟩
    · obtain ⟨olds, ho1, ho2, ho3⟩ := h.tw.cells hv'
      have hr := run_append_grow (P := Pg) w t ty e inf z ht hi1 hi2 ⟨g, r * isz e, none⟩ n d olds (by rw [ho1, hi3]) (fun j u hu => by rw [hadd]; exact ho2 j u hu) ⟨b, off, none⟩ m q us (by rw [hi3]; exact hu1) hus (by omega) (by have := hbound.2; simp only [maxLen] at this; omega) (growslice_fits (by omega) (by rw [hi4]; exact hbound.1))
      exact fresh d (n + m) olds ho3 ho1 rfl hr
end
section
variable {Pg : Program} {o : Oper} {a : Act} {w : World} {K : Act → World → Prop} {Q : Exit → Act → World → Prop} {k : Bs} {P T D : Nat} {c : Cx} {L : List LE} {V : List VE}
theorem wp_appFT (hS : St k P T D c L V w) (h0 : k.c0 = cE) {t e : TypeId} {z : Value} {bytes : Nat} {s x : Operand} {A : Option Addr} {n d : Nat} {B : Option Addr} {m q : Nat}
    (ho : o.op = .call { callee := .builtin .append, args := #[s, x], argTypes := #[t, t] }) (ht : Pg.underlying t = some (.slice e)) (hs : a.eval s = .slice A n d) (hx : a.eval x = .slice B m q)
    (hi : InfoOf Pg e z bytes) (hz : ZeroOk e z) (hpos : 0 < isz e) (hsl : SlV c e (.slice A n d)) (hxl : SlV c e (.slice B m q)) (hV : ∀ x ∈ V, x.1 ≠ e) (hm : 0 < m)
    (hbound : (n + m) * bytes ≤ 140737488355328 ∧ n + m ≤ maxLen)
    (h : ∀ c' A' d' w', St k P T D c' L V w' → Ext w.heap.size c c' → SlV c' e (.slice A' (n + m) d') → (∀ g ob e' N', c g = some (e', N') → e' ≠ e → w.heap[g]? = some ob → w'.heap[g]? = some ob) → K (a.put o.dst (.slice A' (n + m) d')) w') : o.wp Pg a w K Q := by
  obtain ⟨c', A', d', w', hrun, h1, h2, h3, h4⟩ := hS.appF (ty := o.type) ht hi hz hpos h0 hsl hxl hV hm hbound
  unfold Oper.wp execOp
  simp only [ho, resolve, invoke, builtin, Sem.run_bind, Sem.run_pure, Result.andThen_ok, List.map_toArray, List.map_cons, List.map_nil, hs, hx, hrun]
  exact h c' A' d' w' h1 h2 h3 h4
end
section
variable {Pg : Program} {o : Oper} {a : Act} {w : World} {K : Act → World → Prop} {Q : Exit → Act → World → Prop} {k : Bs} {P T D : Nat} {c : Cx} {L : List LE} {V : List VE}
theorem wp_row1B (hS : St k P T D c L V w) {t e : TypeId} {z : Value} {bytes : Nat} {x : Operand} {us : List Value} (Pr : List Value → Prop) (ho : o.op = .buildSlice t 1 #[(0, x)]) (hx : a.eval x = .agg us.toArray) (ht : Pg.underlying t = some (.slice e)) (hi : InfoOf Pg e z bytes) (hzs : z.cells.size = isz e)
    (hpos : 0 < isz e ∧ isz e < 1000) (hu : TyE T D c e us) (hP : Pr us)
    (h : ∀ c' b w', St k P T D c' L ((e, Pr, .slice (some ⟨b, 0, none⟩) 1 1) :: V) w' → Ext w.heap.size c c' → Below w.heap.size w w' → K (a.put o.dst (.slice (some ⟨b, 0, none⟩) 1 1)) w') : o.wp Pg a w K Q := by
  have h1 := h _ _ _ (hS.row (e := e) (Pr := Pr) (n := 1) (us := us) (by omega) (fun h => by omega) (fun _ => ⟨hu, hP⟩)) (Ext.put _ (hS.tw.none_ (Nat.le_refl _)) (Nat.le_refl _)) ((Below.refl _ _).alloc (Nat.le_refl _) _)
  obtain ⟨inf, hi1, hi2, hi3, hi4⟩ := info_parts hi
  have hl := hu.len
  have hfill : ∀ acc : Array Value, acc.size = isz e → Instr.fill (fun i => some (i * isz e, isz e)) acc [(0, .agg us.toArray)] = some us.toArray := by
    intro acc hacc
    simp only [Instr.fill, Value.cells, List.size_toArray, hl, Nat.zero_mul, Nat.zero_add, hacc, bne_self_eq_false, Nat.lt_irrefl, gt_iff_lt, decide_false, Bool.or_self, Bool.false_eq_true, if_false]
    congr 1
    rw [← Array.foldl_toList]
    have := fold_fill us 0 acc (by omega)
    simp only [Nat.zero_add] at this
    simp only [Array.toList_zipIdx]
    rw [this]
    simp [hl, ← hacc]
  have hf := hfill ((Array.range (isz e)).map (z.cells[· % z.cells.size]!)) (by simp)
  have h24 : ¬ (16777216 < isz e) := by omega
  have hne : isz e ≠ 0 := by omega
  unfold Oper.wp
  simp [execOp, ho, hx, Instr.buildSlice, run_underlying ht, sizeOf, zeroValue, typeInfo, hi1, hi2, hi3, h24, hne, hf, newRow, Oper.upon, Result.andThen]
  exact h1
end
theorem PAgR.frame {e : TypeId} {T D T' D' : Nat} {c : Cx} {w w' : World} {g P : Nat} {x : Ending} (h : PAgR e T D cE w g P x w') (hT : TW T' D' c w) (hg : c g = none) (hTT : T ≤ T') (hDD : D ≤ D') : PAgR e T' D' c w g P x w' := by
  obtain ⟨c', us, h1, h2, h3, h4, h5, h6⟩ := h
  have hc' : ∀ b x, c' b = some x → w.heap.size ≤ b := fun b x hb => by
    rcases Nat.lt_or_ge b w.heap.size with hlt | hge
    · rw [h3.old b hlt] at hb; cases hb
    · exact hge
  have hle : Cx.le c' (fun b => if b < w.heap.size then c b else c' b) := fun b x hb => by
    have := hc' b x hb
    simp only [if_neg (show ¬ b < w.heap.size by omega)]
    exact hb
  have hle2 : Cx.le c (fun b => if b < w.heap.size then c b else c' b) := fun b x hb => by
    simp only [if_pos (hT.lt hb)]
    exact hb
  refine ⟨_, us, h1, h2.up hTT hDD hle, ⟨hle2, fun b hb => if_pos hb⟩, fun b e' N hb => ?_, h5, h6⟩
  by_cases hlt : b < w.heap.size
  · simp only [if_pos hlt] at hb
    obtain ⟨cs, q1, q2, q3⟩ := hT b e' N hb
    refine ⟨cs, (h6.block b hlt (fun e1 => by injection e1 with e1; rw [← e1, hg] at hb; cases hb)).trans q1, q2, fun j u hu => ?_⟩
    obtain ⟨t, q4, q5⟩ := q3 j u hu
    exact ⟨t, q4, q5.mono hle2⟩
  · simp only [if_neg hlt] at hb
    obtain ⟨cs, q1, q2, q3⟩ := h4 b e' N hb
    refine ⟨cs, q1, q2, fun j u hu => ?_⟩
    obtain ⟨t, q4, q5⟩ := q3 j u hu
    exact F_up hTT hDD hle q4 q5
theorem SlV.known {c : Cx} {e : TypeId} {g off n d : Nat} (hv : SlV c e (.slice (some ⟨g, off, none⟩) n d)) : ∃ N, c g = some (e, N) := by
  rcases hv with hv | ⟨g', q', n', d'', N, hv, _, _, h5, _⟩
  · cases hv
  · injection hv with e4 e5 e6
    injection e4 with e4
    injection e4 with e4 e7
    subst e4
    exact ⟨N, h5⟩
theorem KB.appF {c c' : Cx} {w w' : World} {e e' : TypeId} {g off n d : Nat} {ob : Obj} (hs : SlV c e' (.slice (some ⟨g, off, none⟩) n d)) (hne : e' ≠ e) (hx : Ext w.heap.size c c') (hk : ∀ g ob e' N', c g = some (e', N') → e' ≠ e → w.heap[g]? = some ob → w'.heap[g]? = some ob) (h : KB c w g ob) : KB c' w' g ob := by
  obtain ⟨N, h1⟩ := hs.known
  exact ⟨⟨_, hx.le _ _ h1⟩, hk g ob e' N h1 hne h.2⟩
section
variable {Pg : Program} {o : Oper} {a : Act} {w : World} {K : Act → World → Prop} {Q : Exit → Act → World → Prop}
theorem wp_storeOld {b : Nat} {vs us : List Value} {e : TypeId} {x y : Operand} {z : Value} {bytes : Nat} (hb : w.heap[b]? = some (.cells vs.toArray e (0, 0))) (hl : vs.length = isz e) (ho : o.op = .store e y x) (hy : a.eval y = .pointer (some ⟨b, 0, none⟩)) (hx : a.eval x = .agg us.toArray) (hul : us.length = isz e) (h1c : ∀ u ∈ us, u.oneCell' = true) (hi : InfoOf Pg e z bytes)
    (h : ∀ w', w'.heap[b]? = some (.cells us.toArray e (0, 0)) → Only w.heap.size (some b) w w' → K (a.put o.dst undef) w') : o.wp Pg a w K Q := by
  obtain ⟨cur, p1, p2, p3⟩ := heap_putCells us w b 0 vs.toArray e hb (by simp; omega)
  have hcur : cur = us.toArray := by
    apply Array.toList_inj.1
    rw [p3]
    simp [hul, hl]
  have h1 := h _ (by rw [← hcur]; exact p1) (Only.put us (Only.refl _ _ _))
  have hst := run_storeBox (Pg := Pg) (us := us) (j := 0) hb (by omega) h1c
  obtain ⟨inf, hi1, hi2, hi3, hi4⟩ := info_parts hi
  unfold Oper.wp
  simp [execOp, ho, hy, hx, Instr.storeAt, Instr.sureAddr, storeVar, sizeOf, typeInfo, hi1, hi3, hul, Value.cells, hst, Oper.upon, Result.andThen]
  exact h1
theorem loadVar_old {e : TypeId} {z : Value} {bytes b : Nat} {vs : List Value} (b1 : w.heap[b]? = some (.cells vs.toArray e (0, 0))) (hlen : vs.length = isz e) (hi : InfoOf Pg e z bytes) (ha : (isAgg e).run Pg w = .ok true w) : (loadVar e ⟨b, 0, none⟩).run Pg w = .ok (.agg vs.toArray) w := by
  obtain ⟨inf, hi1, hi2, hi3, hi4⟩ := info_parts hi
  have hl := run_loadCells_list (P := Pg) w ⟨b, 0, none⟩ vs (fun j u hu => by
    have : ((⟨b, 0, none⟩ : Addr).add j) = ⟨b, j, none⟩ := by
      unfold Addr.add
      split
      · rename_i h0; rw [h0]
      · simp
    rw [this]
    simp [World.cell?, b1, hu])
  rw [hlen] at hl
  simp [loadVar, ha, sizeOf, typeInfo, hi1, hi3, hl, Result.andThen]
end
end Go.Proofs.Ytopmbnnjhoinkaa
