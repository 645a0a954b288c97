/-
  What 'LAc' rests on (texts of this seat put together: TDa LAa LAb).
  Conditions: none.
-/
import Derived.Test.YtopmbnnjhoinkaaGreatZZ52
namespace Go.Proofs.YtopmbnnjhoinkaaGreat
open Go Go.RowKit Rg
set_option linter.unusedVariables false
set_option linter.unusedSimpArgs false
set_option maxHeartbeats 1000000
section
variable {T D : Nat} {c : Cx} {w : World}
theorem TW.repT (hT : TW T D c w) {us : List Value} (h : TyE T D c tR us) : ∃ r : RepT, us.length = 7 ∧ repR w 0 w.heap.size us r := by
  obtain ⟨me, vw, lv, nx, A, n, d, B, p, q, C, r, f, rfl, _, _, h3, _, h5, _, h7, _⟩ := h.rep
  obtain ⟨ts, k1, _⟩ := hT.rdC h3
  obtain ⟨ms, k2, _⟩ := hT.rdM h5
  obtain ⟨ds, k3, _⟩ := hT.rdC h7
  exact ⟨(me, vw, lv, nx, ts, ms, ds), rfl, A, n, d, B, p, q, C, r, f, rfl, k1, k2, k3⟩
theorem TW.rdR_ (hT : TW T D c w) {A : Option Addr} {n d : Nat} (hv : SlV c tR (.slice A n d)) : ∃ ts : List RepT, RdN 7 repR w 0 w.heap.size A n d ts ∧ ∀ t ∈ ts, True :=
  rdn_of hv.cap.1 hv.cap.2 fun h0 => by
    obtain ⟨g, off, rfl⟩ := hv.addr h0
    refine ⟨g, off, rfl, hT.rowLt hv, fun i hi => ?_⟩
    obtain ⟨us, h1, h2⟩ := hT.elem hv hi
    obtain ⟨t, h3, h4⟩ := hT.repT h2
    exact ⟨t, us, h3, h1, h4, trivial⟩
theorem TW.rdR (hT : TW T D c w) {A : Option Addr} {n d : Nat} (hv : SlV c tR (.slice A n d)) : ∃ ts : List RepT, RdN 7 repR w 0 w.heap.size A n d ts := by
  obtain ⟨ts, h, _⟩ := hT.rdR_ hv
  exact ⟨ts, h⟩
theorem TW.rdW (hT : TW T D c w) {us : List Value} (h : TyE T D c tW us) : ∃ (t : WorldT) (A : Option Addr) (n d : Nat) (B : Option Addr) (p q : Nat), us = [.int .i64 t.1, .slice A n d, .slice B p q] ∧ SlV c tR (.slice A n d) ∧ RdN 7 repR w 0 w.heap.size A n d t.2.1 ∧ RdN 11 msgR w 0 w.heap.size B p q t.2.2 := by
  obtain ⟨bad, A, n, d, B, p, q, rfl, h1, _, h3, _⟩ := h.world
  obtain ⟨ts, k1⟩ := hT.rdR h1
  obtain ⟨ms, k2, _⟩ := hT.rdM h3
  exact ⟨(bad, ts, ms), A, n, d, B, p, q, rfl, h1, k1, k2⟩
end
def PDw (w0 : World) (x : Ending) (w' : World) : Prop := ∃ (c' : Cx) (us : List Value), x = .returned (.agg us.toArray) ∧ TyE 21000 6000001 c' tW us ∧ TW 21000 6000001 c' w' ∧ Below w0.heap.size w0 w'
set_option maxRecDepth 100000 in
set_option maxHeartbeats 4000000 in
theorem DrawWorldAgree_t (A : Option Addr) (n c : Nat) (bs : List Int) (w : World) (hn : n = bs.length) (hc : n ≤ c) (hcm : c ≤ maxLen) (hs : Sl encU 1 w 0 w.heap.size A bs) (hb : ∀ b ∈ bs, 0 ≤ b ∧ b < 256) :
    Calls Tryz.prog 4 #[.slice A n c] w fun e w' => PDw w e w' := by
  have hn' := hide hn
  have hb' := hide hb
  clear hn hb
  have hB0 : Below w.heap.size w (w.alloc (.cells #[.int .i64 0, .slice none 0 0, .slice none 0 0] 26)) := (Below.refl _ _).alloc (Nat.le_refl _) _
  have hz0 : (w.alloc (.cells #[.int .i64 0, .slice none 0 0, .slice none 0 0] 26)).heap.size = w.heap.size + 1 := by simp
  have hbx : (w.alloc (.cells #[.int .i64 0, .slice none 0 0, .slice none 0 0] 26)).heap[w.heap.size]? = some (.cells #[.int .i64 0, .slice none 0 0, .slice none 0 0] 26 (0, 0)) := heap_alloc_new w _
  have hs' : Sl encU 1 (w.alloc (.cells #[.int .i64 0, .slice none 0 0, .slice none 0 0] 26)) 0 (w.alloc (.cells #[.int .i64 0, .slice none 0 0, .slice none 0 0] 26)).heap.size A bs := (hs.below hB0 (Nat.le_refl _)).mono (Nat.le_refl _) hB0.size
  go_enter Tryz.func4, Tryz.ntmps4
  go_wp2_with fail
  obtain ⟨w1, hw1⟩ : ∃ w1, w1 = w.alloc (.cells #[.int .i64 0, .slice none 0 0, .slice none 0 0] 26) := ⟨_, rfl⟩
  rw [← hw1] at hB0 hz0 hbx hs'
  rw [← hw1]
  clear hw1
  refine (l20Open_c A n c bs w1 hn'.out hc hcm hs' hb'.out).mono ?_
  rintro e w2 ⟨rfl, hr2, hb2⟩
  rw [hz0] at hr2
  obtain ⟨P0, hP0, hr2⟩ : ∃ P0 : Nat, P0 ≤ 10 ∧ Rd w2 (w.heap.size + 1) P0 := ⟨0, by omega, hr2⟩
  go_wp2_with fail
  refine (l20AnyWorld_t hr2 (by omega)).mono ?_
  rintro e w3 ⟨c', us, rfl, hus, hx, hT', hr3, ho3⟩
  have hgl : w.heap.size + 1 < w2.heap.size := hr2.lt
  have hbx2 : w2.heap[w.heap.size]? = some (.cells #[.int .i64 0, .slice none 0 0, .slice none 0 0] 26 (0, 0)) := (hb2.block w.heap.size (by omega)).trans hbx
  have hbx3 : w3.heap[w.heap.size]? = some (.cells (List.toArray [.int .i64 0, .slice none 0 0, .slice none 0 0]) 26 (0, 0)) := (ho3.block w.heap.size (by omega) (fun e => by injection e with e; omega)).trans hbx2
  have hcn : c' w.heap.size = none := by rw [hx.old w.heap.size (by omega)]
  have hB3 : Below w.heap.size w w3 := hB0.trans ((hb2.mono (by omega)).trans (ho3.toBelow (by omega) (fun k hk => by injection hk with hk; omega)))
  obtain ⟨bad, A1, n1, d1, B1, p1, q1, rfl, _⟩ := hus.world
  go_wp2_with (first
    | ((with_reducible refine wpList_plain ?_ ?_); (focus (with_reducible rfl)); intro K hK; (with_reducible refine at_store rfl ?_); refine wp_storeOld hbx3 rfl rfl rfl rfl hus.len hus.one inW ?_; intro w4 hw4 ho4)
    | fail)
  refine bodyPost_ret (results_old rfl hw4 hus.len inW (aggW _) rfl) rfl ⟨c', _, rfl, hus, hT'.only ho4 (fun k hk => by injection hk with hk; subst hk; exact hcn), hB3.trans (ho4.toBelow hB3.size (fun k hk => by injection hk with hk; omega))⟩
section
variable {Pg : Program} {o : Oper} {a : Act} {w : World} {K : Act → World → Prop} {Q : Exit → Act → World → Prop} {k : Bs} {P T D : Nat} {c : Cx} {L : List LE} {V : List VE}
theorem wp_appX (hS : St k P T D c L V w) {t e : TypeId} {z : Value} {bytes : Nat} {s x : Operand} {b : Nat} {B : Option Addr} {m q : Nat}
    (ho : o.op = .call { callee := .builtin .append, args := #[s, x], argTypes := #[t, t] }) (ht : Pg.underlying t = some (.slice e)) (hs : a.eval s = .slice (some ⟨b, 0, none⟩) 0 0) (hV : V[0]? = some (e, noP, .slice (some ⟨b, 0, none⟩) 0 0)) (hx : a.eval x = .slice B m q)
    (hi : InfoOf Pg e z bytes) (hz : ZeroOk e z) (hpos : 0 < isz e) (hsl : SlV c e (.slice B m q)) {ms : List (Cs (isz e))} (hms : ms.length = m) (hSl : Sl Cs.val (isz e) w 0 w.heap.size B ms) (hm : 0 < m)
    (hbound : (0 + m) * bytes ≤ 140737488355328 ∧ 0 + m ≤ maxLen)
    (h : ∀ c' g d' cur w', St k P T D c' L (V.set 0 (e, noP, .slice (some ⟨g, 0, none⟩) m d')) w' → KB c' w' g (.cells cur e (0, 0)) → k.w0.heap.size ≤ g → cur.toList.take (m * isz e) = ms.flatMap Cs.val → m ≤ d' → d' ≤ maxLen → m * isz e ≤ cur.size → K (a.put o.dst (.slice (some ⟨g, 0, none⟩) m d')) w') : o.wp Pg a w K Q := by
  obtain ⟨c', A', d', w', hrun, h1, h2⟩ := hS.app (ty := o.type) ht hi hz hpos hV hsl ⟨ms, hms, hSl, fun _ _ => trivial⟩ hbound
  obtain ⟨_, ls, hown, _⟩ := hS.vs _ (List.mem_of_getElem? hV)
  have hown : Own Cs.val (isz e) e w k.w0.heap.size (.slice (some ⟨b, 0, none⟩) 0 0) ls := hown
  have hl0 : ls = [] := List.eq_nil_of_length_eq_zero hown.lenEq.symm
  subst hl0
  have hne : ms ≠ [] := by intro e; rw [e] at hms; simp at hms; omega
  obtain ⟨g0, off0, rfl, _, _, hc⟩ := hSl hne
  obtain ⟨inf, hi1, hi2, hi3, hi4⟩ := info_parts hi
  have hzs : z.cells.size = isz e := by have := (hz T D c).len; simpa using this
  subst hms
  have hflat : ∀ j u, (ms.flatMap Cs.val)[j]? = some u → w.cell? ((⟨g0, off0, none⟩ : Addr).add j) = some u := fun j u hu => by
    have hadd : ((⟨g0, off0, none⟩ : Addr).add j) = ⟨g0, off0 + j, none⟩ := by
      unfold Addr.add
      split
      · rename_i h0; rw [h0]; rfl
      · rfl
    rw [hadd]
    have hj : j < ms.length * isz e := by
      have := (List.getElem?_eq_some_iff.1 hu).1
      rwa [flatMap_len Cs.len] at this
    have hk : j / isz e < ms.length := Nat.div_lt_of_lt_mul (by rw [Nat.mul_comm]; exact hj)
    have hr : j % isz e < isz e := Nat.mod_lt _ hpos
    have hdm : j / isz e * isz e + j % isz e = j := by rw [Nat.mul_comm]; exact Nat.div_add_mod j (isz e)
    have hu' : (Cs.val ms[j / isz e])[j % isz e]? = some ((Cs.val ms[j / isz e])[j % isz e]'(by rw [Cs.len]; exact hr)) := List.getElem?_eq_getElem _
    have h5 := flatMap_get Cs.len ms (j / isz e) ms[j / isz e] (List.getElem?_eq_getElem hk) (j % isz e) _ hu'
    have h6 := hc (j / isz e) ms[j / isz e] (List.getElem?_eq_getElem hk) (j % isz e) _ hu'
    rw [hdm] at h5
    rw [Nat.add_assoc, hdm] at h6
    rw [h5] at hu
    injection hu with hu
    rw [← hu]
    exact h6
  obtain ⟨v2, w2, hrun2, hO2, hg2, hloc2⟩ := run_appG (P := Pg) Cs.len hpos Cs.one t o.type e inf z bytes ht hi1 hi2 hi3 hi4 hzs hown ⟨g0, off0, none⟩ ms q hflat (by simpa using hbound.2) (by simpa using hbound.1) hS.base
  rw [hrun] at hrun2
  injection hrun2 with hq1 hq2
  subst hq1; subst hq2
  simp only [List.nil_append, Nat.zero_add] at hO2 h1
  rcases hO2 with ⟨_, h5⟩ | ⟨g, cap, cur, h5, h6, h7, h8, h9, h10, h11⟩
  · omega
  · injection h5 with e1 e2 e3
    subst e1; subst e3
    have hv' := h1.slV (j := 0) (by rw [List.getElem?_set_self (by exact (List.getElem?_eq_some_iff.1 hV).1)])
    obtain ⟨ob, hkb⟩ := h1.tw.kb hv'
    have hob : ob = .cells cur e (0, 0) := by have := hkb.2; rw [h7] at this; injection this with this; exact this.symm
    subst hob
    unfold Oper.wp execOp
    simp only [ho, resolve, invoke, builtin, Sem.run_bind, Sem.run_pure, Result.andThen_ok, List.map_toArray, List.map_cons, List.map_nil, hs, hx, hrun, Nat.zero_add]
    exact h c' g d' cur w' h1 hkb h6 h11 h8 h9 (Nat.le_trans (Nat.mul_le_mul_right _ h8) h10)
theorem wp_set1B (hS : St k P T D c L V w) {t : TypeId} {x y : Operand} {b j : Nat} {A : Option Addr} {n d : Nat} {e : TypeId} {vs : List Value} {ct : CT} (i : Nat) (ho : o.op = .store t y x) (hy : a.eval y = .pointer (some ⟨b, j, none⟩)) (hL : L[i]? = some (b, e, vs))
    (hx : a.eval x = .slice A n d) (hct : (F T D e)[j]? = some ct) (hu : ct.ok c (.slice A n d)) (hsz : (Pg.info? t).map (·.size) = some 1)
    (h : ∀ w', St k P T D c (L.set i (b, e, vs.set j (.slice A n d))) V w' → (∀ g ob, KB c w g ob → KB c w' g ob) → K (a.put o.dst undef) w') : o.wp Pg a w K Q := by
  obtain ⟨b1, b2, b3, b4⟩ := hS.bx _ (List.mem_of_getElem? hL)
  have b3 : c b = none := b3
  have h1 := h _ (hS.set hL hct hu) (fun g ob hk => ⟨hk.1, by
    have hgb : g ≠ b := fun e => by obtain ⟨y, hy⟩ := hk.1; rw [e, b3] at hy; cases hy
    exact (Below.heap_setCell w _ _ g hgb).trans hk.2⟩)
  have b1 : w.heap[b]? = some (.cells vs.toArray e (0, 0)) := b1
  have hj : j + [Value.slice A n d].length ≤ vs.length := by
    have := (List.getElem?_eq_some_iff.1 hct).1
    have h9 : vs.length = isz e := b4.len
    rw [F_len, ← h9] at this
    simp only [List.length_cons, List.length_nil]
    omega
  have hst := run_storeBox (Pg := Pg) (us := [Value.slice A n d]) b1 hj (by intro v hv; rw [List.mem_singleton] at hv; subst hv; exact hu.one)
  obtain ⟨inf, hi1, hi2⟩ := Option.map_eq_some_iff.1 hsz
  unfold Oper.wp
  simp [execOp, ho, hy, hx, Instr.storeAt, Instr.sureAddr, storeVar, sizeOf, typeInfo, hi1, hi2, Value.cells, hst, Oper.upon, Result.andThen]
  exact h1
theorem wp_pokeX {e : TypeId} {Pr : List Value → Prop} {g off n d i : Nat} {us : List Value} {z : Value} {bytes : Nat} (hS : St k P T D c L ((e, Pr, .slice (some ⟨g, off, none⟩) n d) :: V) w) {x y : Operand} (ho : o.op = .store e y x) (hy : a.eval y = .pointer (some ⟨g, off + i * isz e, none⟩)) (hi : i < n)
    (hx : a.eval x = .agg us.toArray) (hu : TyE T D c e us) (hI : InfoOf Pg e z bytes)
    (h : ∀ w', w' = putCells w g (off + i * isz e) us → St k P T D c L V w' → K (a.put o.dst undef) w') : o.wp Pg a w K Q := by
  obtain ⟨⟨cs, b1, b2⟩, h1⟩ := hS.poke hi hu
  have h1 := h _ rfl h1
  have hst := run_storeBox (Pg := Pg) b1 b2 hu.one
  obtain ⟨inf, hi1, hi2, hi3, hi4⟩ := info_parts hI
  unfold Oper.wp
  simp [execOp, ho, hy, hx, Instr.storeAt, Instr.sureAddr, storeVar, sizeOf, typeInfo, hi1, hi3, hu.len, Value.cells, hst, Oper.upon, Result.andThen]
  exact h1
theorem wp_pokeX0 {e : TypeId} {Pr : List Value → Prop} {g n d i : Nat} {us : List Value} {z : Value} {bytes : Nat} (hS : St k P T D c L ((e, Pr, .slice (some ⟨g, 0, none⟩) n d) :: V) w) {x y : Operand} (ho : o.op = .store e y x) (hy : a.eval y = .pointer (some ⟨g, i * isz e, none⟩)) (hi : i < n)
    (hx : a.eval x = .agg us.toArray) (hu : TyE T D c e us) (hI : InfoOf Pg e z bytes)
    (h : ∀ w', w' = putCells w g (0 + i * isz e) us → St k P T D c L V w' → K (a.put o.dst undef) w') : o.wp Pg a w K Q :=
  wp_pokeX hS ho (by rw [Nat.zero_add]; exact hy) hi hx hu hI h
end
theorem rdn_parts {w : World} {A : Option Addr} {n d : Nat} {ts : List RepT} (h0 : RdN 7 repR w 0 w.heap.size A n d ts) {ms : List (Cs (isz tR))} (hml : ms.length = n) (hSl : Sl Cs.val (isz tR) w 0 w.heap.size A ms) {i : Nat} (hi : i < ts.length) (hi' : i < ms.length) : repR w 0 w.heap.size ms[i].val ts[i] := by
  obtain ⟨b, off, rfl, _, _, f⟩ := h0.row (by intro e; rw [e] at hi; simp at hi)
  obtain ⟨cs, h1, h2, h3⟩ := f i hi
  have hat := hSl.at_ hi'
  have hl : ms[i].val.length = 7 := ms[i].len
  have : ms[i].val = cs := by
    apply List.ext_getElem?
    intro j
    by_cases hj : j < 7
    · have hj1 : j < ms[i].val.length := by omega
      have hj2 : j < cs.length := by omega
      have e1 : w.cell? ⟨b, off + i * 7 + j, none⟩ = some (ms[i].val[j]'hj1) := hat j _ (List.getElem?_eq_getElem hj1)
      have e2 := h2 j _ (List.getElem?_eq_getElem hj2)
      rw [e1] at e2
      injection e2 with e2
      rw [List.getElem?_eq_getElem hj1, List.getElem?_eq_getElem hj2, e2]
    · rw [List.getElem?_eq_none (by omega), List.getElem?_eq_none (by omega)]
  rw [this]
  exact h3
theorem rdn_set {w1 w : World} {A : Option Addr} {d d' g kn : Nat} {ts : List RepT} {ms : List (Cs (isz tR))} {cur : Array Value} {us : List Value} {nr : RepT} (h0 : RdN 7 repR w1 0 w1.heap.size A 4 d ts) (hml : ms.length = 4) (hSl : Sl Cs.val (isz tR) w1 0 w1.heap.size A ms)
    (hb : w.heap[g]? = some (.cells cur tR (0, 0))) (hcur : cur.toList.take (4 * isz tR) = ms.flatMap Cs.val) (hcs : 4 * isz tR ≤ cur.size) (hg : w1.heap.size ≤ g) (hd : 4 ≤ d') (hdm : d' ≤ maxLen) (hk : kn < 4) (hul : us.length = 7)
    (hB : Below w1.heap.size w1 (putCells w g (0 + kn * isz tR) us)) (hnr : ∀ W hi, repR W 0 hi us nr) :
    RdN 7 repR (putCells w g (0 + kn * isz tR) us) 0 (putCells w g (0 + kn * isz tR) us).heap.size (some ⟨g, 0, none⟩) 4 d' (ts.set kn nr) := by
  have e3 : isz tR = 7 := rfl
  have hlen := h0.len
  rw [e3] at hcs
  have hcur : cur.toList.take (4 * 7) = ms.flatMap Cs.val := hcur
  obtain ⟨cur', p1, p2, p3⟩ := heap_putCells us w g (0 + kn * isz tR) cur tR hb (by rw [e3]; omega)
  have hgl := lt_of_heap p1
  refine ⟨by rw [List.length_set]; exact hlen, hd, hdm, fun _ => ⟨g, 0, rfl, Nat.zero_le _, hgl, fun i hi => ?_⟩⟩
  have hi4 : i < 4 := by rw [List.length_set] at hi; omega
  have hcell : ∀ m, (putCells w g (0 + kn * isz tR) us).cell? ⟨g, m, none⟩ = cur'[m]? := fun m => by
    unfold World.cell?
    rw [p1]
    rfl
  have hget : ∀ m : Nat, cur'[m]? = (cur.toList.take (0 + kn * 7) ++ us ++ cur.toList.drop (0 + kn * 7 + 7))[m]? := fun m => by
    rw [e3, hul] at p3
    rw [← p3]
    simp
  have hcl : cur.toList.length = cur.size := Array.length_toList
  by_cases hik : i = kn
  · subst hik
    refine ⟨us, hul, fun j u hu => ?_, by rw [List.getElem_set_self]; exact hnr _ _⟩
    have hj : j < 7 := by rw [← hul]; exact (List.getElem?_eq_some_iff.1 hu).1
    rw [hcell, hget, List.getElem?_append_left (by rw [List.length_append, List.length_take, hcl]; omega), List.getElem?_append_right (by rw [List.length_take, hcl]; omega), List.length_take, hcl, Nat.min_eq_left (by omega), show 0 + i * 7 + j - (0 + i * 7) = j by omega]
    exact hu
  · have hi' : i < ms.length := by omega
    have hts : i < ts.length := by omega
    have hr := rdn_parts h0 hml hSl hts hi'
    refine ⟨ms[i].val, ms[i].len, fun j u hu => ?_, ?_⟩
    · have hj : j < 7 := by have := (List.getElem?_eq_some_iff.1 hu).1; have h9 : ms[i].val.length = 7 := ms[i].len; omega
      have hold : cur.toList[0 + i * 7 + j]? = some u := by
        have h5 : (ms.flatMap Cs.val)[i * 7 + j]? = some u := flatMap_get Cs.len ms i ms[i] (List.getElem?_eq_getElem hi') j u hu
        rw [← hcur, List.getElem?_take, if_pos (by omega)] at h5
        rw [Nat.zero_add]
        exact h5
      rw [hcell, hget]
      rcases Nat.lt_or_gt_of_ne hik with hlt | hgt
      · rw [List.append_assoc, List.getElem?_append_left (by rw [List.length_take, hcl]; omega), List.getElem?_take, if_pos (by omega)]
        exact hold
      · rw [List.getElem?_append_right (by rw [List.length_append, List.length_take, hcl]; omega), List.length_append, List.length_take, hcl, hul, Nat.min_eq_left (by omega), List.getElem?_drop, show 0 + kn * 7 + 7 + (0 + i * 7 + j - (0 + kn * 7 + 7)) = 0 + i * 7 + j by omega]
        exact hold
    · rw [List.getElem_set_ne (by omega)]
      exact (rep_kept.keep hr (fun b _ hb' => hB.block b hb')) |> fun h => rep_kept.mono h (Nat.le_refl _) hB.size
theorem agree_new {t : WorldT} (h : agreeW t = true) {kn : Nat} (hk : kn < 4) : agreeW (t.1, t.2.1.set kn ((kn : Int), 0, true, 1, [], [], []), t.2.2) = true := by
  unfold agreeW at h ⊢
  rw [Bool.and_eq_true] at h ⊢
  obtain ⟨h1, h2⟩ := h
  have h2 := of_decide_eq_true h2
  unfold okWorld at h1
  simp only [Bool.and_eq_true, decide_eq_true_eq] at h1
  obtain ⟨a1, a2, a3, a4, a5⟩ := h1
  refine ⟨?_, decide_eq_true (h2.sub fun c hc => ?_)⟩
  · unfold okWorld
    simp only [Bool.and_eq_true, decide_eq_true_eq]
    refine ⟨a1, by rw [List.length_set]; exact a2, a3, fun i hi => ?_, a5⟩
    rw [List.length_set] at hi
    obtain ⟨_, q1, q2⟩ := a4 i hi
    refine ⟨by rw [List.length_set]; exact hi, ?_⟩
    by_cases hik : i = kn
    · subst hik
      rw [List.getElem_set_self]
      refine ⟨?_, rfl⟩
      have : i = 0 ∨ i = 1 ∨ i = 2 ∨ i = 3 := by omega
      rcases this with rfl | rfl | rfl | rfl <;> decide
    · rw [List.getElem_set_ne (by omega)]
      exact ⟨q1, q2⟩
  · unfold hcl at hc ⊢
    obtain ⟨r, hr, hcr⟩ := List.mem_flatMap.1 hc
    rcases List.mem_or_eq_of_mem_set hr with hr | rfl
    · exact List.mem_flatMap.2 ⟨r, hr, hcr⟩
    · exfalso
      unfold doneH at hcr
      split at hcr <;> simp at hcr
theorem agree_len {t : WorldT} (h : agreeW t = true) : t.2.1.length = 4 := by
  unfold agreeW okWorld at h
  simp only [Bool.and_eq_true, decide_eq_true_eq] at h
  exact h.1.2.1
set_option maxRecDepth 100000 in
set_option maxHeartbeats 8000000 in
theorem lawAgreeLook (A : Option Addr) (n c : Nat) (bs : List Int) (w : World) (hn : n = bs.length) (hc : n ≤ c) (hcm : c ≤ maxLen) (hs : Sl encU 1 w 0 w.heap.size A bs) (hb : ∀ b ∈ bs, 0 ≤ b ∧ b < 256) (B : Option Addr) (m d : Nat) (hm : m ≤ d) (hdm : d ≤ maxLen) :
    Calls Tryz.prog 3 #[.slice A n c, .slice B m d] w fun e w' => e = .returned (.bool true) ∧ Below w.heap.size w w' := by
  have hn' := hide hn
  have hb' := hide hb
  clear hn hb
  by_cases hbig : 1048576 < n
  · have d1 : decide (1048576 < (n : Int)) = true := by simp; omega
    go_enter Tryz.func3, Tryz.ntmps3
    go_wp2
    go_ret
    exact ⟨rfl, Below.refl _ _⟩
  have d1 : decide (1048576 < (n : Int)) = false := by simp; omega
  by_cases hbig2 : 1048576 < m
  · have d2 : decide (1048576 < (m : Int)) = true := by simp; omega
    go_enter Tryz.func3, Tryz.ntmps3
    go_wp2
    go_ret
    exact ⟨rfl, Below.refl _ _⟩
  have d2 : decide (1048576 < (m : Int)) = false := by simp; omega
  go_enter Tryz.func3, Tryz.ntmps3
  go_wp2_with fail
  refine (DrawWorldAgree_t A n c bs w hn'.out hc hcm hs hb'.out).mono ?_
  rintro e w1 ⟨c1, us, rfl, hus, hT, hB1⟩
  obtain ⟨t, A1, n1, d1', B1, p1, q1, rfl, hsR, r0, r1⟩ := hT.rdW hus
  have hS : St ⟨c1, w1, none⟩ 0 21000 6000001 c1 [] [] w1 := St.start hT (fun g hg => by cases hg)
  clear d1 d2
  cases hag : agreeW t
  · (try clear hc ht hv); (refine no_implicit_lambda% (fct ?_)); intro hc ht hv
    go_wp2_with (first
    | ((refine no_implicit_lambda% (hdE ?_)); intro K hK; (first
      | ((with_reducible refine at_dst 36 ?_ ?_); (focus rfl); (with_reducible apply wp_appX hS); (focus rfl); (focus exact Tryz.underlying23); (focus rfl); (focus rfl); (focus rfl); (focus exact inR); (focus exact zoR); (focus decide); (focus exact hsR.mono hS.ext.le); (focus exact hml); (focus exact (hSl.below hS.fin.2.2 (Nat.le_refl _)).mono (Nat.le_refl _) hS.base); (focus omega); (focus (unfold maxLen; omega)); (try clear hc ht hv); clear hS; intro c gR dR cur w hS hobV hgR hcur hdR hdRm hcurs; (try simp only [List.set_cons_zero, List.set_cons_succ, Nat.zero_add] at hS); (refine no_implicit_lambda% (fct ?_)); intro hc ht hv)
      | ((with_reducible refine at_store rfl ?_); (with_reducible apply wp_set1B hS 0); (focus rfl); (focus rfl); (focus rfl); (focus rfl); (focus rfl); (focus (exact tyA)); (focus exact szSR); (try clear hc ht hv); clear hS; intro w hS hks; (replace hobV := hks _ _ hobV); clear hks; (try simp only [List.set_cons_zero, List.set_cons_succ, Nat.zero_add] at hS); (refine no_implicit_lambda% (fct ?_)); intro hc ht hv)
      | ((with_reducible refine at_store rfl ?_); (with_reducible apply wp_pokeX0 (i := kn) hS); (focus rfl); (focus rfl); (focus omega); (focus rfl); (focus (exact tyA)); (focus exact inR); (try clear hc ht hv); clear hS; intro w hw9 hS; (have hB9 := hS.fin.2.2); (have hxr : RdN 7 repR w 0 w.heap.size (some ⟨gR, 0, none⟩) 4 dR (t.2.1.set kn ((kn : Int), 0, true, 1, [], [], [])) := (by rw [hw9] at hB9 ⊢; exact rdn_set r0 hml hSl hobV.2 hcur hcurs hgR hdR hdRm hk4 rfl hB9 (fun W hi => ⟨none, 0, 0, none, 0, 0, none, 0, 0, rfl, RdN.nil_ _ _ _ _ _ _ _ (by simp [maxLen]), RdN.nil_ _ _ _ _ _ _ _ (by simp [maxLen]), RdN.nil_ _ _ _ _ _ _ _ (by simp [maxLen])⟩))); clear hw9 hB9; (refine no_implicit_lambda% (fct ?_)); intro hc ht hv)
      | ((with_reducible refine at_dst 5 ?_ ?_); (focus rfl); (refine no_implicit_lambda% (alzW ?_)); (try clear hc ht hv); clear hS; intro b5 w hS hc ht hv)
      | ((with_reducible refine at_dst 7 ?_ ?_); (focus rfl); (refine no_implicit_lambda% (alzW ?_)); (try clear hc ht hv); clear hS; intro b7 w hS hc ht hv)
      | ((with_reducible refine at_dst 33 ?_ ?_); (focus rfl); ((refine no_implicit_lambda% (r0zRnoP ?_)); (try clear hc ht hv); clear hS; intro c b w hS hx; (try replace hus := hus.mono hx.le); (try clear hx); intro hc ht hv))
      | ((with_reducible refine at_dst 36 ?_ ?_); (focus rfl); ((refine no_implicit_lambda% (apzR ?_)); (try clear hc ht hv); clear hS; intro c A36 d36 w hS hx; (try replace hus := hus.mono hx.le); (try clear hx); intro hc ht hv))
      | ((refine no_implicit_lambda% (sazW ?_)); (try clear hc ht hv); clear hS; intro w hS hc ht hv)
      | ((refine no_implicit_lambda% (sazR ?_)); (try clear hc ht hv); clear hS; intro w hS hc ht hv)
      | ((refine no_implicit_lambda% (stS ?_)); (try clear hc ht hv); clear hS; intro w hS hc ht hv)))
    | (go_at_call 5; (first | (refine (WorldAgree_c (t.1, t.2.1.set kn ((kn : Int), 0, true, 1, [], [], []), t.2.2) _ _ _ _ _ _ 0 w.heap.size _ hxr ((r1.below msg_kept hS.fin.2.2 (Nat.le_refl _)).mono msg_kept (Nat.le_refl _) hS.base) (Nat.le_refl _)).mono ?_; rintro e w ⟨rfl, hb⟩) | (refine (WorldAgree_c t _ _ _ _ _ _ 0 w1.heap.size _ (r0.below rep_kept hS.fin.2.2 (Nat.le_refl _)) (r1.below msg_kept hS.fin.2.2 (Nat.le_refl _)) hS.base).mono ?_; rintro e w ⟨rfl, hb⟩)); replace hS := hS.past hb; clear hb; (try simp only [hag]); (try simp only [hag2]); (try clear hc ht hv); (try dsimp only); (refine no_implicit_lambda% (fct ?_)); intro hc ht hv)
    | (go_at_call 6; (first | (refine (specWorldAgree_c (t.1, t.2.1.set kn ((kn : Int), 0, true, 1, [], [], []), t.2.2) _ _ _ _ _ _ 0 w.heap.size _ hxr ((r1.below msg_kept hS.fin.2.2 (Nat.le_refl _)).mono msg_kept (Nat.le_refl _) hS.base) (Nat.le_refl _)).mono ?_; rintro e w ⟨rfl, hb⟩) | (refine (specWorldAgree_c t _ _ _ _ _ _ 0 w1.heap.size _ (r0.below rep_kept hS.fin.2.2 (Nat.le_refl _)) (r1.below msg_kept hS.fin.2.2 (Nat.le_refl _)) hS.base).mono ?_; rintro e w ⟨rfl, hb⟩)); replace hS := hS.past hb; clear hb; (try simp only [hag]); (try simp only [hag2]); (try clear hc ht hv); (try dsimp only); (refine no_implicit_lambda% (fct ?_)); intro hc ht hv)
    | (go_at_call 7; refine (RepNew_yes _ _ hin).mono ?_; rintro e w ⟨rfl, hb⟩; (try replace hobV := KB.below hb hobV); replace hS := hS.past hb; clear hb; (try clear hc ht hv); (try dsimp only); (refine no_implicit_lambda% (fct ?_)); intro hc ht hv)
    | ((refine no_implicit_lambda% (rglawsFnAgreeLook9 ?_)); (try clear hc ht hv); clear hS; intro hS hc ht hv)
    | ((with_reducible refine wpOF_both ?_ ?_) <;> (refine no_implicit_lambda% (pk_ ?_))) | ((with_reducible refine wpOF_three ?_ ?_ ?_) <;> (refine no_implicit_lambda% (pk_ ?_))) | ((with_reducible refine MS.and_ ?_ ?_); (focus (exact msA)); intro hM) | (refine no_implicit_lambda% (ofS ?_)) | ((refine no_implicit_lambda% (ofK ?_)); intro K hK) | (refine no_implicit_lambda% (ofL ?_)) | ((refine no_implicit_lambda% (ofM ?_)); intro K hK) | ((refine no_implicit_lambda% (ofX ?_)); intro K hK) | (refine no_implicit_lambda% (ofN ?_)) | ((with_reducible apply wpT_split); (focus rfl); (focus rfl); (focus rfl); all_goals (intro hxx; simp only [hxx]))
    | fail)
    all_goals (go_ret; exact ⟨rfl, hB1.trans (hS.fin.2.2.mono hB1.size)⟩)
  · have hl : n1 = 4 := r0.len.trans (agree_len hag)
    subst hl
    obtain ⟨kn, hkn, hk4⟩ : ∃ kn : Nat, (m : Int) % 4 = (kn : Int) ∧ kn < 4 := ⟨m % 4, by omega, by omega⟩
    have hag2 := agree_new hag hk4
    have hin : inB (kn : Int) 0 3 = true := by simp [inB]; omega
    obtain ⟨ms, hml, hSl, _⟩ := hT.parts (by decide) hsR
    replace hml := hide hml
    (try clear hc ht hv); (refine no_implicit_lambda% (fct ?_)); intro hc ht hv
    go_wp2_with (first
    | ((refine no_implicit_lambda% (hdE ?_)); intro K hK; (first
      | ((with_reducible refine at_dst 36 ?_ ?_); (focus rfl); (with_reducible apply wp_appX hS); (focus rfl); (focus exact Tryz.underlying23); (focus rfl); (focus rfl); (focus rfl); (focus exact inR); (focus exact zoR); (focus decide); (focus exact hsR.mono hS.ext.le); (focus exact hml.out); (focus exact (hSl.below hS.fin.2.2 (Nat.le_refl _)).mono (Nat.le_refl _) hS.base); (focus omega); (focus (unfold maxLen; omega)); (try clear hc ht hv); clear hS; intro c gR dR cur w hS hobV hgR hcur hdR hdRm hcurs; (try simp only [List.set_cons_zero, List.set_cons_succ, Nat.zero_add] at hS); (refine no_implicit_lambda% (fct ?_)); intro hc ht hv)
      | ((with_reducible refine at_store rfl ?_); (with_reducible apply wp_set1B hS 0); (focus rfl); (focus rfl); (focus rfl); (focus rfl); (focus rfl); (focus (exact tyA)); (focus exact szSR); (try clear hc ht hv); clear hS; intro w hS hks; (replace hobV := hks _ _ hobV); clear hks; (try simp only [List.set_cons_zero, List.set_cons_succ, Nat.zero_add] at hS); (refine no_implicit_lambda% (fct ?_)); intro hc ht hv)
      | ((with_reducible refine at_store rfl ?_); (with_reducible apply wp_pokeX0 (i := kn) hS); (focus rfl); (focus rfl); (focus omega); (focus rfl); (focus (exact tyA)); (focus exact inR); (try clear hc ht hv); clear hS; intro w hw9 hS; (have hB9 := hS.fin.2.2); (have hxr : RdN 7 repR w 0 w.heap.size (some ⟨gR, 0, none⟩) 4 dR (t.2.1.set kn ((kn : Int), 0, true, 1, [], [], [])) := (by rw [hw9] at hB9 ⊢; exact rdn_set r0 hml.out hSl hobV.2 hcur hcurs hgR hdR hdRm hk4 rfl hB9 (fun W hi => ⟨none, 0, 0, none, 0, 0, none, 0, 0, rfl, RdN.nil_ _ _ _ _ _ _ _ (by simp [maxLen]), RdN.nil_ _ _ _ _ _ _ _ (by simp [maxLen]), RdN.nil_ _ _ _ _ _ _ _ (by simp [maxLen])⟩))); clear hw9 hB9; (refine no_implicit_lambda% (fct ?_)); intro hc ht hv)
      | ((with_reducible refine at_dst 5 ?_ ?_); (focus rfl); (refine no_implicit_lambda% (alzW ?_)); (try clear hc ht hv); clear hS; intro b5 w hS hc ht hv)
      | ((with_reducible refine at_dst 7 ?_ ?_); (focus rfl); (refine no_implicit_lambda% (alzW ?_)); (try clear hc ht hv); clear hS; intro b7 w hS hc ht hv)
      | ((with_reducible refine at_dst 33 ?_ ?_); (focus rfl); ((refine no_implicit_lambda% (r0zRnoP ?_)); (try clear hc ht hv); clear hS; intro c b w hS hx; (try replace hus := hus.mono hx.le); (try clear hx); intro hc ht hv))
      | ((with_reducible refine at_dst 36 ?_ ?_); (focus rfl); ((refine no_implicit_lambda% (apzR ?_)); (try clear hc ht hv); clear hS; intro c A36 d36 w hS hx; (try replace hus := hus.mono hx.le); (try clear hx); intro hc ht hv))
      | ((refine no_implicit_lambda% (sazW ?_)); (try clear hc ht hv); clear hS; intro w hS hc ht hv)
      | ((refine no_implicit_lambda% (sazR ?_)); (try clear hc ht hv); clear hS; intro w hS hc ht hv)
      | ((refine no_implicit_lambda% (stS ?_)); (try clear hc ht hv); clear hS; intro w hS hc ht hv)))
    | (go_at_call 5; (first | (refine (WorldAgree_c (t.1, t.2.1.set kn ((kn : Int), 0, true, 1, [], [], []), t.2.2) _ _ _ _ _ _ 0 w.heap.size _ hxr ((r1.below msg_kept hS.fin.2.2 (Nat.le_refl _)).mono msg_kept (Nat.le_refl _) hS.base) (Nat.le_refl _)).mono ?_; rintro e w ⟨rfl, hb⟩) | (refine (WorldAgree_c t _ _ _ _ _ _ 0 w1.heap.size _ (r0.below rep_kept hS.fin.2.2 (Nat.le_refl _)) (r1.below msg_kept hS.fin.2.2 (Nat.le_refl _)) hS.base).mono ?_; rintro e w ⟨rfl, hb⟩)); replace hS := hS.past hb; clear hb; (try simp only [hag]); (try simp only [hag2]); (try clear hc ht hv); (try dsimp only); (refine no_implicit_lambda% (fct ?_)); intro hc ht hv)
    | (go_at_call 6; (first | (refine (specWorldAgree_c (t.1, t.2.1.set kn ((kn : Int), 0, true, 1, [], [], []), t.2.2) _ _ _ _ _ _ 0 w.heap.size _ hxr ((r1.below msg_kept hS.fin.2.2 (Nat.le_refl _)).mono msg_kept (Nat.le_refl _) hS.base) (Nat.le_refl _)).mono ?_; rintro e w ⟨rfl, hb⟩) | (refine (specWorldAgree_c t _ _ _ _ _ _ 0 w1.heap.size _ (r0.below rep_kept hS.fin.2.2 (Nat.le_refl _)) (r1.below msg_kept hS.fin.2.2 (Nat.le_refl _)) hS.base).mono ?_; rintro e w ⟨rfl, hb⟩)); replace hS := hS.past hb; clear hb; (try simp only [hag]); (try simp only [hag2]); (try clear hc ht hv); (try dsimp only); (refine no_implicit_lambda% (fct ?_)); intro hc ht hv)
    | (go_at_call 7; refine (RepNew_yes _ _ hin).mono ?_; rintro e w ⟨rfl, hb⟩; (try replace hobV := KB.below hb hobV); replace hS := hS.past hb; clear hb; (try clear hc ht hv); (try dsimp only); (refine no_implicit_lambda% (fct ?_)); intro hc ht hv)
    | ((refine no_implicit_lambda% (rglawsFnAgreeLook9 ?_)); (try clear hc ht hv); clear hS; intro hS hc ht hv)
    | ((with_reducible refine wpOF_both ?_ ?_) <;> (refine no_implicit_lambda% (pk_ ?_))) | ((with_reducible refine wpOF_three ?_ ?_ ?_) <;> (refine no_implicit_lambda% (pk_ ?_))) | ((with_reducible refine MS.and_ ?_ ?_); (focus (exact msA)); intro hM) | (refine no_implicit_lambda% (ofS ?_)) | ((refine no_implicit_lambda% (ofK ?_)); intro K hK) | (refine no_implicit_lambda% (ofL ?_)) | ((refine no_implicit_lambda% (ofM ?_)); intro K hK) | ((refine no_implicit_lambda% (ofX ?_)); intro K hK) | (refine no_implicit_lambda% (ofN ?_)) | ((with_reducible apply wpT_split); (focus rfl); (focus rfl); (focus rfl); all_goals (intro hxx; simp only [hxx]))
    | fail)
    all_goals (go_ret; exact ⟨rfl, hB1.trans (hS.fin.2.2.mono hB1.size)⟩)
end Go.Proofs.YtopmbnnjhoinkaaGreat
