/-
  Texts of games: 'commas', 'GamePut', 'l2Put'. (Printed by gen_ic.py.)
  Conditions: none.
-/
import Derived.Test.YtajmfonepnkofaaDoorIB
import Derived.Test.YtajmfonepnkofaaDoorMA
import Derived.Test.YtajmfonepnkofaaDoorDR
import Derived.Test.YtajmfonepnkofaaDoorRegS
namespace Go.Proofs.YtajmfonepnkofaaDoor
open Go.RowKit Rg
open Go.Lib hiding intOf
set_option linter.unusedVariables false
set_option linter.unusedSimpArgs false

theorem _root_.Go.Lib.BuilderAtF.below {T e : TypeId} {B b : Nat} {p : Value} {bs : List Value} {w w' : World} (h : BuilderAtF T e B b p bs w) (hb : Below w.heap.size w w') : BuilderAtF T e B b p bs w' := by
  obtain ⟨h1, v, h2, h3, h4⟩ := h
  exact ⟨h1, v, (hb.block b (lt_of_heap h2)).trans h2, h3.kept (row := none) ⟨hb.os, hb.tape, hb.output, hb.size, fun k hk _ => hb.block k hk⟩ (by cases h : v.ownBlock <;> simp), h4⟩
theorem _root_.Go.Lib.IsBuilderF.below {T e : TypeId} {B b : Nat} {bs : List Value} {w w' : World} (h : IsBuilderF T e B b bs w) (hb : Below w.heap.size w w') : IsBuilderF T e B b bs w' := h.imp (·.below hb) (·.below hb)
def commasB (xs : List Int) : List UInt8 := xs.flatMap fun x => itoa x ++ [44]
def entB (e : EntT) : List UInt8 := 47 :: (itoa e.1 ++ 44 :: (itoa e.2.1 ++ 44 :: (itoa e.2.2.1 ++ 44 :: (itoa e.2.2.2.1 ++ 44 :: itoa e.2.2.2.2))))
def putE (es : List EntT) : List UInt8 := es.flatMap entB
/-- The text of a game. -/
def putG (g : GameT) : List UInt8 := (commasB g.2.1 ++ 47 :: commasB g.2.2) ++ putE g.1
theorem commasB_take (xs : List Int) (k : Nat) (hk : k < xs.length) : commasB (xs.take (k + 1)) = commasB (xs.take k) ++ (itoa xs[k] ++ [44]) := by
  unfold commasB
  rw [List.take_succ_eq_append_getElem hk, List.flatMap_append]
  simp
theorem putE_take (es : List EntT) (k : Nat) (hk : k < es.length) : putE (es.take (k + 1)) = putE (es.take k) ++ entB es[k] := by
  unfold putE
  rw [List.take_succ_eq_append_getElem hk, List.flatMap_append]
  simp
theorem itoa_sm {n : Int} (h0 : 0 ≤ n) (h1 : n < 100) : (itoa n).length ≤ 21 := itoa_length_le n (by omega) (by omega)
theorem commasB_len : ∀ {xs : List Int}, (∀ x ∈ xs, 0 ≤ x ∧ x < 100) → (commasB xs).length ≤ 22 * xs.length
  | [], _ => by simp [commasB]
  | x :: xs, h => by
    have ih := commasB_len (xs := xs) (fun y hy => h y (List.mem_cons_of_mem _ hy))
    have h1 := itoa_sm (h x (by simp)).1 (h x (by simp)).2
    have : commasB (x :: xs) = (itoa x ++ [44]) ++ commasB xs := rfl
    rw [this]
    simp only [List.length_append, List.length_cons, List.length_nil]
    omega
theorem ent_nums {e : EntT} (h : entOk e) : ∀ x ∈ [e.1, e.2.1, e.2.2.1, e.2.2.2.1, e.2.2.2.2], 0 ≤ x ∧ x < 100 := by
  unfold entOk rng at h
  intro x hx
  simp only [List.mem_cons, List.not_mem_nil, or_false] at hx
  rcases hx with rfl | rfl | rfl | rfl | rfl <;> omega
theorem entB_len {e : EntT} (h : entOk e) : (entB e).length ≤ 120 := by
  have h' := ent_nums h
  have a := itoa_sm (h' e.1 (by simp)).1 (h' e.1 (by simp)).2
  have b := itoa_sm (h' e.2.1 (by simp)).1 (h' e.2.1 (by simp)).2
  have c := itoa_sm (h' e.2.2.1 (by simp)).1 (h' e.2.2.1 (by simp)).2
  have d := itoa_sm (h' e.2.2.2.1 (by simp)).1 (h' e.2.2.2.1 (by simp)).2
  have f := itoa_sm (h' e.2.2.2.2 (by simp)).1 (h' e.2.2.2.2 (by simp)).2
  unfold entB
  simp only [List.length_append, List.length_cons]
  omega
theorem putE_len : ∀ {es : List EntT}, (∀ e ∈ es, entOk e) → (putE es).length ≤ 120 * es.length
  | [], _ => by simp [putE]
  | e :: es, h => by
    have ih := putE_len (es := es) (fun y hy => h y (List.mem_cons_of_mem _ hy))
    have h1 := entB_len (h e (by simp))
    have : putE (e :: es) = entB e ++ putE es := rfl
    rw [this]
    simp only [List.length_append, List.length_cons]
    omega
theorem trim_entB (e : EntT) : trimSuffix (commasB [e.1, e.2.1, e.2.2.1, e.2.2.2.1, e.2.2.2.2]) [44] = itoa e.1 ++ 44 :: (itoa e.2.1 ++ 44 :: (itoa e.2.2.1 ++ 44 :: (itoa e.2.2.2.1 ++ 44 :: itoa e.2.2.2.2))) := by
  have h : commasB [e.1, e.2.1, e.2.2.1, e.2.2.2.1, e.2.2.2.2] = (itoa e.1 ++ 44 :: (itoa e.2.1 ++ 44 :: (itoa e.2.2.1 ++ 44 :: (itoa e.2.2.2.1 ++ 44 :: itoa e.2.2.2.2)))) ++ [44] := by
    unfold commasB; simp
  rw [h]
  generalize itoa e.1 ++ 44 :: (itoa e.2.1 ++ 44 :: (itoa e.2.2.1 ++ 44 :: (itoa e.2.2.2.1 ++ 44 :: itoa e.2.2.2.2))) = l
  have hs : hasSuffix (l ++ [44]) [44] = true := by unfold hasSuffix; simp [List.isSuffixOf_iff_suffix]
  unfold trimSuffix
  rw [if_pos hs]
  simp
theorem ok_flo_nums {g : GameT} (h : okG g) : ∀ x ∈ g.2.1, 0 ≤ x ∧ x < 100 := fun x hx => by have := h.flo x hx; unfold rng at this; omega
theorem ok_las_nums {g : GameT} (h : okG g) : ∀ x ∈ g.2.2, 0 ≤ x ∧ x < 100 := fun x hx => by have := h.las x hx; unfold rng at this; omega
theorem ok_n4 {g : GameT} (h : okG g) : g.1.length ≤ 4 := inc_len h.inc (fun e he => (h.ent e he).1)
theorem putHead_len {g : GameT} (h : okG g) (k : Nat) : ((commasB g.2.1 ++ 47 :: commasB g.2.2) ++ putE (g.1.take k)).length ≤ 1500 := by
  have h1 := commasB_len (ok_flo_nums h)
  have h2 := commasB_len (ok_las_nums h)
  have h3 := putE_len (es := g.1.take k) (fun e he => h.ent e (List.mem_of_mem_take he))
  have h4 := ok_n4 h
  have h5 := h.n16
  have h6 := h.n4
  have h7 : (g.1.take k).length ≤ 4 := by rw [List.length_take]; omega
  rw [List.length_append, List.length_append, List.length_cons]
  omega
theorem putG_len {g : GameT} (h : okG g) : (putG g).length ≤ 1500 := by
  have := putHead_len h g.1.length
  rw [List.take_of_length_le (Nat.le_refl _)] at this
  exact this
theorem ItoaZ_c (x : Int) (h : 0 ≤ x ∧ x < 100) (w : World) : Calls Tryd.prog 76 #[.int .i64 x] w fun e w' => e = .returned (.string (asS (itoa x))) ∧ w' = w := by
  obtain ⟨i, rfl⟩ : ∃ i : Nat, x = (i : Int) := ⟨x.toNat, by omega⟩
  exact ItoaS_c i (by omega) w
theorem Sl.i64o {w : World} {lo hi b off k : Nat} {xs : List Int} (h : Sl encI 1 w lo hi (some ⟨b, off, none⟩) xs) (hk : k < xs.length) : w.cell? ⟨b, off + k, none⟩ = some (.int .i64 xs[k]) := by
  have := h.at_ hk 0 _ rfl
  simpa using this
set_option maxRecDepth 100000 in
set_option maxHeartbeats 2000000 in
theorem commas_c (A : Option Addr) (n c lo hi : Nat) (xs : List Int) (w : World) (hn : n = xs.length) (hb : n ≤ 100) (hs : Sl encI 1 w lo hi A xs) (hhi : hi ≤ w.heap.size) (hx : ∀ x ∈ xs, 0 ≤ x ∧ x < 100) :
    Calls Tryd.prog 45 #[.slice A n c] w fun e w' => e = .returned (.string (asS (commasB xs))) ∧ Below w.heap.size w w' := by
  have hn' := hide hn
  clear hn
  have hA := (Below.refl w.heap.size w).alloc (Nat.le_refl _) (.cells #[.pointer none, .slice none 0 0] 109)
  have hF : IsBuilderF 109 5 w.heap.size w.heap.size (Go.Lib.byteCells (commasB (xs.take 0))) (w.alloc (.cells #[.pointer none, .slice none 0 0] 109)) := IsBuilderF.of (fresh_isBuilder _ _ w)
  have hlw : w.heap.size < (w.alloc (.cells #[.pointer none, .slice none 0 0] 109)).heap.size := by simp
  go_enter Tryd.func45, Tryd.ntmps45
  go_wp2
  generalize w.alloc (.cells #[.pointer none, .slice none 0 0] 109) = wa at *
  go_loopw [8] (fun i wr => ∃ k : Nat, k ≤ n ∧ i = .int .i64 k ∧ IsBuilderF 109 5 w.heap.size w.heap.size (Go.Lib.byteCells (commasB (xs.take k))) wr ∧ w.heap.size < wr.heap.size ∧ Below w.heap.size w wr) (fun i _ => n - (intOf i).toNat)
  case atStart => exact ⟨0, Nat.zero_le _, rfl, hF, hlw, hA⟩
  case round =>
    obtain ⟨k, hk, rfl, hbu, hzb, hbr⟩ := hrel
    have hzr := hbr.size
    by_cases hlt : k < n
    · have hlx : k < xs.length := by have := hn'.out; omega
      obtain ⟨b, off, rfl, hlo, hbh⟩ := hs.addr hlx
      have a0 := (hs.below hbr hhi).i64o hlx
      have hxk := hx _ (List.getElem_mem hlx)
      have hI := itoa_sm hxk.1 hxk.2
      rw [← asS_size] at hI
      have z1 : ¬ 9223372036854775807 < (asS (itoa xs[k])).size + 1 := by omega
      have hcells : Hid (Go.Lib.byteCells (commasB (xs.take k)) ++ strCells (asS (itoa xs[k]) ++ asS [44]) = Go.Lib.byteCells (commasB (xs.take (k + 1)))) := hide (by
        rw [asS_app, commasB_take xs k hlx, Go.Lib.byteCells_append]
        rfl)
      have hW := hide (fun (W : World) (h : IsBuilderF 109 5 w.heap.size w.heap.size (Go.Lib.byteCells (commasB (xs.take k))) W) (hle : w.heap.size ≤ W.heap.size) => Builder_WriteString w.heap.size w.heap.size _ (asS (itoa xs[k]) ++ asS [44]) W h (by
        rw [asS_app, Go.Lib.byteCells_length, asS_size]
        have h1 := commasB_len (xs := xs.take k) (fun x hx' => hx x (List.mem_of_mem_take hx'))
        rw [asS_size] at hI
        rw [List.length_take] at h1
        simp only [List.length_append, List.length_cons, List.length_nil]
        omega) hle)
      clear hI
      go_wp2_with fail
      refine (ItoaZ_c xs[k] hxk wr).mono ?_
      rintro e w1 ⟨rfl, rfl⟩
      go_wp2_with fail
      refine (hW.out w1 hbu hzr).mono ?_
      rintro e w5 ⟨rfl, hbu5, hb5, hk5⟩
      rw [hcells.out] at hbu5
      go_wp2
      go_roundw
      case rel => exact ⟨k + 1, by omega, by go_num, .inr hbu5, hbu5.lt, hbr.trans hb5⟩
      case measure => simp [intOf]; omega
    · obtain rfl : k = n := by omega
      have hq : Hid (asS (commasB (xs.take k)) = asS (commasB xs)) := hide (by rw [List.take_of_length_le (by have := hn'.out; omega)])
      go_wp2_with fail
      refine (Builder_String_any w.heap.size w.heap.size _ _ hbu hzr).mono ?_
      rintro e w5 ⟨rfl, _, hb5, _⟩
      go_wp2
      go_ret
      exact ⟨congrArg (fun v => Ending.returned (.string v)) hq.out, hbr.trans hb5⟩
/-- What is behind the slash in a figure's text. -/
def tailB (e : EntT) : List UInt8 := itoa e.1 ++ 44 :: (itoa e.2.1 ++ 44 :: (itoa e.2.2.1 ++ 44 :: (itoa e.2.2.2.1 ++ 44 :: itoa e.2.2.2.2)))
theorem tailB_len {e : EntT} (h : entOk e) : (tailB e).length ≤ 120 := by have := entB_len h; unfold entB at this; unfold tailB; simp only [List.length_cons] at this; omega
theorem commasE_len {e : EntT} (h : entOk e) : (commasB [e.1, e.2.1, e.2.2.1, e.2.2.2.1, e.2.2.2.2]).length ≤ 110 := by have := commasB_len (ent_nums h); simpa using this
theorem Trim_c (e : EntT) (h : entOk e) (w : World) : Calls Tryd.prog 46 #[.string (asS (commasB [e.1, e.2.1, e.2.2.1, e.2.2.2.1, e.2.2.2.2])), .string (asS [44])] w fun r w' => r = .returned (.string (asS (tailB e))) ∧ w' = w := by
  refine (strings_TrimSuffix _ _ w (by rw [asS_size]; have := commasE_len h; omega)).mono ?_
  rintro r w' ⟨rfl, rfl⟩
  rw [asS_list, asS_list, trim_entB]
  exact ⟨rfl, rfl⟩
theorem impl_ent (O : List UInt8) (e : EntT) : asS O ++ (asS [47] ++ asS (tailB e)) = asS (O ++ entB e) := by
  rw [asS_app, asS_app]; rfl
theorem head_text (F L : List UInt8) : (asS F ++ asS [47]) ++ asS L = asS (F ++ 47 :: L) := by
  rw [asS_app, asS_app, List.append_assoc]; rfl
theorem spec_ent (O : List UInt8) (e : EntT) : (((((((((asS O ++ asS [47]) ++ asS (itoa e.1)) ++ asS [44]) ++ asS (itoa e.2.1)) ++ asS [44]) ++ asS (itoa e.2.2.1)) ++ asS [44]) ++ asS (itoa e.2.2.2.1)) ++ asS [44]) ++ asS (itoa e.2.2.2.2) = asS (O ++ entB e) := by
  simp only [asS_app]
  unfold entB
  simp
theorem spec_num (O : List UInt8) (x : Int) : (asS O ++ asS (itoa x)) ++ asS [44] = asS (O ++ (itoa x ++ [44])) := by
  rw [asS_app, asS_app, List.append_assoc]
set_option maxRecDepth 100000 in
set_option maxHeartbeats 4000000 in
theorem GamePut_c (A : Option Addr) (n c : Nat) (B : Option Addr) (p d : Nat) (E : Option Addr) (q f : Nat) (D : Nat → Prop) (g : GameT) (w : World) (hg : GmD w D A n c B p d E q f g) (hD : ∀ b, D b → b < w.heap.size) (hok : okG g) :
    Calls Tryd.prog 17 #[.agg #[.slice A n c, .slice B p d, .slice E q f]] w fun e w' => e = .returned (.string (asS (putG g))) ∧ Below w.heap.size w w' := by
  have hA0 := (Below.refl w.heap.size w).alloc (Nat.le_refl _) (.cells #[.slice A n c, .slice B p d, .slice E q f] 35)
  have hx0 := Bx3.made w (.slice A n c) (.slice B p d) (.slice E q f) 35
  have hx0h := hide hx0
  have hgh := hide hg
  have hokh := hide hok
  have hn' := hide hg.en.len
  have hp' : Hid (p = 16) := hide (by have h1 := hg.fl.len; have h2 := hok.n16; omega)
  have hq' : Hid (q = 4) := hide (by have h1 := hg.la.len; have h2 := hok.n4; omega)
  have hn4 : n ≤ 4 := by have h3 := ok_n4 hok; have := hn'.out; omega
  have hp16 : p ≤ 16 := by have := hp'.out; omega
  have hq4 : q ≤ 4 := by have := hq'.out; omega
  have hfn := hide (ok_flo_nums hok)
  have hln := hide (ok_las_nums hok)
  clear hx0 hg hok
  go_enter Tryd.func17, Tryd.ntmps17
  go_wp2_with fail
  generalize w.alloc (.cells #[.slice A n c, .slice B p d, .slice E q f] 35) = w1 at *
  refine (GameOk_c A n c B p d E q f D g w1 (hgh.out.below hA0 hD) (fun b hb => Nat.lt_of_lt_of_le (hD b hb) hA0.size) hokh.out).mono ?_
  rintro e w2 ⟨rfl, hb2⟩
  have hz1 := hA0.size
  have hz2 := hb2.size
  have hg2 := hide ((hgh.out.below hA0 hD).below hb2 (fun b hb => by have := hD b hb; omega))
  have hx2 := hx0h.out.below hb2 hx0h.out.lt
  have hB2 := hA0.trans (hb2.mono hz1)
  obtain ⟨xx0, xx1, xx2, -, -, -⟩ := hx2.cells
  have hlx2 := hx2.lt
  have hsF : (asS (commasB g.2.1)).size ≤ 500 := by rw [asS_size]; have := commasB_len hfn.out; have := hokh.out.n16; omega
  have hsL : (asS (commasB g.2.2)).size ≤ 100 := by rw [asS_size]; have := commasB_len hln.out; have := hokh.out.n4; omega
  have z1 : ¬ 9223372036854775807 < (asS (commasB g.2.1)).size + 1 := by omega
  have z2 : ¬ 9223372036854775807 < (asS (commasB g.2.1)).size + 1 + (asS (commasB g.2.2)).size := by omega
  clear hsF hsL
  go_wp2
  refine wp_region_T (SinceB (w2.heap.size) _) [35] [] [14, 12] [0, 1, 4, 5, 2, 3, 6, 7, 8] (by kernel_rfl) (by kernel_rfl) (by kernel_rfl) (SinceB.drew _ _) ?_; simp only [pickL, List.getElem?_cons_succ, List.getElem?_cons_zero]
  go_wp2_with (first
    | (go_at_call 45; have hq := hb3; refine (commas_c E q f 0 w.heap.size g.2.2 _ hg2.out.la.len (by have := hq'.out; omega) ((hg2.out.la.sl hD).below (B := w2.heap.size) hb3 (by omega)) (by omega) hln.out).mono ?_; rintro e w4 ⟨rfl, hb4'⟩; have hb4 : Below w2.heap.size w2 w4 := Below.appR hb3 hb4'; have hz4 := hb4.size; have hS4 : SinceB (w2.heap.size) w2 w4 := (SinceB.refl _ _).below hb4 (Nat.le_refl _); have hx4 := hx2.below hb4 hlx2; clear xx0 xx1 xx2; obtain ⟨xx0, xx1, xx2, -, -, -⟩ := hx4.cells; have hK := hK)
    | (go_at_call 45; refine (commas_c B p d 0 w.heap.size g.2.1 _ hg2.out.fl.len (by have := hp'.out; omega) ((hg2.out.fl.sl hD).below (B := w2.heap.size) (Below.drew (Below.refl _ _)) (by omega)) (by simp only [World.size_drew]; omega) hfn.out).mono ?_; rintro e w3 ⟨rfl, hb3'⟩; have hb3 : Below w2.heap.size w2 w3 := Below.appR (Below.drew (Below.refl _ _)) hb3'; have hz3 := hb3.size; have hS3 : SinceB (w2.heap.size) w2 w3 := (SinceB.refl _ _).below hb3 (Nat.le_refl _); have hK := hK)
    | (with_reducible refine SinceB.and_ ?_ ?_; (focus (repeat (first | (with_reducible exact SinceB.refl _ _) | (with_reducible assumption) | (with_reducible refine SinceB.drewR ?_) | ((with_reducible refine SinceB.alloc ?_ ?_ _); rotate_left; (focus (first | (with_reducible assumption) | (simp; done) | (simp; omega) | omega))) | ((with_reducible refine SinceB.set ?_ ?_ _); rotate_left; (focus (first | omega | (simp; done) | (simp; omega))))))); intro hS) | ((with_reducible refine wpT_noL ?_ ?_); (focus (first | exact wanted_no _ _ _ rfl rfl rfl | exact wanted_un _ _ _ rfl rfl rfl)); simp only [setO, List.set_cons_succ, List.set_cons_zero]) | ((with_reducible refine wpT_q0 ?_ ?_ ?_ ?_); (focus rfl); (focus rfl); (focus rfl); intro K hK) | ((with_reducible refine wpT_i ?_ ?_); (focus (refine ⟨_, _, _, _, _, _, _, _, rfl, rfl, rfl, rfl, rfl, ?_⟩; omega)); intro K hK) | ((with_reducible refine wpT_bs ?_ ?_); (focus (exact ⟨_, _, _, _, _, _, rfl, rfl, rfl, rfl, rfl⟩)); intro K hK) | ((with_reducible apply wpT_lB); (focus rfl); (focus rfl); (focus rfl); (focus rfl); (focus (first | exact SinceB.drew _ _ | (with_reducible assumption))); (focus (simp <;> omega)); (focus go_simp); intro K hK) | ((with_reducible apply wpT_lwB); (focus exact wanted_yes _ _ _ rfl rfl rfl); (focus rfl); (focus rfl); (focus rfl); (focus (first | exact SinceB.drew _ _ | (with_reducible assumption))); (focus (simp <;> omega)); (focus go_simp); intro K hK) | ((with_reducible refine wpT_xs0 ?_ ?_ ?_); (focus rfl); (focus rfl); intro K hK) | ((with_reducible refine wpT_q1 ?_ ?_ ?_ ?_); (focus exact wanted_yes _ _ _ rfl rfl rfl); (focus rfl); (focus rfl); intro K hK) | ((with_reducible refine wpT_xs1 ?_ ?_ ?_); (focus exact wanted_yes _ _ _ rfl rfl rfl); (focus rfl); intro K hK) | ((with_reducible refine wpT_nil ?_); try dsimp only)
    | fail)
  have hB4 := hB2.trans (hb4.mono (by omega))
  have hg4 := hide (hg2.out.below hb4 (fun b hb => by have := hD b hb; omega))
  have hT0 := hide (head_text (commasB g.2.1) (commasB g.2.2))
  go_loopw [20, 3] (fun i sv wr => ∃ k : Nat, k ≤ n ∧ i = .int .i64 (k : Int) ∧ sv = .string (asS ((commasB g.2.1 ++ 47 :: commasB g.2.2) ++ putE (g.1.take k))) ∧ Below w4.heap.size w4 wr) (fun i _ _ => n - (intOf i).toNat)
  case atStart => exact ⟨0, Nat.zero_le _, rfl, congrArg Value.string (by rw [List.take_zero]; show (asS (commasB g.2.1) ++ asS [47]) ++ asS (commasB g.2.2) = _; rw [hT0.out]; simp [putE]), Below.refl _ _⟩
  case round =>
    obtain ⟨k, hk, rfl, rfl, hbr⟩ := hrel
    have hzr := hbr.size
    by_cases hlt : k < n
    · have hlx : k < g.1.length := by have := hn'.out; omega
      have hgr := hg4.out.below hbr (fun b hb => by have := hD b hb; omega)
      obtain ⟨b, off, rfl, hDb⟩ := hgr.en.addr hlx
      obtain ⟨a0, a1, a2, a3, a4⟩ := hgr.en.ent hlx
      have hbw := hD b hDb
      have hbr' : b < wr.heap.size := by omega
      have hent := hide (hokh.out.ent _ (List.getElem_mem hlx))
      have hsO : (asS ((commasB g.2.1 ++ 47 :: commasB g.2.2) ++ putE (g.1.take k))).size ≤ 1500 := by rw [asS_size]; exact putHead_len hokh.out k
      have hsT : (asS (tailB g.1[k])).size ≤ 120 := by rw [asS_size]; exact tailB_len hent.out
      have z3 : ¬ 9223372036854775807 < 1 + (asS (tailB g.1[k])).size := by omega
      have z4 : ¬ 9223372036854775807 < (asS ((commasB g.2.1 ++ 47 :: commasB g.2.2) ++ putE (g.1.take k))).size + (1 + (asS (tailB g.1[k])).size) := by omega
      have hnx : Hid (asS ((commasB g.2.1 ++ 47 :: commasB g.2.2) ++ putE (g.1.take k)) ++ (asS [47] ++ asS (tailB g.1[k])) = asS ((commasB g.2.1 ++ 47 :: commasB g.2.2) ++ putE (g.1.take (k + 1)))) := hide (by rw [impl_ent, putE_take _ _ hlx, ← List.append_assoc])
      clear hgr hsO hsT
      generalize (commasB g.2.1 ++ 47 :: commasB g.2.2) ++ putE (g.1.take k) = O at *
      have hsl := sl_arr encI_len (wr.alloc (.cells #[.int .i64 g.1[k].1, .int .i64 g.1[k].2.1, .int .i64 g.1[k].2.2.1, .int .i64 g.1[k].2.2.2.1, .int .i64 g.1[k].2.2.2.2] 82)) #[.int .i64 g.1[k].1, .int .i64 g.1[k].2.1, .int .i64 g.1[k].2.2.1, .int .i64 g.1[k].2.2.2.1, .int .i64 g.1[k].2.2.2.2] 3 [g.1[k].1, g.1[k].2.1, g.1[k].2.2.1, g.1[k].2.2.2.1, g.1[k].2.2.2.2] rfl
      rw [World.size_alloc] at hsl
      have hslh := hide hsl
      clear hsl
      go_wp2_with fail
      refine (commas_c (some ⟨wr.heap.size + 1, 0, none⟩) 5 5 _ _ [g.1[k].1, g.1[k].2.1, g.1[k].2.2.1, g.1[k].2.2.2.1, g.1[k].2.2.2.2] ((wr.alloc (.cells #[.int .i64 g.1[k].1, .int .i64 g.1[k].2.1, .int .i64 g.1[k].2.2.1, .int .i64 g.1[k].2.2.2.1, .int .i64 g.1[k].2.2.2.2] 82)).alloc (.cells #[.int .i64 g.1[k].1, .int .i64 g.1[k].2.1, .int .i64 g.1[k].2.2.1, .int .i64 g.1[k].2.2.2.1, .int .i64 g.1[k].2.2.2.2] 3)) rfl (by omega) hslh.out (by simp) (ent_nums hent.out)).mono ?_
      rintro e w5 ⟨rfl, hb5⟩
      have hw5 : Below wr.heap.size wr w5 := Below.appR (((Below.refl _ _).alloc (Nat.le_refl _) _).alloc (by simp) _) hb5
      clear hb5
      go_wp2_with fail
      refine (Trim_c g.1[k] hent.out w5).mono ?_
      rintro e w6 ⟨rfl, rfl⟩
      go_wp2
      go_roundw
      case rel => exact ⟨k + 1, by omega, by go_num, congrArg Value.string hnx.out, hbr.trans (hw5.mono hzr)⟩
      case measure => simp [intOf]; omega
    · obtain rfl : k = n := by omega
      have hq : Hid (asS ((commasB g.2.1 ++ 47 :: commasB g.2.2) ++ putE (g.1.take k)) = asS (putG g)) := hide (by rw [List.take_of_length_le (by have := hn'.out; omega)]; rfl)
      go_wp2
      go_ret
      exact ⟨congrArg (fun v => Ending.returned (.string v)) hq.out, hB4.trans (hbr.mono (by omega))⟩
set_option maxRecDepth 100000 in
set_option maxHeartbeats 4000000 in
theorem l2Put_c (A : Option Addr) (n c : Nat) (B : Option Addr) (p d : Nat) (E : Option Addr) (q f : Nat) (D : Nat → Prop) (g : GameT) (w : World) (hg : GmD w D A n c B p d E q f g) (hD : ∀ b, D b → b < w.heap.size) (hok : okG g) :
    Calls Tryd.prog 26 #[.agg #[.slice A n c, .slice B p d, .slice E q f]] w fun e w' => e = .returned (.string (asS (putG g))) ∧ Below w.heap.size w w' := by
  have hA0 := (Below.refl w.heap.size w).alloc (Nat.le_refl _) (.cells #[.slice A n c, .slice B p d, .slice E q f] 35)
  have hx0 := Bx3.made w (.slice A n c) (.slice B p d) (.slice E q f) 35
  have hx0h := hide hx0
  have hgh := hide hg
  have hokh := hide hok
  have hn' := hide hg.en.len
  have hp' : Hid (p = 16) := hide (by have h1 := hg.fl.len; have h2 := hok.n16; omega)
  have hq' : Hid (q = 4) := hide (by have h1 := hg.la.len; have h2 := hok.n4; omega)
  have hn4 : n ≤ 4 := by have h3 := ok_n4 hok; have := hn'.out; omega
  have hp16 : p ≤ 16 := by have := hp'.out; omega
  have hq4 : q ≤ 4 := by have := hq'.out; omega
  have hfn := hide (ok_flo_nums hok)
  have hln := hide (ok_las_nums hok)
  clear hx0 hg hok
  go_enter Tryd.func26, Tryd.ntmps26
  go_wp2
  generalize w.alloc (.cells #[.slice A n c, .slice B p d, .slice E q f] 35) = w1 at *
  have hz1 := hA0.size
  have hg1 := hide (hgh.out.below hA0 hD)
  have hlx1 := hx0h.out.lt
  go_loopw [4, 3] (fun i sv wr => ∃ k : Nat, k ≤ p ∧ i = .int .i64 (k : Int) ∧ sv = .string (asS (commasB (g.2.1.take k))) ∧ Below w1.heap.size w1 wr) (fun i _ _ => p - (intOf i).toNat)
  case atStart => exact ⟨0, Nat.zero_le _, rfl, rfl, Below.refl _ _⟩
  case round =>
    obtain ⟨k, hk, rfl, rfl, hbr⟩ := hrel
    have hzr := hbr.size
    have hxr := hx0h.out.below hbr hx0h.out.lt
    obtain ⟨xx0, xx1, xx2, -, -, -⟩ := hxr.cells
    have hlxr := hxr.lt
    have hgr := hg1.out.below hbr (fun b hb => by have := hD b hb; omega)
    by_cases hlt : k < p
    · have hlx : k < g.2.1.length := by rw [hokh.out.n16]; have := hp'.out; omega
      obtain ⟨b, off, rfl, hDb⟩ := hgr.fl.addr hlx
      have a0 := hgr.fl.i64 hlx
      have hxk := hfn.out _ (List.getElem_mem hlx)
      have hI := itoa_sm hxk.1 hxk.2
      rw [← asS_size] at hI
      have hO : (asS (commasB (g.2.1.take k))).size ≤ 500 := by
        rw [asS_size]
        have h1 := commasB_len (xs := g.2.1.take k) (fun x hx' => hfn.out x (List.mem_of_mem_take hx'))
        rw [List.length_take] at h1
        have := hp'.out; omega
      have z1 : ¬ 9223372036854775807 < (asS (commasB (g.2.1.take k))).size + (asS (itoa g.2.1[k])).size := by omega
      have z2 : ¬ 9223372036854775807 < (asS (commasB (g.2.1.take k))).size + (asS (itoa g.2.1[k])).size + 1 := by omega
      have hnx : Hid ((asS (commasB (g.2.1.take k)) ++ asS (itoa g.2.1[k])) ++ asS [44] = asS (commasB (g.2.1.take (k + 1)))) := hide (by rw [spec_num, commasB_take _ _ hlx])
      clear hI hO hgr
      generalize commasB (g.2.1.take k) = O at *
      go_wp2_with fail
      refine (l1Dec_c g.2.1[k] (by omega) (by omega) wr).mono ?_
      rintro e w5 ⟨rfl, hb5⟩
      go_wp2
      go_roundw
      case rel => exact ⟨k + 1, by omega, by go_num, congrArg Value.string hnx.out, hbr.trans (hb5.mono hzr)⟩
      case measure => simp [intOf]; omega
    · obtain rfl : k = p := by omega
      have hF : Hid (commasB (g.2.1.take k) = commasB g.2.1) := hide (by rw [List.take_of_length_le (by rw [hokh.out.n16]; have := hp'.out; omega)])
      rw [hF.out]
      have hsF : (asS (commasB g.2.1)).size ≤ 500 := by rw [asS_size]; have := commasB_len hfn.out; have := hokh.out.n16; omega
      have z1 : ¬ 9223372036854775807 < (asS (commasB g.2.1)).size + 1 := by omega
      clear hgr
      go_wp2
      have hB1 := hA0.trans (hbr.mono hz1)
      have hg2 := hide (hg1.out.below hbr (fun b hb => by have := hD b hb; omega))
      have hx2 := hide hxr
      clear xx0 xx1 xx2 hxr
      generalize wr = v0 at *
      go_loopw [5, 3] (fun i sv ws => ∃ j : Nat, j ≤ q ∧ i = .int .i64 (j : Int) ∧ sv = .string (asS (commasB g.2.1 ++ 47 :: commasB (g.2.2.take j))) ∧ Below v0.heap.size v0 ws) (fun i _ _ => q - (intOf i).toNat)
      case atStart => exact ⟨0, Nat.zero_le _, rfl, congrArg Value.string (by rw [List.take_zero]; show asS (commasB g.2.1) ++ asS [47] = _; rw [asS_app]; rfl), Below.refl _ _⟩
      case round =>
        obtain ⟨j, hj, rfl, rfl, hbs⟩ := hrel
        have hzs := hbs.size
        have hxs := hx2.out.below hbs hx2.out.lt
        obtain ⟨xx0, xx1, xx2, -, -, -⟩ := hxs.cells
        have hlxs := hxs.lt
        have hgs := hg2.out.below hbs (fun b hb => by have := hD b hb; omega)
        by_cases hlt2 : j < q
        · have hlx : j < g.2.2.length := by rw [hokh.out.n4]; have := hq'.out; omega
          obtain ⟨b, off, rfl, hDb⟩ := hgs.la.addr hlx
          have a0 := hgs.la.i64 hlx
          have hxk := hln.out _ (List.getElem_mem hlx)
          have hI := itoa_sm hxk.1 hxk.2
          rw [← asS_size] at hI
          have hO : (asS (commasB g.2.1 ++ 47 :: commasB (g.2.2.take j))).size ≤ 1500 := by
            rw [asS_size, List.length_append, List.length_cons]
            have h0 := commasB_len hfn.out
            have h1 := commasB_len (xs := g.2.2.take j) (fun x hx' => hln.out x (List.mem_of_mem_take hx'))
            rw [List.length_take] at h1
            have := hokh.out.n16
            have := hq'.out; omega
          have z3 : ¬ 9223372036854775807 < (asS (commasB g.2.1 ++ 47 :: commasB (g.2.2.take j))).size + (asS (itoa g.2.2[j])).size := by omega
          have z4 : ¬ 9223372036854775807 < (asS (commasB g.2.1 ++ 47 :: commasB (g.2.2.take j))).size + (asS (itoa g.2.2[j])).size + 1 := by omega
          have hnx : Hid ((asS (commasB g.2.1 ++ 47 :: commasB (g.2.2.take j)) ++ asS (itoa g.2.2[j])) ++ asS [44] = asS (commasB g.2.1 ++ 47 :: commasB (g.2.2.take (j + 1)))) := hide (by rw [spec_num, commasB_take _ _ hlx, List.append_assoc]; rfl)
          clear hI hO hgs
          generalize commasB g.2.1 ++ 47 :: commasB (g.2.2.take j) = O at *
          go_wp2_with fail
          refine (l1Dec_c g.2.2[j] (by omega) (by omega) wr).mono ?_
          rintro e w5 ⟨rfl, hb5⟩
          go_wp2
          go_roundw
          case rel => exact ⟨j + 1, by omega, by go_num, congrArg Value.string hnx.out, hbs.trans (hb5.mono hzs)⟩
          case measure => simp [intOf]; omega
        · obtain rfl : j = q := by omega
          have hL : Hid (commasB (g.2.2.take j) = commasB g.2.2) := hide (by rw [List.take_of_length_le (by rw [hokh.out.n4]; have := hq'.out; omega)])
          rw [hL.out]
          go_wp2
          have hB3 := hB1.trans (hbs.mono (by omega))
          have hg3 := hide hgs
          have hx3 := hide hxs
          clear xx0 xx1 xx2 hgs hxs z1
          generalize wr = v2 at *
          go_loopw [6, 3] (fun i sv ws => ∃ k : Nat, k ≤ n ∧ i = .int .i64 (k : Int) ∧ sv = .string (asS ((commasB g.2.1 ++ 47 :: commasB g.2.2) ++ putE (g.1.take k))) ∧ Below v2.heap.size v2 ws) (fun i _ _ => n - (intOf i).toNat)
          case atStart => exact ⟨0, Nat.zero_le _, rfl, by rw [List.take_zero]; simp [putE], Below.refl _ _⟩
          case round =>
            obtain ⟨k, hk, rfl, rfl, hbt⟩ := hrel
            have hzt := hbt.size
            have hxt := hx3.out.below hbt hx3.out.lt
            obtain ⟨xx0, xx1, xx2, -, -, -⟩ := hxt.cells
            have hlxt := hxt.lt
            have hgt := hg3.out.below hbt (fun b hb => by have := hD b hb; omega)
            by_cases hlt3 : k < n
            · have hlx : k < g.1.length := by have := hn'.out; omega
              obtain ⟨b, off, rfl, hDb⟩ := hgt.en.addr hlx
              obtain ⟨a0, a1, a2, a3, a4⟩ := hgt.en.ent hlx
              have hbw := hD b hDb
              have hbr' : b < wr.heap.size := by omega
              have hent := hokh.out.ent _ (List.getElem_mem hlx)
              have hnm := ent_nums hent
              have s0 := itoa_sm (hnm g.1[k].1 (by simp)).1 (hnm g.1[k].1 (by simp)).2
              have s1 := itoa_sm (hnm g.1[k].2.1 (by simp)).1 (hnm g.1[k].2.1 (by simp)).2
              have s2 := itoa_sm (hnm g.1[k].2.2.1 (by simp)).1 (hnm g.1[k].2.2.1 (by simp)).2
              have s3 := itoa_sm (hnm g.1[k].2.2.2.1 (by simp)).1 (hnm g.1[k].2.2.2.1 (by simp)).2
              have s4 := itoa_sm (hnm g.1[k].2.2.2.2 (by simp)).1 (hnm g.1[k].2.2.2.2 (by simp)).2
              rw [← asS_size] at s0 s1 s2 s3 s4
              unfold entOk rng at hent
              have hsO : (asS ((commasB g.2.1 ++ 47 :: commasB g.2.2) ++ putE (g.1.take k))).size ≤ 1500 := by rw [asS_size]; exact putHead_len hokh.out k
              have hnx : Hid ((((((((((asS ((commasB g.2.1 ++ 47 :: commasB g.2.2) ++ putE (g.1.take k)) ++ asS [47]) ++ asS (itoa g.1[k].1)) ++ asS [44]) ++ asS (itoa g.1[k].2.1)) ++ asS [44]) ++ asS (itoa g.1[k].2.2.1)) ++ asS [44]) ++ asS (itoa g.1[k].2.2.2.1)) ++ asS [44]) ++ asS (itoa g.1[k].2.2.2.2) = asS ((commasB g.2.1 ++ 47 :: commasB g.2.2) ++ putE (g.1.take (k + 1)))) := hide (by rw [spec_ent, putE_take _ _ hlx, ← List.append_assoc])
              clear hgt hnm
              generalize (commasB g.2.1 ++ 47 :: commasB g.2.2) ++ putE (g.1.take k) = O at *
              have y0_ : ¬ 9223372036854775807 < (asS O).size + 1 := by omega
              have y1_ : ¬ 9223372036854775807 < (asS O).size + 1 + (asS (itoa g.1[k].1)).size := by omega
              have y2_ : ¬ 9223372036854775807 < (asS O).size + 1 + (asS (itoa g.1[k].1)).size + 1 := by omega
              have y3_ : ¬ 9223372036854775807 < (asS O).size + 1 + (asS (itoa g.1[k].1)).size + 1 + (asS (itoa g.1[k].2.1)).size := by omega
              have y4_ : ¬ 9223372036854775807 < (asS O).size + 1 + (asS (itoa g.1[k].1)).size + 1 + (asS (itoa g.1[k].2.1)).size + 1 := by omega
              have y5_ : ¬ 9223372036854775807 < (asS O).size + 1 + (asS (itoa g.1[k].1)).size + 1 + (asS (itoa g.1[k].2.1)).size + 1 + (asS (itoa g.1[k].2.2.1)).size := by omega
              have y6_ : ¬ 9223372036854775807 < (asS O).size + 1 + (asS (itoa g.1[k].1)).size + 1 + (asS (itoa g.1[k].2.1)).size + 1 + (asS (itoa g.1[k].2.2.1)).size + 1 := by omega
              have y7_ : ¬ 9223372036854775807 < (asS O).size + 1 + (asS (itoa g.1[k].1)).size + 1 + (asS (itoa g.1[k].2.1)).size + 1 + (asS (itoa g.1[k].2.2.1)).size + 1 + (asS (itoa g.1[k].2.2.2.1)).size := by omega
              have y8_ : ¬ 9223372036854775807 < (asS O).size + 1 + (asS (itoa g.1[k].1)).size + 1 + (asS (itoa g.1[k].2.1)).size + 1 + (asS (itoa g.1[k].2.2.1)).size + 1 + (asS (itoa g.1[k].2.2.2.1)).size + 1 := by omega
              have y9_ : ¬ 9223372036854775807 < (asS O).size + 1 + (asS (itoa g.1[k].1)).size + 1 + (asS (itoa g.1[k].2.1)).size + 1 + (asS (itoa g.1[k].2.2.1)).size + 1 + (asS (itoa g.1[k].2.2.2.1)).size + 1 + (asS (itoa g.1[k].2.2.2.2)).size := by omega
              clear s0 s1 s2 s3 s4 hsO
              have hAe := (Below.refl wr.heap.size wr).alloc (Nat.le_refl _) (.cells #[.int .i64 g.1[k].1, .int .i64 g.1[k].2.1, .int .i64 g.1[k].2.2.1, .int .i64 g.1[k].2.2.2.1, .int .i64 g.1[k].2.2.2.2] 82)
              have y0 : (wr.alloc (.cells #[.int .i64 g.1[k].1, .int .i64 g.1[k].2.1, .int .i64 g.1[k].2.2.1, .int .i64 g.1[k].2.2.2.1, .int .i64 g.1[k].2.2.2.2] 82)).cell? ⟨wr.heap.size, 0, none⟩ = some (.int .i64 g.1[k].1) := by simp
              have y1 : (wr.alloc (.cells #[.int .i64 g.1[k].1, .int .i64 g.1[k].2.1, .int .i64 g.1[k].2.2.1, .int .i64 g.1[k].2.2.2.1, .int .i64 g.1[k].2.2.2.2] 82)).cell? ⟨wr.heap.size, 1, none⟩ = some (.int .i64 g.1[k].2.1) := by simp
              have y2 : (wr.alloc (.cells #[.int .i64 g.1[k].1, .int .i64 g.1[k].2.1, .int .i64 g.1[k].2.2.1, .int .i64 g.1[k].2.2.2.1, .int .i64 g.1[k].2.2.2.2] 82)).cell? ⟨wr.heap.size, 2, none⟩ = some (.int .i64 g.1[k].2.2.1) := by simp
              have y3 : (wr.alloc (.cells #[.int .i64 g.1[k].1, .int .i64 g.1[k].2.1, .int .i64 g.1[k].2.2.1, .int .i64 g.1[k].2.2.2.1, .int .i64 g.1[k].2.2.2.2] 82)).cell? ⟨wr.heap.size, 3, none⟩ = some (.int .i64 g.1[k].2.2.2.1) := by simp
              have y4 : (wr.alloc (.cells #[.int .i64 g.1[k].1, .int .i64 g.1[k].2.1, .int .i64 g.1[k].2.2.1, .int .i64 g.1[k].2.2.2.1, .int .i64 g.1[k].2.2.2.2] 82)).cell? ⟨wr.heap.size, 4, none⟩ = some (.int .i64 g.1[k].2.2.2.2) := by simp
              have hlb : wr.heap.size < (wr.alloc (.cells #[.int .i64 g.1[k].1, .int .i64 g.1[k].2.1, .int .i64 g.1[k].2.2.1, .int .i64 g.1[k].2.2.2.1, .int .i64 g.1[k].2.2.2.2] 82)).heap.size := by simp
              go_wp2
              clear a0 a1 a2 a3 a4
              generalize wr.alloc (.cells #[.int .i64 g.1[k].1, .int .i64 g.1[k].2.1, .int .i64 g.1[k].2.2.1, .int .i64 g.1[k].2.2.2.1, .int .i64 g.1[k].2.2.2.2] 82) = v1 at *
              have hb10 : Below v1.heap.size v1 v1.drew := (Below.refl _ _).drew
              refine wp_region_T (SinceB (v1.heap.size) _) [82] [] [55, 62, 67, 72, 77, 59, 60, 64, 65, 69, 70, 74, 75] [0, 1, 2, 3, 7, 8, 12, 13, 17, 18, 22, 23, 4, 5, 6, 9, 10, 11, 14, 15, 16, 19, 20, 21, 24, 25, 26] (by kernel_rfl) (by kernel_rfl) (by kernel_rfl) (SinceB.drew _ _) ?_; simp only [pickL, List.getElem?_cons_succ, List.getElem?_cons_zero]
              go_wp2_with (first
                | (go_at_call 52; have hq := hb14; refine (l1Dec_c g.1[k].2.2.2.2 (by omega) (by omega) _).mono ?_; rintro e w15 ⟨rfl, hc15⟩; have hb15 : Below v1.heap.size v1 w15 := Below.appR hb14 hc15; have hz15 := hb15.size; have hS15 : SinceB (v1.heap.size) v1 w15 := (SinceB.refl _ _).below hb15 (Nat.le_refl _); have hK := hK)
                | (go_at_call 52; have hq := hb13; refine (l1Dec_c g.1[k].2.2.2.1 (by omega) (by omega) _).mono ?_; rintro e w14 ⟨rfl, hc14⟩; have hb14 : Below v1.heap.size v1 w14 := Below.appR hb13 hc14; have hz14 := hb14.size; have hS14 : SinceB (v1.heap.size) v1 w14 := (SinceB.refl _ _).below hb14 (Nat.le_refl _); have hK := hK)
                | (go_at_call 52; have hq := hb12; refine (l1Dec_c g.1[k].2.2.1 (by omega) (by omega) _).mono ?_; rintro e w13 ⟨rfl, hc13⟩; have hb13 : Below v1.heap.size v1 w13 := Below.appR hb12 hc13; have hz13 := hb13.size; have hS13 : SinceB (v1.heap.size) v1 w13 := (SinceB.refl _ _).below hb13 (Nat.le_refl _); have hK := hK)
                | (go_at_call 52; have hq := hb11; refine (l1Dec_c g.1[k].2.1 (by omega) (by omega) _).mono ?_; rintro e w12 ⟨rfl, hc12⟩; have hb12 : Below v1.heap.size v1 w12 := Below.appR hb11 hc12; have hz12 := hb12.size; have hS12 : SinceB (v1.heap.size) v1 w12 := (SinceB.refl _ _).below hb12 (Nat.le_refl _); have hK := hK)
                | (go_at_call 52; have hq := hb10; refine (l1Dec_c g.1[k].1 (by omega) (by omega) _).mono ?_; rintro e w11 ⟨rfl, hc11⟩; have hb11 : Below v1.heap.size v1 w11 := Below.appR hb10 hc11; have hz11 := hb11.size; have hS11 : SinceB (v1.heap.size) v1 w11 := (SinceB.refl _ _).below hb11 (Nat.le_refl _); have hK := hK)
                | (with_reducible refine SinceB.and_ ?_ ?_; (focus (repeat (first | (with_reducible exact SinceB.refl _ _) | (with_reducible assumption) | (with_reducible refine SinceB.drewR ?_) | ((with_reducible refine SinceB.alloc ?_ ?_ _); rotate_left; (focus (first | (with_reducible assumption) | (simp; done) | (simp; omega) | omega))) | ((with_reducible refine SinceB.set ?_ ?_ _); rotate_left; (focus (first | omega | (simp; done) | (simp; omega))))))); intro hS) | ((with_reducible refine wpT_noL ?_ ?_); (focus (first | exact wanted_no _ _ _ rfl rfl rfl | exact wanted_un _ _ _ rfl rfl rfl)); simp only [setO, List.set_cons_succ, List.set_cons_zero]) | ((with_reducible refine wpT_q0 ?_ ?_ ?_ ?_); (focus rfl); (focus rfl); (focus rfl); intro K hK) | ((with_reducible refine wpT_i ?_ ?_); (focus (refine ⟨_, _, _, _, _, _, _, _, rfl, rfl, rfl, rfl, rfl, ?_⟩; omega)); intro K hK) | ((with_reducible refine wpT_bs ?_ ?_); (focus (exact ⟨_, _, _, _, _, _, rfl, rfl, rfl, rfl, rfl⟩)); intro K hK) | ((with_reducible apply wpT_lB); (focus rfl); (focus rfl); (focus rfl); (focus rfl); (focus (first | exact SinceB.drew _ _ | (with_reducible assumption))); (focus (simp <;> omega)); (focus go_simp); intro K hK) | ((with_reducible apply wpT_lwB); (focus exact wanted_yes _ _ _ rfl rfl rfl); (focus rfl); (focus rfl); (focus rfl); (focus (first | exact SinceB.drew _ _ | (with_reducible assumption))); (focus (simp <;> omega)); (focus go_simp); intro K hK) | ((with_reducible refine wpT_xs0 ?_ ?_ ?_); (focus rfl); (focus rfl); intro K hK) | ((with_reducible refine wpT_q1 ?_ ?_ ?_ ?_); (focus exact wanted_yes _ _ _ rfl rfl rfl); (focus rfl); (focus rfl); intro K hK) | ((with_reducible refine wpT_xs1 ?_ ?_ ?_); (focus exact wanted_yes _ _ _ rfl rfl rfl); (focus rfl); intro K hK) | ((with_reducible refine wpT_nil ?_); try dsimp only)
                | fail)
              go_roundw
              case rel => exact ⟨k + 1, by omega, by go_num, congrArg Value.string hnx.out, hbt.trans ((hAe.trans (hb15.mono (by omega))).mono hzt)⟩
              case measure => simp [intOf]; omega
            · obtain rfl : k = n := by omega
              have hq : Hid (asS ((commasB g.2.1 ++ 47 :: commasB g.2.2) ++ putE (g.1.take k)) = asS (putG g)) := hide (by rw [List.take_of_length_le (by have := hn'.out; omega)]; rfl)
              go_wp2
              go_ret
              exact ⟨congrArg (fun v => Ending.returned (.string v)) hq.out, hB3.trans (hbt.mono (by omega))⟩
end Go.Proofs.YtajmfonepnkofaaDoor
