/-
  'allOk'; the reference's 'GameFold'. (Printed by gen_hn.py.)
  Conditions: none.
-/
import Derived.Test.YtipdkcdhnppdoaaHM
namespace Go.Proofs.Ytipdkcdhnppdoaa
open Go.RowKit Rg
set_option linter.unusedVariables false
set_option linter.unusedSimpArgs false

theorem RdN.req {w : World} {lo hi b off n c k : Nat} {ts : List ReqT} (h : RdN 5 (flatR encReq) w lo hi (some ⟨b, off, none⟩) n c ts) (hk : k < ts.length) :
    w.cell? ⟨b, off + k * 5, none⟩ = some (.int .i64 ts[k].1) ∧ w.cell? ⟨b, off + k * 5 + 1, none⟩ = some (.int .i64 ts[k].2.1) ∧ w.cell? ⟨b, off + k * 5 + 2, none⟩ = some (.int .i64 ts[k].2.2.1) ∧ w.cell? ⟨b, off + k * 5 + 3, none⟩ = some (.int .i64 ts[k].2.2.2.1) ∧ w.cell? ⟨b, off + k * 5 + 4, none⟩ = some (.int .i64 ts[k].2.2.2.2) := h.sl.getReq hk
theorem okN_iff (t : ReqV) : okN t = true ↔ okNA t := by
  unfold okN okNA
  rw [Bool.or_eq_true, noneR_iff, okR_iff]
def emptyG : GameT := ([], [], [])
/-- What a fold returns. -/
def foldRes (rs : List ReqT) : GameT := if rs.all okN = true ∧ rs.length ≤ 60 then foldG newG rs else emptyG
theorem okGD_len {g : GameT} (h : okG g) : g.1.length ≤ 1000 ∧ g.2.1.length ≤ 1000 ∧ g.2.2.length ≤ 1000 := by
  have h1 := inc_len h.inc (fun e he => (h.ent e he).1)
  have h2 := h.n16
  have h3 := h.n4
  exact ⟨by omega, by omega, by omega⟩
/-- The empty game in new memory. -/
theorem emptyG_D (w : World) (D : Nat → Prop) : GmD w D none 0 0 none 0 0 none 0 0 emptyG :=
  ⟨⟨rfl, Nat.le_refl _, by simp [maxLen], fun h => absurd rfl h⟩, ⟨rfl, Nat.le_refl _, by simp [maxLen], fun h => absurd rfl h⟩, ⟨rfl, Nat.le_refl _, by simp [maxLen], fun h => absurd rfl h⟩, .inl ⟨rfl, rfl, rfl⟩⟩
theorem GmPost.empty {w w' : World} {D : Nat → Prop} (hB : Below w.heap.size w w') : GmPost w D emptyG (.returned (.agg #[.slice none 0 0, .slice none 0 0, .slice none 0 0])) w' := ⟨none, 0, 0, none, 0, 0, none, 0, 0, rfl, emptyG_D _ _, hB⟩
theorem GmPost2.empty {w w' : World} {D : Nat → Prop} (code : Int) (hB : Below w.heap.size w w') : GmPost2 w D (emptyG, code) (.returned (.tuple #[.agg #[.slice none 0 0, .slice none 0 0, .slice none 0 0], .int .i64 code])) w' := ⟨none, 0, 0, none, 0, 0, none, 0, 0, rfl, emptyG_D _ _, hB⟩

theorem index_notOk (A : Option Addr) (n c lo hi : Nat) (ts : List ReqT) (p : ReqT → Bool) (w : World) (hs : RdN 5 (flatR encReq) w lo hi A n c ts) (hhi : hi ≤ w.heap.size) (hp : ∀ (k : Nat) (hk : k < ts.length) (W : World), Below w.heap.size w W → Calls Try.prog 44 #[.agg #[.int .i64 ts[k].1, .int .i64 ts[k].2.1, .int .i64 ts[k].2.2.1, .int .i64 ts[k].2.2.2.1, .int .i64 ts[k].2.2.2.2]] W fun e W' => e = .returned (.bool (p ts[k])) ∧ Below W.heap.size W W') :
    Calls Try.prog 53 #[.slice A n c, .func (.func 44) #[] #[]] w fun e w' => ∃ i : Int, e = .returned (.int .i64 i) ∧ (i = -1 ∧ ts.any p = false ∨ 0 ≤ i ∧ ts.any p = true) ∧ Below w.heap.size w w' := by
  have hn' := hide hs.len
  have hc1 := hs.cap
  have hc2 := hs.max
  unfold maxLen at hc2
  have hp' := hide hp
  clear hp
  go_enter Try.func53, Try.ntmps53
  go_wp2
  go_loopw [8, 5] (fun i _ wr => ∃ k : Nat, k ≤ n ∧ i = .int .i64 k ∧ Hid (∀ j (h : j < ts.length), j < k → ¬ p ts[j] = true) ∧ Below w.heap.size w wr) (fun i _ _ => n - (intOf i).toNat)
  case atStart => exact ⟨0, Nat.zero_le _, rfl, fun j h h' => absurd h' (by omega), Below.refl _ _⟩
  case round =>
    obtain ⟨k, hk, rfl, hno, hbr⟩ := hrel
    by_cases hlt : k < n
    · have hlx : k < ts.length := by have := hn'.out; omega
      obtain ⟨b', off, rfl, hlo, hbh⟩ := hs.addr hlx
      obtain ⟨a0, a1, a2, a3, a4⟩ := (hs.below (flat_kept _) hbr hhi).req hlx
      go_wp2_with fail
      refine (hp'.out k hlx wr hbr).mono ?_
      rintro e w1 ⟨rfl, hb1⟩
      cases he : p ts[k]
      · have he' := hide he
        go_wp2
        go_roundw
        case rel => exact ⟨k + 1, by omega, by go_num, fun j hj hjk h => by
          by_cases h2 : j < k
          · exact hno.out j hj h2 h
          · obtain rfl : j = k := by omega
            have := he'.out
            simp [h] at this, hbr.trans (hb1.mono hbr.size)⟩
        case measure => simp [intOf]; omega
      · have he' : Hid (ts.any p = true) := hide (List.any_eq_true.2 ⟨ts[k], List.getElem_mem hlx, he⟩)
        go_wp2
        go_ret
        exact ⟨k, rfl, .inr ⟨by omega, he'.out⟩, hbr.trans (hb1.mono hbr.size)⟩
    · obtain rfl : k = n := by omega
      go_wp2
      go_ret
      refine ⟨-1, rfl, .inl ⟨rfl, ?_⟩, hbr⟩
      simp only [List.any_eq_false]
      intro x hx
      obtain ⟨j, hj, rfl⟩ := List.mem_iff_getElem.1 hx
      exact hno.out j hj (by have := hn'.out; omega)
theorem contains_notOk (A : Option Addr) (n c lo hi : Nat) (ts : List ReqT) (p : ReqT → Bool) (w : World) (hs : RdN 5 (flatR encReq) w lo hi A n c ts) (hhi : hi ≤ w.heap.size) (hp : ∀ (k : Nat) (hk : k < ts.length) (W : World), Below w.heap.size w W → Calls Try.prog 44 #[.agg #[.int .i64 ts[k].1, .int .i64 ts[k].2.1, .int .i64 ts[k].2.2.1, .int .i64 ts[k].2.2.2.1, .int .i64 ts[k].2.2.2.2]] W fun e W' => e = .returned (.bool (p ts[k])) ∧ Below W.heap.size W W') :
    Calls Try.prog 43 #[.slice A n c, .func (.func 44) #[] #[]] w fun e w' => e = .returned (.bool (ts.any p)) ∧ Below w.heap.size w w' := by
  have hp' := hide hp
  clear hp
  go_enter Try.func43, Try.ntmps43
  go_wp2_with fail
  refine (index_notOk A n c lo hi ts p w hs hhi hp'.out).mono ?_
  rintro e w1 ⟨i, rfl, hi, hb1⟩
  rcases hi with ⟨rfl, h⟩ | ⟨h1, h⟩
  · have h' := hide h
    go_wp2
    go_ret
    exact ⟨by rw [h'.out]; rfl, hb1⟩
  · have h' := hide h
    have d1 : decide (0 ≤ i) = true := by simpa using h1
    go_wp2
    go_ret
    exact ⟨by rw [h'.out]; simp [h1], hb1⟩

theorem allOk1_c (t : ReqT) (w : World) : Calls Try.prog 44 #[.agg #[.int .i64 t.1, .int .i64 t.2.1, .int .i64 t.2.2.1, .int .i64 t.2.2.2.1, .int .i64 t.2.2.2.2]] w fun e w' => e = .returned (.bool (!okN t)) ∧ Below w.heap.size w w' := by
  go_enter Try.func44, Try.ntmps44
  go_wp2_with fail
  refine (okOrNull_c t.1 t.2.1 t.2.2.1 t.2.2.2.1 t.2.2.2.2 _).mono ?_
  rintro e w1 ⟨rfl, hb1⟩
  go_wp2
  go_ret
  exact ⟨rfl, ((Below.refl _ _).alloc (Nat.le_refl _) _).trans (hb1.mono (by simp))⟩
theorem allOk_c (A : Option Addr) (n c lo hi : Nat) (rs : List ReqT) (w : World) (hs : RdN 5 (flatR encReq) w lo hi A n c rs) (hhi : hi ≤ w.heap.size) :
    Calls Try.prog 28 #[.slice A n c] w fun e w' => e = .returned (.bool (rs.all okN)) ∧ Below w.heap.size w w' := by
  have hq : (!rs.any (fun t => !okN t)) = rs.all okN := by rw [List.not_any_eq_all_not]; simp
  go_enter Try.func28, Try.ntmps28
  go_wp2_with fail
  refine (contains_notOk A n c lo hi rs (fun t => !okN t) w hs hhi (fun k hk W hB => allOk1_c rs[k] W)).mono ?_
  rintro e w1 ⟨rfl, hb1⟩
  go_wp2
  go_ret
  exact ⟨by rw [← hq]; rfl, hb1⟩
set_option maxRecDepth 100000 in
set_option maxHeartbeats 2000000 in
theorem GameFoldS_c (A : Option Addr) (n c lo hi : Nat) (rs : List ReqT) (w : World) (hn : n = rs.length) (hb : n ≤ 1048576) (hs : Sl encReq 5 w lo hi A rs) (hhi : hi ≤ w.heap.size) :
    Calls Try.prog 7 #[.slice A n c] w fun e w' => GmPost w (fun _ => False) (foldRes rs) e w' := by
  have hn' := hide hn
  clear hn
  have hA0 := (Below.refl w.heap.size w).alloc (Nat.le_refl _) (.cells #[.slice none 0 0, .slice none 0 0, .slice none 0 0] 27)
  have hr0 := Bx3.made w (.slice none 0 0) (.slice none 0 0) (.slice none 0 0) 27
  have hr0' := hide hr0
  clear hr0
  go_enter Try.func7, Try.ntmps7
  go_wp2
  generalize w.alloc (.cells #[.slice none 0 0, .slice none 0 0, .slice none 0 0] 27) = w1 at *
  go_loopw [3] (fun i wr => ∃ k : Nat, k ≤ n ∧ i = .int .i64 (k : Int) ∧ Hid (∀ j (h : j < rs.length), j < k → okN rs[j] = true) ∧ Below w1.heap.size w1 wr) (fun i _ => n - (intOf i).toNat)
  case atStart => exact ⟨0, Nat.zero_le _, rfl, hide (fun j h h' => absurd h' (by omega)), Below.refl _ _⟩
  case round =>
    obtain ⟨k, hk, rfl, hall, hbr⟩ := hrel
    have hrr := hr0'.out.below hbr hr0'.out.lt
    obtain ⟨yy0, yy1, yy2, yg0, yg1, yg2⟩ := hrr.cells
    have hlr := hrr.lt
    have hz1 := hA0.size
    have hzr := hbr.size
    by_cases hlt : k < n
    · have hlx : k < rs.length := by have := hn'.out; omega
      obtain ⟨b, off, rfl, hlo1, hbh⟩ := hs.addr hlx
      obtain ⟨a0, a1, a2, a3, a4⟩ := ((hs.below hA0 hhi).below hbr (by omega)).getReq hlx
      go_wp2_with fail
      refine (l1Ok_c rs[k].1 rs[k].2.1 rs[k].2.2.1 rs[k].2.2.2.1 rs[k].2.2.2.2 wr).mono ?_
      rintro e w2 ⟨rfl, hb2⟩
      cases e1 : okR rs[k]
      · have hbr2 := hbr.trans (hb2.mono hzr)
        have hzr2 := hbr2.size
        obtain ⟨a0, a1, a2, a3, a4⟩ := ((hs.below hA0 hhi).below hbr2 (by omega)).getReq hlx
        try rw [show okR (rs[k].1, rs[k].2.1, rs[k].2.2.1, rs[k].2.2.2.1, rs[k].2.2.2.2) = false from e1]
        go_wp2_with fail
        refine (l1None_c rs[k].1 rs[k].2.1 rs[k].2.2.1 rs[k].2.2.2.1 rs[k].2.2.2.2 w2).mono ?_
        rintro e w3 ⟨rfl, hb3⟩
        have hbr3 := hbr2.trans (hb3.mono hzr2)
        have hzr3 := hbr3.size
        cases e2 : noneR rs[k]
        · try rw [show noneR (rs[k].1, rs[k].2.1, rs[k].2.2.1, rs[k].2.2.2.1, rs[k].2.2.2.2) = false from e2]
          have hrr3 := hr0'.out.below hbr3 hr0'.out.lt
          obtain ⟨yy0, yy1, yy2, yg0, yg1, yg2⟩ := hrr3.cells
          have hres := hide (show foldRes rs = emptyG by
            unfold foldRes
            rw [if_neg]
            rintro ⟨h, _⟩
            have := List.all_eq_true.1 h rs[k] (List.getElem_mem hlx)
            unfold okN at this
            rw [e1, e2] at this
            cases this)
          go_wp2
          refine bodyPost_ret (v := .agg #[.slice none 0 0, .slice none 0 0, .slice none 0 0]) (by simp [results, Try.results7, go_sem, yy0, yy1, yy2, yg0, yg1, yg2]) rfl ?_
          rw [hres.out]
          exact GmPost.empty (((((hA0.trans (hbr3.mono (by omega))).setCell (p := ⟨w.heap.size, 0, none⟩) (Nat.le_refl _) _).setCell (p := ⟨w.heap.size, 1, none⟩) (Nat.le_refl _) _).setCell (p := ⟨w.heap.size, 2, none⟩) (Nat.le_refl _) _))
        · try rw [show noneR (rs[k].1, rs[k].2.1, rs[k].2.2.1, rs[k].2.2.2.1, rs[k].2.2.2.2) = true from e2]
          have he := hide (show okN rs[k] = true by unfold okN; rw [e2]; rfl)
          go_wp2
          go_roundw
          case rel => exact ⟨k + 1, by omega, by go_num, hide (fun j hj hjk => by
            by_cases h : j < k
            · exact hall.out j hj h
            · obtain rfl : j = k := by omega
              exact he.out), hbr3⟩
          case measure => simp [intOf]; omega
      · try rw [show okR (rs[k].1, rs[k].2.1, rs[k].2.2.1, rs[k].2.2.2.1, rs[k].2.2.2.2) = true from e1]
        have he := hide (show okN rs[k] = true by unfold okN; rw [e1]; simp)
        go_wp2
        go_roundw
        case rel => exact ⟨k + 1, by omega, by go_num, hide (fun j hj hjk => by
          by_cases h : j < k
          · exact hall.out j hj h
          · obtain rfl : j = k := by omega
            exact he.out), hbr.trans (hb2.mono hzr)⟩
        case measure => simp [intOf]; omega
    · obtain rfl : k = n := by omega
      have hA := hide (show rs.all okN = true from List.all_eq_true.2 (fun x hx => by
        obtain ⟨j, hj, rfl⟩ := List.mem_iff_getElem.1 hx
        exact hall.out j hj (by have := hn'.out; omega)))
      cases e3 : decide (60 < (k : Int))
      · have hres := hide (show foldRes rs = foldG newG rs by
          unfold foldRes
          rw [if_pos ⟨hA.out, by have := hn'.out; simp at e3; omega⟩])
        have hokr := hide (show ∀ r ∈ rs, okNA r from fun r hr => (okN_iff r).1 (List.all_eq_true.1 hA.out r hr))
        go_wp2_with fail
        refine (l2Fold_c A k c lo hi rs wr hn'.out hb ((hs.below hA0 hhi).below hbr (by omega)) (by omega) hokr.out).mono ?_
        rintro e w4 ⟨A4, n4, c4, B4, p4, d4, E4, q4, f4, rfl, hg4, hb4⟩
        have hz4 := hb4.size
        go_wp2_with fail
        refine (l2Copy_c A4 n4 c4 B4 p4 d4 E4 q4 f4 _ (foldG newG rs) w4 hg4 (fun b hb => hb.elim (fun h => h.elim) (fun h => h.2)) (okGD_len (okG.folding newG_ok hokr.out))).mono ?_
        rintro e w5 ⟨A5, n5, c5, B5, p5, d5, E5, q5, f5, rfl, hg5, hb5⟩
        have hrr5 := (hrr.below hb4 hlr).below hb5 (by omega)
        clear yy0 yy1 yy2 yg0 yg1 yg2
        obtain ⟨yy0, yy1, yy2, yg0, yg1, yg2⟩ := hrr5.cells
        have hz5 := hb5.size
        go_wp2
        refine bodyPost_ret (v := .agg #[.slice A5 n5 c5, .slice B5 p5 d5, .slice E5 q5 f5]) (by simp [results, Try.results7, go_sem, yy0, yy1, yy2, yg0, yg1, yg2]) rfl ?_
        rw [hres.out]
        have hf := gm_fin (D := fun _ => False) (x := w.heap.size) (y := w.heap.size) (w := w) (w9 := w5) (w' := ((w5.setCell ⟨w.heap.size, 0, none⟩ (.slice A5 n5 c5)).setCell ⟨w.heap.size, 1, none⟩ (.slice B5 p5 d5)).setCell ⟨w.heap.size, 2, none⟩ (.slice E5 q5 f5)) (by (repeat (first | (with_reducible exact Onl.refl _ _ _) | (with_reducible exact Onl.drewL _ _ _) | (with_reducible refine Onl.set ?_ (by simp) _) | with_reducible refine Onl.drew ?_))) (hA0.trans ((hbr.mono (by omega)).trans ((hb4.mono (by omega)).trans (hb5.mono (by omega))))) (Nat.le_refl _) (Nat.le_refl _) hg5 (fun b hb => by
          rcases hb with hb | hb
          · exact hb.elim
          · exact ⟨by omega, by omega, .inr ⟨by omega, hb.2⟩⟩)
        exact ⟨A5, n5, c5, B5, p5, d5, E5, q5, f5, rfl, hf.1, hf.2⟩
      · have hres := hide (show foldRes rs = emptyG by
          unfold foldRes
          rw [if_neg]
          rintro ⟨_, h⟩
          have := hn'.out
          simp at e3
          omega)
        go_wp2
        refine bodyPost_ret (v := .agg #[.slice none 0 0, .slice none 0 0, .slice none 0 0]) (by simp [results, Try.results7, go_sem, yy0, yy1, yy2, yg0, yg1, yg2]) rfl ?_
        rw [hres.out]
        exact GmPost.empty (((((hA0.trans (hbr.mono (by omega))).setCell (p := ⟨w.heap.size, 0, none⟩) (Nat.le_refl _) _).setCell (p := ⟨w.heap.size, 1, none⟩) (Nat.le_refl _) _).setCell (p := ⟨w.heap.size, 2, none⟩) (Nat.le_refl _) _))
end Go.Proofs.Ytipdkcdhnppdoaa
