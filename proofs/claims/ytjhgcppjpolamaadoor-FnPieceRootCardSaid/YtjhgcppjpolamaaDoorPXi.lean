/-
  All levels of sums in the program. (Printed by gen_pxi.py.)
  Conditions: the library's table of powers of ten ('Tab').
-/
import Derived.Test.YtjhgcppjpolamaaDoorBaseN
import Derived.Test.YtjhgcppjpolamaaDoorPXh
namespace Go.Proofs.YtjhgcppjpolamaaDoor
open Go.RowKit Rg
set_option linter.unusedVariables false
set_option linter.unusedSimpArgs false

theorem infoRow : (Tryd.prog.info? 22).map (fun i => (i.zero, i.size, i.bytes)) = some (some (.slice none 0 0), 1, 24) := by kernel_rfl
theorem rowSnoc {w4 w5 : World} {o : Obj} {q lo2 hi2 : Nat} {v v5 : Value} {ls : List (Cs 1)} {ts : List (List Int)} {y : Cs 1} {t : List Int} (hll : ls.length = ts.length)
    (hpa : ∀ (i : Nat) (hl : i < ls.length) (ht : i < ts.length), Apart rowR w4 q v.ownBlock ls[i].val ts[i]) (hown : Own Cs.val 1 22 w4 q v ls) (hw5 : Own Cs.val 1 22 w5 q v5 (ls ++ [y])) (hg5 : (w4.alloc o).grownBy w5 v.ownBlock)
    (hloc : v5.ownBlock = v.ownBlock ∨ v5.ownBlock = some (w4.alloc o).heap.size) (h1 : q ≤ lo2) (h2 : hi2 ≤ w4.heap.size) (h3 : ∀ k, v.ownBlock = some k → hi2 ≤ k ∨ k < lo2) (h4 : rowR w4 lo2 hi2 y.val t) : Grow 1 22 rowR w5 q v5 (ts ++ [t]) := by
  have hA := (Below.refl w4.heap.size w4).alloc (Nat.le_refl _) o
  have hk0 : ∀ (i : Nat) (hl : i < ls.length) (ht : i < ts.length), Apart rowR (w4.alloc o) q v.ownBlock ls[i].val ts[i] := fun i hl ht => (hpa i hl ht).keep row_kept hA.size (fun b _ h2 _ => hA.block b h2)
  exact Grow.snoc row_kept (lo2 := lo2) (hi2 := hi2) ⟨ls, hown.alloc _, hll, hk0⟩ hk0 hll hw5 hg5 hloc h1 (Nat.le_trans h2 hA.size) h3 (row_kept.keep h4 fun b _ hb => hA.block b (by omega))
theorem csRow (A : Option Addr) (n c : Nat) : ∃ y : Cs 1, y.val = [.slice A n c] := ⟨⟨[.slice A n c], rfl, by intro u hu; simp at hu; subst hu; rfl⟩, rfl⟩
theorem row_row (w : World) {A : Option Addr} {n c : Nat} (y : Cs 1) (hy : y.val = [.slice A n c]) : Sl Cs.val 1 (w.alloc (.cells #[.slice A n c] 22)) 0 (w.heap.size + 1) (some ⟨w.heap.size, 0, none⟩) [y] :=
  (sl_arr Cs.len w #[.slice A n c] 22 [y] (by simp [hy])).mono (Nat.zero_le _) (Nat.le_refl _)
theorem rowFirst {w : World} {lo lo2 hi2 : Nat} {A : Option Addr} {n c : Nat} {t : List Int} (hlo : lo ≤ lo2) (hlw : lo ≤ w.heap.size) (hhi : hi2 ≤ w.heap.size) (h : rowR w lo2 hi2 [.slice A n c] t) :
    Grow 1 22 rowR (w.alloc (.cells #[.slice A n c] 22)) lo (.slice (some ⟨w.heap.size, 0, none⟩) 1 1) [t] := by
  obtain ⟨y, hy⟩ := csRow A n c
  have hA := (Below.refl w.heap.size w).alloc (Nat.le_refl _) (.cells #[.slice A n c] 22)
  refine ⟨[y], ?_, rfl, fun i hl ht => ?_⟩
  · have := Own.of_row (enc := (Cs.val : Cs 1 → List Value)) (sz := 1) (e := 22) (w := w.alloc (.cells #[.slice A n c] 22)) (lo := lo) (xs := [y]) (g := w.heap.size) (c := 1) (cur := #[.slice A n c]) hlw (heap_alloc_new w _) (Nat.le_refl _) (by simp [maxLen]) (by simp) (by simp [hy])
    exact this
  · have h0 : i = 0 := by simp at hl; omega
    subst h0
    refine ⟨lo2, hi2, hlo, Nat.le_trans hhi hA.size, fun k hk => ?_, ?_⟩
    · simp [Value.ownBlock] at hk; omega
    · show rowR _ lo2 hi2 y.val t
      rw [hy]
      exact row_kept.keep h fun b _ hb => hA.block b (by omega)
theorem Grow.shape {α : Type} {sz lo : Nat} {e : TypeId} {R : ElR α} {w : World} {v : Value} {ts : List α} (h : Grow sz e R w lo v ts) : ∃ A n c, v = .slice A n c ∧ Hid (n = ts.length) := by
  obtain ⟨A, c, h1, _⟩ := h.form
  exact ⟨A, _, c, h1, hide rfl⟩
theorem Grow.lt {α : Type} {sz lo : Nat} {e : TypeId} {R : ElR α} {w : World} {v : Value} {ts : List α} (h : Grow sz e R w lo v ts) : ∀ k, v.ownBlock = some k → lo ≤ k ∧ k < w.heap.size := by
  obtain ⟨ls, h1, _⟩ := h
  exact h1.lt
def lenW : Value → Nat
  | .slice _ n _ => n
  | _ => 0
set_option maxRecDepth 100000 in
set_option maxHeartbeats 2000000 in
theorem levels_c (A : Option Addr) (n c lo hi : Nat) (xs : List ByteArray) (w : World) (hn : n = xs.length) (hok : okP xs) (hs : Sl encS 1 w lo hi A xs) (hhi : hi ≤ w.heap.size) (ht : Tab w) :
    Calls Tryd.prog 51 #[.slice A n c] w fun e w' => ∃ v, e = .returned v ∧ Grow 1 22 rowR w' w.heap.size v (lev (lvs xs)) ∧ Below w.heap.size w w' := by
  obtain ⟨h16, h1, h12⟩ := okP_small hok
  have hn' := hide hn
  have h12' := hide h12
  have hlen0 := hide (lvs_len xs)
  have hn16 : n ≤ 16 := by omega
  have hn1 : 1 ≤ n := by omega
  clear hn h12 hok h16 h1
  go_enter Tryd.func51, Tryd.ntmps51
  go_wp2
  go_loopw [3, 11] (fun ov iv wr => ∃ k : Nat, k ≤ n ∧ iv = .int .i64 (k : Int) ∧ Own encI 1 3 wr w.heap.size ov (lvs (xs.take k)) ∧ Below w.heap.size w wr) (fun _ iv _ => n - (intOf iv).toNat)
  case atStart => exact ⟨0, Nat.zero_le _, rfl, Own.nil_ _ _ _ _ _, Below.refl _ _⟩
  case round =>
    obtain ⟨k, hk, rfl, ho, hbr⟩ := hrel
    by_cases hlt : k < n
    · have hlx : k < xs.length := by have := hn'.out; omega
      obtain ⟨b, off, rfl, hlo, hbh⟩ := hs.addr hlx
      have a1 := (hs.below hbr hhi).str hlx
      have hsz := h12'.out k hlx
      have htk := hide (lvs_take xs k hlx)
      have hlen : Hid ((lvs (xs.take k)).length = k) := hide (by rw [lvs_len, List.length_take]; omega)
      obtain ⟨A1, n1, c1, rfl, hn1'⟩ := ho.shape
      have hsl1 := sl_oneI wr (leafS (k : Int) xs[k].data.toList)
      go_wp2_with (first
        | (go_at_call 40; refine (leaf_c k (by omega) xs[k] (by omega) wr).mono ?_; rintro e w1 ⟨rfl, rfl⟩)
        | (at_builtin; refine wpList_appG encI_len (by omega) encI_one rfl _ _ 22 rfl 3 _ 8 Tryd.underlying22 infoI rfl w.heap.size _ (lvs (xs.take k)) rfl (ho.alloc _) 0 _ _ [leafS (k : Int) xs[k].data.toList] _ _ rfl rfl hsl1 ?h2 ?h3 ?_))
      case h2 => have := hlen.out; simp [maxLen]; omega
      case h3 => have := hbr.size; simp; omega
      intro v2 w2 ho2 hg2 hb2 hloc
      rw [← htk.out] at ho2
      have hb3 : Below w.heap.size w w2 := hbr.trans (((Below.refl wr.heap.size wr).alloc (Nat.le_refl _) _ |>.mono hbr.size).trans hb2)
      obtain ⟨A2, n2, c2, rfl, hn2⟩ := ho2.shape
      go_wp2
      go_roundw
      case rel => exact ⟨k + 1, by omega, by go_num, ho2, hb3⟩
      case measure => simp [intOf]; omega
    · obtain rfl : k = n := by omega
      rw [List.take_of_length_le (by rw [hn'.out]; omega)] at ho
      obtain ⟨A2, n2, c2, rfl, hn2⟩ := ho.shape
      have hcap2 := ho.cap
      have hs2 := (ho.slAt encI_len).2.2
      have hn2k : Hid (n2 = k) := hide (by have := hn2.out; have := hlen0.out; have := hn'.out; omega)
      have hgr2 := rowFirst (lo := w.heap.size) (lo2 := w.heap.size) (hi2 := wr.heap.size) (Nat.le_refl _) hbr.size (Nat.le_refl _) ⟨A2, n2, c2, rfl, hn2.out, hcap2.1, hcap2.2, hs2⟩
      have hA2 := (Below.refl wr.heap.size wr).alloc (Nat.le_refl _) (.cells #[.slice A2 n2 c2] 22)
      have hs3 := hs2.below hA2 (Nat.le_refl _)
      have hb3 : Below w.heap.size w (wr.alloc (.cells #[.slice A2 n2 c2] 22)) := hbr.trans (hA2.mono hbr.size)
      have ht3 := ht.below hb3
      have hz3 : wr.heap.size ≤ (wr.alloc (.cells #[.slice A2 n2 c2] 22)).heap.size := hA2.size
      have hbrs := hbr.size
      clear ho hbr hs2 hA2 hs
      go_wp2
      generalize hq : wr.heap.size = q0 at *
      clear hq
      generalize wr.alloc (.cells #[.slice A2 n2 c2] 22) = w3 at *
      go_loopw [3, 6] (fun nv ov wr => ∃ (pre : List (List Int)) (L : List Int) (A' : Option Addr) (n' c' q hq : Nat), nv = .slice A' n' c' ∧ Hid (n' = L.length) ∧ 1 ≤ n' ∧ n' ≤ 16 ∧ n' ≤ c' ∧ Hid (c' ≤ maxLen) ∧ Sl encI 1 wr q hq A' L ∧ hq ≤ wr.heap.size ∧ w.heap.size ≤ q ∧ Hid (∀ k, ov.ownBlock = some k → k < q ∨ hq ≤ k) ∧ Grow 1 22 rowR wr w.heap.size ov (pre ++ [L]) ∧ Hid (lev (lvs xs) = pre ++ lev L) ∧ Hid (pre.length + n' ≤ 17) ∧ Hid (∀ a ∈ L, Sum a) ∧ Below w.heap.size w wr ∧ Tab wr) (fun nv _ _ => lenW nv)
      case atStart => exact ⟨[], lvs xs, A2, n2, c2, _, _, rfl, hn2, by have := hn2k.out; omega, by have := hn2k.out; omega, hcap2.1, hide hcap2.2, hs3, hz3, Nat.le_refl _, hide (fun k hk => by simp [Value.ownBlock] at hk; omega), hgr2, hide rfl, hide (by have := hn2k.out; simp; omega), hide (lvs_sum xs), hb3, ht3⟩
      case round =>
        obtain ⟨pre, L, A', n', c', q, hq, rfl, hn3, h1, hle, hcc, hcm, hsr, hqr, hwq, hne, hgr, hR, hpl, hS, hbr, htr⟩ := hrel
        unfold maxLen at hcm
        have hcm' := hcm.out
        by_cases hlt2 : 1 < n'
        · have g1 : decide (1 < (n' : Int)) = true := by simp only [decide_eq_true_eq]; omega
          have hR2 := hide (hR.out.trans (congrArg (pre ++ ·) (lev_up (by have := hn3.out; omega))))
          have hul := hide (up_length L)
          obtain ⟨Ao, no, co, rfl, hno⟩ := hgr.shape
          have hbrs2 := hbr.size
          go_wp2
          generalize wr = wo at *
          go_loopw [7, 8] (fun pv iv w5 => ∃ k : Nat, 2 * k ≤ n' + 1 ∧ iv = .int .i64 ((2 * k : Nat) : Int) ∧ Own encI 1 3 w5 wo.heap.size pv ((up L).take k) ∧ Below wo.heap.size wo w5) (fun _ iv _ => n' + 1 - (intOf iv).toNat)
          case atStart => exact ⟨0, by omega, rfl, Own.nil_ _ _ _ _ _, Below.refl _ _⟩
          case round =>
            obtain ⟨k2, hk2, rfl, ho2, hbr2⟩ := hrel
            have e2k : ((2 * k2 : Nat) : Int) = 2 * (k2 : Int) := by omega
            obtain ⟨A8, n8, c8, rfl, hn8⟩ := ho2.shape
            have hz2 := hbr2.size
            by_cases hlt3 : 2 * k2 < n'
            · have hlx : 2 * k2 < L.length := by have := hn3.out; omega
              obtain ⟨b, off, rfl, hlo, hbh⟩ := hsr.addr hlx
              have hlen : Hid (((up L).take k2).length ≤ 16) := hide (by rw [List.length_take]; omega)
              have a1 := (hsr.below hbr2 hqr).i64 hlx
              have g3 : decide ((2 : Int) * (k2 : Int) < (n' : Int)) = true := by simp only [decide_eq_true_eq]; omega
              have t1 : ((2 : Int) * (k2 : Int)).toNat = 2 * k2 := by omega
              by_cases h4 : 2 * k2 + 1 < n'
              · have hlx1 : 2 * k2 + 1 < L.length := by have := hn3.out; omega
                have a2 := (hsr.below hbr2 hqr).i64 hlx1
                have g4 : decide ((2 : Int) * (k2 : Int) + 1 < (n' : Int)) = true := by simp only [decide_eq_true_eq]; omega
                have t2 : ((2 : Int) * (k2 : Int) + 1).toNat = 2 * k2 + 1 := by omega
                have hS1 := (hS.out _ (List.getElem_mem hlx)).i64
                have hS2 := (hS.out _ (List.getElem_mem hlx1)).i64
                have htk := hide (up_take1 L k2 hlx1)
                have htr2 := htr.below hbr2
                go_wp2
                refine wp_region_T (fun _ => True) [] [] [] [0, 1, 2, 3, 4, 5, 6, 7, 8, 9, 10, 11, 12, 13] (by kernel_rfl) (by kernel_rfl) (by kernel_rfl) trivial ?_; simp only [pickL, List.getElem?_cons_succ, List.getElem?_cons_zero]
                go_wp2_with (first
                  | (go_at_call 41; refine (node_c L[2 * k2] L[2 * k2 + 1] hS1.1 hS1.2 hS2.1 hS2.2 wr.drew htr2).mono ?_; rintro e w1 ⟨rfl, hb1⟩; have hb1' : Below wr.heap.size wr w1 := (Below.drew (Below.refl _ wr)).trans hb1; have ho1 := ho2.below hb1' (Nat.le_refl _); have hsl1 := sl_oneI w1 (nodeS L[2 * k2] L[2 * k2 + 1]))
                  | ((first | (with_reducible refine wpT_x0 ?_ ?_ ?_) | (with_reducible refine wpT_xs0 ?_ ?_ ?_)); (focus rfl); (focus rfl); intro K hK; refine wp_appG encI_len (by omega) encI_one _ _ 22 rfl 3 _ 8 Tryd.underlying22 infoI rfl wo.heap.size _ ((up L).take k2) rfl (ho1.alloc _) 0 _ _ [nodeS L[2 * k2] L[2 * k2 + 1]] _ _ rfl rfl hsl1 (by have := hlen.out; simp only [List.length_singleton, maxLen]; omega) (by have := hb1'.size; simp; omega) ?_; intro v9 w9 ho9 hg9 hb9 hloc9; rw [← htk.out] at ho9; have hb3' : Below wo.heap.size wo w9 := (hbr2.trans (hb1'.mono hbr2.size)).trans (((Below.refl w1.heap.size w1).alloc (Nat.le_refl _) _ |>.mono (Nat.le_trans hbr2.size hb1'.size)).trans hb9); obtain ⟨A9, n9, c9, rfl, hn9⟩ := ho9.shape; have hK := hK)
                  | ((with_reducible refine wpT_q0 ?_ ?_ ?_ ?_); (focus rfl); (focus rfl); (focus rfl); intro K hK) | ((with_reducible refine wpT_x0 ?_ ?_ ?_); (focus rfl); (focus rfl); intro K hK) | ((with_reducible refine wpT_noL ?_ ?_); (focus (first | exact wanted_no _ _ _ rfl rfl rfl | exact wanted_un _ _ _ rfl rfl rfl)); simp only [setO, List.set_cons_succ, List.set_cons_zero]) | ((with_reducible refine wpT_q1 ?_ ?_ ?_ ?_); (focus exact wanted_yes _ _ _ rfl rfl rfl); (focus rfl); (focus rfl); intro K hK) | ((with_reducible refine wpT_x1 ?_ ?_ ?_); (focus exact wanted_yes _ _ _ rfl rfl rfl); (focus rfl); intro K hK) | ((with_reducible refine wpT_nil ?_); try dsimp only)
                  | fail)
                go_roundw
                case rel => exact ⟨k2 + 1, by omega, by go_num, ho9, hb3'⟩
                case measure => simp [intOf]; omega
              · have g4 : decide ((2 : Int) * (k2 : Int) + 1 < (n' : Int)) = false := by simp only [decide_eq_false_iff_not]; omega
                have htk := hide (up_take2 L k2 hlx (by have := hn3.out; omega))
                have hsl1 := sl_oneI wr L[2 * k2]
                go_wp2_with (at_builtin; refine wpList_appG encI_len (by omega) encI_one rfl _ _ 22 rfl 3 _ 8 Tryd.underlying22 infoI rfl wo.heap.size _ ((up L).take k2) rfl (ho2.alloc _) 0 _ _ [L[2 * k2]] _ _ rfl rfl hsl1 ?h2 ?h3 ?_)
                case h2 => have := hlen.out; simp only [List.length_singleton, maxLen]; omega
                case h3 => simp; omega
                intro v9 w9 ho9 hg9 hb9 hloc9
                rw [← htk.out] at ho9
                have hb3' : Below wo.heap.size wo w9 := hbr2.trans (((Below.refl wr.heap.size wr).alloc (Nat.le_refl _) _ |>.mono hbr2.size).trans hb9)
                obtain ⟨A9, n9, c9, rfl, hn9⟩ := ho9.shape
                go_wp2
                go_roundw
                case rel => exact ⟨k2 + 1, by omega, by go_num, ho9, hb3'⟩
                case measure => simp [intOf]; omega
            · have g3 : decide ((2 : Int) * (k2 : Int) < (n' : Int)) = false := by simp only [decide_eq_false_iff_not]; omega
              rw [List.take_of_length_le (by rw [up_length, ← hn3.out]; omega)] at ho2
              have hn8' : Hid (n8 = (up L).length) := hide ho2.lenEq
              have hcap8 := ho2.cap
              have hs8 := (ho2.slAt encI_len).2.2
              have hn8h : Hid (n8 = (n' + 1) / 2) := hide (by have := hn8'.out; have := hul.out; have := hn3.out; omega)
              obtain ⟨ls, hown, hll, hpa⟩ := hgr.below row_kept hbr2 (Nat.le_refl _)
              obtain ⟨y, hy⟩ := csRow A8 n8 c8
              have hslY := row_row wr y hy
              have hrY : rowR wr wo.heap.size wr.heap.size y.val (up L) := by rw [hy]; exact ⟨A8, n8, c8, rfl, hn8'.out, hcap8.1, hcap8.2, hs8⟩
              have hll' := hide hll
              have hpa' := hide hpa
              have hrY' := hide hrY
              have hlsl : Hid (ls.length ≤ 17) := hide (by have := hpl.out; rw [hll]; simp; omega)
              have hgl := hide hgr.lt
              have hA9 := (Below.refl wr.heap.size wr).alloc (Nat.le_refl _) (.cells #[.slice A8 n8 c8] 22)
              have hcm8 := hcap8.2
              unfold maxLen at hcm8
              clear hll hpa hrY hy ho2
              go_wp2_with (at_builtin; refine wpList_appG Cs.len (by omega) Cs.one rfl _ _ 67 rfl 22 _ 24 Tryd.underlying67 infoRow rfl w.heap.size _ ls rfl (hown.alloc _) 0 _ _ [y] _ _ rfl rfl hslY ?h2 ?h3 ?_)
              case h2 => have := hlsl.out; simp only [List.length_singleton, maxLen]; omega
              case h3 => simp; omega
              intro v9 w9 ho9 hg9 hb9 hloc9
              have hgr9 : Grow 1 22 rowR w9 w.heap.size v9 ((pre ++ [L]) ++ [up L]) := rowSnoc hll'.out hpa'.out hown ho9 hg9 (by simpa using hloc9) (by omega) (Nat.le_refl _) (fun k hk => .inr (by have := (hgl.out k hk).2; omega)) hrY'.out
              have hs9 : Sl encI 1 w9 wo.heap.size wr.heap.size A8 (up L) := (hs8.below hA9 (Nat.le_refl _)).keep (fun k h1 h2 => hg9.block k (by simp; omega) (fun e => by have := (hgl.out k e.symm).2; omega))
              have hB9 : Below w.heap.size w w9 := (hbr.trans (hbr2.mono hbrs2)).trans ((hA9.mono (by omega)).trans hb9)
              have hz9 : wr.heap.size + 1 ≤ w9.heap.size := by simpa using hg9.size
              have hT9 : Tab w9 := ht.below hB9
              have hnv : Hid (∀ k, v9.ownBlock = some k → k < wo.heap.size ∨ wr.heap.size ≤ k) := hide (fun k hk => by
                rcases hloc9 with e | e
                · rw [e] at hk; exact .inl (hgl.out k hk).2
                · rw [e] at hk; injection hk with hk; omega)
              obtain ⟨Ao9, no9, co9, rfl, hno9⟩ := hgr9.shape
              have hR9 : Hid (lev (lvs xs) = (pre ++ [L]) ++ lev (up L)) := hide (by rw [hR2.out]; simp)
              go_wp2
              go_roundw
              case rel => exact ⟨pre ++ [L], up L, A8, n8, c8, _, _, rfl, hn8', by have := hn8h.out; omega, by have := hn8h.out; omega, hcap8.1, hide hcap8.2, hs9, by omega, by omega, hnv, hgr9, hR9, hide (by have := hpl.out; have := hn8h.out; simp; omega), hide (up_sum hS.out), hB9, hT9⟩
              case measure => simp [lenW]; have := hn8h.out; omega
        · have g1 : decide (1 < (n' : Int)) = false := by simp only [decide_eq_false_iff_not]; omega
          have hf : Hid (pre ++ [L] = lev (lvs xs)) := hide (by rw [hR.out, lev_one (by have := hn3.out; omega)])
          rw [hf.out] at hgr
          obtain ⟨Ao, co, rfl, _⟩ := hgr.form
          go_wp2
          go_ret
          exact ⟨_, rfl, hgr, hbr⟩
end Go.Proofs.YtjhgcppjpolamaaDoor
