/-
  What the law on picks draws; the best claim at a place. (Printed by gen_nvb.py.)
  Conditions: none.
-/
import Derived.Test.YtphlnihmfgmecaaNVa
import Derived.Test.YtphlnihmfgmecaaNW
namespace Go.Proofs.Ytphlnihmfgmecaa
open Go.RowKit Rg
set_option linter.unusedVariables false
set_option linter.unusedSimpArgs false

set_option maxRecDepth 100000 in
set_option maxHeartbeats 2000000 in
theorem DrawPickAll_c (A : Option Addr) (n c : Nat) (bs : List Int) (w : World) (hn : n = bs.length) (hc : n ≤ c) (hcm : c ≤ maxLen) (hs : Sl encU 1 w 0 w.heap.size A bs) (hb : ∀ b ∈ bs, 0 ≤ b ∧ b < 256) :
    Calls Try.prog 17 #[.slice A n c] w fun e w' => ∃ (A' : Option Addr) (n' c' : Nat) (ts : List VoteT), e = .returned (.slice A' n' c') ∧ RdN 2 voteR w' w.heap.size w'.heap.size A' n' c' ts ∧ ts.length ≤ 5 ∧ Below w.heap.size w w' := by
  have hn' := hide hn
  have hb' := hide hb
  clear hn hb
  go_enter Try.func17, Try.ntmps17
  go_wp2_with fail
  refine (l20Open_c A n c bs w hn'.out hc hcm hs hb'.out).mono ?_
  rintro e w1 ⟨rfl, hr1, hb1⟩
  have hl1 := hr1.lt
  go_wp2_with fail
  refine (l20Votes_c w.heap.size 0 w1 hr1 (by omega)).mono ?_
  rintro e w2 ⟨v2, ts, rfl, hlen, hg2, hr2, ho2⟩
  have hB2 := hb1.trans (ho2.toBelow hb1.size (fun k hk => by injection hk with hk; omega))
  have hz2 := hB2.size
  have hz12 := ho2.size
  obtain ⟨A2, c2, rfl, h21, h22, _⟩ := hg2.form
  have hlen' := hide hlen
  cases ts with
  | nil =>
    have hrd := hide (hg2.rdn vote_kept)
    go_wp2
    go_ret
    exact ⟨A2, _, c2, [], rfl, (hrd.out).mono vote_kept (by omega) (Nat.le_refl _), by simp, hB2⟩
  | cons t0 ts0 =>
    have d1 : decide (0 < ((t0 :: ts0).length : Int)) = true := by simp
    have d2 : decide (0 < (t0 :: ts0).length) = true := by simp
    generalize hts : t0 :: ts0 = ts at *
    have h0 : 0 < ts.length := by rw [← hts]; simp
    clear hts
    unfold maxLen at h22
    go_wp2_with fail
    refine (pick_c w.heap.size _ 10 w2 hr2 (by omega) (by omega)).mono ?_
    rintro e w3 ⟨k3, rfl, hk3, hr3, ho3⟩
    have hB3 := hB2.trans (ho3.toBelow hB2.size (fun k hk => by injection hk with hk; omega))
    have hg3 := hg2.only vote_kept ho3 hl1
    have hz3 := hB3.size
    clear hk3
    cases e1 : ((k3 : Int) == 0)
    · have hrd := hide (hg3.rdn vote_kept)
      go_wp2
      go_ret
      exact ⟨A2, _, c2, ts, rfl, (hrd.out).mono vote_kept (by omega) (Nat.le_refl _), by have := hlen'.out; omega, hB3⟩
    · obtain ⟨ls, hown, hll, hpa⟩ := hg3
      have hll0 : 0 < ls.length := by omega
      obtain ⟨g, rfl, hg1, hgl⟩ := hown.addrAt (k := 0) h0
      obtain ⟨lo', hi', q1, q2, q3, A4, n4, c4, hval, hrd⟩ := hpa 0 hll0 h0
      have hcells := (hown.slAt Cs.len).2.2.at_ hll0
      have x0 : w3.cell? ⟨g, 0, none⟩ = some (.int .i64 (ts[0]'h0).1) := by
        have := hcells 0 (.int .i64 (ts[0]'h0).1) (by rw [hval]; rfl)
        simpa using this
      have x1 : w3.cell? ⟨g, 1, none⟩ = some (.slice A4 n4 c4) := by
        have := hcells 1 (.slice A4 n4 c4) (by rw [hval]; rfl)
        simpa using this
      obtain ⟨y, hy⟩ : ∃ y : Cs 2, y.val = [.int .i64 (ts[0]'h0).1, .slice A4 n4 c4] := ⟨ls[0], hval⟩
      have hA := (Below.refl w3.heap.size w3).alloc (Nat.le_refl _) (.cells #[.int .i64 (ts[0]'h0).1, .slice A4 n4 c4] 30)
      have hsl : Sl Cs.val 2 (w3.alloc (.cells #[.int .i64 (ts[0]'h0).1, .slice A4 n4 c4] 30)) 0 (w3.heap.size + 1) (some ⟨w3.heap.size, 0, none⟩) [y] := (sl_arr Cs.len w3 #[.int .i64 (ts[0]'h0).1, .slice A4 n4 c4] 30 [y] (by simp [hy])).mono (Nat.zero_le _) (Nat.le_refl _)
      have hll' := hide hll
      have hpa' := hide hpa
      have hy' := hide hy
      have hrd' := hide hrd
      clear hll hpa hy hrd hval hcells
      go_wp2_with (first
        | (at_builtin; refine wpList_appG Cs.len (by omega) Cs.one rfl _ _ 23 rfl 30 _ 32 Try.underlying23 infoVoteD rfl w1.heap.size _ ls rfl (hown.alloc _) 0 _ _ [y] _ _ rfl rfl hsl ?h2 ?h3 ?_)
        | fail)
      case h2 => have := hll'.out; have := hlen'.out; simp [maxLen]; omega
      case h3 => simp; omega
      intro v5 w5 hw5 hg5 hb5 hloc
      have hgr : Grow 2 30 voteR w5 w1.heap.size v5 (ts ++ [ts[0]'h0]) := by
        have hk0 : ∀ (i : Nat) (hl : i < ls.length) (ht : i < ts.length), Apart voteR (w3.alloc (.cells #[.int .i64 (ts[0]'h0).1, .slice A4 n4 c4] 30)) w1.heap.size _ ls[i].val ts[i] := fun i hl ht => (hpa'.out i hl ht).keep vote_kept hA.size (fun b _ h2 _ => hA.block b h2)
        refine Grow.snoc vote_kept (lo2 := lo') (hi2 := hi') ⟨ls, hown.alloc _, hll'.out, hk0⟩ hk0 hll'.out hw5 hg5 (by simpa using hloc) q1 (Nat.le_trans q2 hA.size) q3 ?_
        rw [hy'.out]
        exact ⟨A4, n4, c4, rfl, hrd'.out.below (flat_kept _) hA q2⟩
      obtain ⟨A5, c5, rfl, _, _, _⟩ := hgr.form
      have hB5 : Below w.heap.size w w5 := hB3.trans ((hA.mono hz3).trans (hb5.mono hb1.size))
      have hrd5 := hide (hgr.rdn vote_kept)
      have hz5 := hB5.size
      go_wp2
      go_ret
      exact ⟨A5, _, c5, ts ++ [ts[0]'h0], rfl, (hrd5.out).mono vote_kept hb1.size (Nat.le_refl _), by have := hlen'.out; simp; omega, hB5⟩
set_option maxHeartbeats 1000000 in
theorem run_neq_reqD (r : ReqV) (w : World) : (binOp .neq 32 (.agg #[.int .i64 r.1, .int .i64 r.2.1, .int .i64 r.2.2.1, .int .i64 r.2.2.2.1, .int .i64 r.2.2.2.2]) (.agg #[.int .i64 r.1, .int .i64 r.2.1, .int .i64 r.2.2.1, .int .i64 r.2.2.2.1, .int .i64 r.2.2.2.2])).run Try.prog w = .ok (.bool false) w := by
  obtain ⟨a, b, c, x, y⟩ := r
  go_simp
theorem wpReqs_same {A B : Option Addr} {n m c d lo lo' : Nat} {e1 e2 : TypeId} {xs : List ReqV} {w : World} (hs : Own encReq 5 e1 w lo (.slice A n c) xs) (hs' : Own encReq 5 e2 w lo' (.slice B m d) xs) :
    Calls Try.prog 19 #[.slice A n c, .slice B m d] w fun e w' => e = .returned (.bool true) ∧ Below w.heap.size w w' := by
  obtain rfl : n = m := by rw [hs.lenEq, hs'.lenEq]
  have hn' := hide hs.lenEq
  have hc1 := hs.cap
  have hc2 := hs'.cap
  unfold maxLen at hc1 hc2
  have e0 : ((n : Int) != (n : Int)) = false := by simp
  have ss := (hs.slAt encReq_len).2.2
  have ss' := (hs'.slAt encReq_len).2.2
  go_enter Try.func19, Try.ntmps19
  go_wp2
  go_loopw [5] (fun iv wr => ∃ k : Nat, k ≤ n ∧ iv = .int .i64 (k : Int) ∧ Below w.heap.size w wr) (fun iv _ => n - (intOf iv).toNat)
  case atStart => exact ⟨0, Nat.zero_le _, rfl, Below.refl _ _⟩
  case round =>
    obtain ⟨k, hk, rfl, hbr⟩ := hrel
    by_cases hlt : k < n
    · have hlx : k < xs.length := by have := hn'.out; omega
      obtain ⟨b, rfl, _, _⟩ := hs.addrAt hlt
      obtain ⟨b', rfl, _, _⟩ := hs'.addrAt hlt
      obtain ⟨a1, a2, a3, a4, a5⟩ := (ss.below hbr (Nat.le_refl _)).getReq hlx
      obtain ⟨c1, c2', c3, c4, c5⟩ := (ss'.below hbr (Nat.le_refl _)).getReq hlx
      simp only [Nat.zero_add] at a1 a2 a3 a4 a5 c1 c2' c3 c4 c5
      have hq := fun W => run_neq_reqD xs[k] W
      go_wp2
      refine wp_region_T (fun _ => True) [] [] [] [0, 1, 2, 3, 4, 5, 6, 7, 8] (by kernel_rfl) (by kernel_rfl) (by kernel_rfl) trivial ?_; simp only [pickL, List.getElem?_cons_succ, List.getElem?_cons_zero]
      go_wp2_with (first
        | (with_reducible refine Since.and_ ?_ ?_; (focus (repeat (first | (with_reducible exact Since.refl _) | assumption | (with_reducible refine Since.drewR ?_) | (with_reducible refine Since.alloc ?_ _) | ((with_reducible apply Since.below); rotate_left; (focus assumption))))); intro hS) | ((with_reducible refine wpT_noL ?_ ?_); (focus (first | exact wanted_no _ _ _ rfl rfl rfl | exact wanted_un _ _ _ rfl rfl rfl)); simp only [setO, List.set_cons_succ, List.set_cons_zero]) | ((with_reducible refine wpT_q0 ?_ ?_ ?_ ?_); (focus rfl); (focus rfl); (focus rfl); intro K hK) | ((with_reducible apply wpT_l); (focus rfl); (focus rfl); (focus rfl); (focus rfl); (focus (first | exact Since.drew _ | assumption)); (focus (simp <;> omega)); (focus go_simp); intro K hK) | ((with_reducible apply wpT_lw); (focus exact wanted_yes _ _ _ rfl rfl rfl); (focus rfl); (focus rfl); (focus rfl); (focus (first | exact Since.drew _ | assumption)); (focus (simp <;> omega)); (focus go_simp); intro K hK) | ((with_reducible refine wpT_xs0 ?_ ?_ ?_); (focus rfl); (focus rfl); intro K hK) | ((with_reducible refine wpT_q1 ?_ ?_ ?_ ?_); (focus exact wanted_yes _ _ _ rfl rfl rfl); (focus rfl); (focus rfl); intro K hK) | ((with_reducible refine wpT_xs1 ?_ ?_ ?_); (focus exact wanted_yes _ _ _ rfl rfl rfl); (focus rfl); intro K hK) | ((with_reducible refine wpT_nil ?_); try dsimp only)
        | fail)
      go_roundw
      case rel => exact ⟨k + 1, by omega, by go_num, hbr.drew⟩
      case measure => simp [intOf]; omega
    · obtain rfl : k = n := by omega
      go_wp2
      go_ret
      exact ⟨rfl, hbr⟩

/-! The best claim at a place, as the law reckons it. -/
abbrev BestS := Int × Bool
def bestStep (seq : Int) (R : ReqV) (s : BestS) (c : ClaimT) : BestS :=
  if c.1 = seq then (if s.1 < c.2.1 then (c.2.1, decide (c.2.2 = R)) else (s.1, s.2 || (decide (c.2.1 = s.1) && decide (c.2.2 = R)))) else s
def bestS (seq : Int) (R : ReqV) (cs : List ClaimT) : BestS := cs.foldl (bestStep seq R) (-1, false)
theorem bestS_snoc (seq : Int) (R : ReqV) (cs : List ClaimT) (c : ClaimT) : bestS seq R (cs ++ [c]) = bestStep seq R (bestS seq R cs) c := by rw [bestS, List.foldl_append]; rfl
structure BestI (seq : Int) (R : ReqV) (cs : List ClaimT) (s : BestS) : Prop where
  top : ∀ c ∈ cs, c.1 = seq → c.2.1 ≤ s.1
  one : s.1 = -1 ∨ ∃ c ∈ cs, c.1 = seq ∧ c.2.1 = s.1
  yes : (∃ c ∈ cs, c.1 = seq ∧ c.2.1 = s.1 ∧ c.2.2 = R) → s.2 = true
theorem bestI (seq : Int) (R : ReqV) (cs : List ClaimT) : BestI seq R cs (bestS seq R cs) := by
  refine rev_ind (P := fun cs => BestI seq R cs (bestS seq R cs)) ⟨by simp, .inl rfl, by simp⟩ (fun cs c ih => ?_) cs
  rw [bestS_snoc]
  unfold bestStep
  by_cases h1 : c.1 = seq
  · rw [if_pos h1]
    by_cases h2 : (bestS seq R cs).1 < c.2.1
    · rw [if_pos h2]
      refine ⟨fun d hd hs => ?_, .inr ⟨c, by simp, h1, rfl⟩, fun ⟨d, hd, hs, hv, hr⟩ => ?_⟩
      · rcases List.mem_append.1 hd with hd | hd
        · have := ih.top d hd hs
          show d.2.1 ≤ c.2.1
          omega
        · rw [List.mem_singleton] at hd; subst hd; exact Int.le_refl _
      · rcases List.mem_append.1 hd with hd | hd
        · have h3 := ih.top d hd hs
          have h4 : d.2.1 = c.2.1 := hv
          omega
        · rw [List.mem_singleton] at hd; subst hd
          simpa using hr
    · rw [if_neg h2]
      refine ⟨fun d hd hs => ?_, ?_, fun ⟨d, hd, hs, hv, hr⟩ => ?_⟩
      · rcases List.mem_append.1 hd with hd | hd
        · exact ih.top d hd hs
        · rw [List.mem_singleton] at hd; subst hd
          show d.2.1 ≤ (bestS seq R cs).1
          omega
      · rcases ih.one with h | ⟨d, hd, h⟩
        · exact .inl h
        · exact .inr ⟨d, by simp [hd], h⟩
      · show ((bestS seq R cs).2 || (decide (c.2.1 = (bestS seq R cs).1) && decide (c.2.2 = R))) = true
        rcases List.mem_append.1 hd with hd | hd
        · rw [ih.yes ⟨d, hd, hs, hv, hr⟩]; rfl
        · rw [List.mem_singleton] at hd; subst hd
          have hv' : d.2.1 = (bestS seq R cs).1 := hv
          simp [hv', hr]
  · rw [if_neg h1]
    refine ⟨fun d hd hs => ?_, ?_, fun ⟨d, hd, hs, hv, hr⟩ => ?_⟩
    · rcases List.mem_append.1 hd with hd | hd
      · exact ih.top d hd hs
      · rw [List.mem_singleton] at hd; subst hd; exact absurd hs h1
    · rcases ih.one with h | ⟨d, hd, h⟩
      · exact .inl h
      · exact .inr ⟨d, by simp [hd], h⟩
    · rcases List.mem_append.1 hd with hd | hd
      · exact ih.yes ⟨d, hd, hs, hv, hr⟩
      · rw [List.mem_singleton] at hd; subst hd; exact absurd hs h1
structure PickI (seq : Int) (cs : List ClaimT) (s : PickS) : Prop where
  none_ : s.1 = false → (∀ c ∈ cs, ¬ c.1 = seq) ∧ s.2.2 = (0, 0, 0, 0, 0)
  some_ : s.1 = true → (∃ c ∈ cs, c.1 = seq ∧ c.2 = s.2) ∧ ∀ c ∈ cs, c.1 = seq → c.2.1 ≤ s.2.1
theorem pickI (seq : Int) (cs : List ClaimT) : PickI seq cs (pickS seq cs) := by
  refine rev_ind (P := fun cs => PickI seq cs (pickS seq cs)) ⟨fun _ => ⟨by simp, rfl⟩, fun h => (by cases h)⟩ (fun cs c ih => ?_) cs
  rw [pickS_snoc]
  unfold pickStep
  by_cases h1 : c.1 = seq ∧ ((pickS seq cs).1 = false ∨ (pickS seq cs).2.1 < c.2.1)
  · rw [if_pos h1]
    refine ⟨fun h => (by cases h), fun _ => ⟨⟨c, by simp, h1.1, rfl⟩, fun d hd hs => ?_⟩⟩
    rcases List.mem_append.1 hd with hd | hd
    · rcases h1.2 with h2 | h2
      · exact absurd hs ((ih.none_ h2).1 d hd)
      · cases e : (pickS seq cs).1
        · exact absurd hs ((ih.none_ e).1 d hd)
        · have := (ih.some_ e).2 d hd hs
          show d.2.1 ≤ c.2.1
          omega
    · rw [List.mem_singleton] at hd; subst hd; exact Int.le_refl _
  · rw [if_neg h1]
    refine ⟨fun h => ⟨fun d hd hs => ?_, (ih.none_ h).2⟩, fun h => ⟨?_, fun d hd hs => ?_⟩⟩
    · rcases List.mem_append.1 hd with hd | hd
      · exact (ih.none_ h).1 d hd hs
      · rw [List.mem_singleton] at hd; subst hd; exact h1 ⟨hs, .inl h⟩
    · obtain ⟨d, hd, hs⟩ := (ih.some_ h).1
      exact ⟨d, by simp [hd], hs⟩
    · rcases List.mem_append.1 hd with hd | hd
      · exact (ih.some_ h).2 d hd hs
      · rw [List.mem_singleton] at hd; subst hd
        have : ¬ (pickS seq cs).2.1 < d.2.1 := fun h2 => h1 ⟨hs, .inr h2⟩
        omega
theorem okVs_view {vs : List VoteT} (h : okVs vs) {c : ClaimT} (hc : c ∈ clsOf vs) : 0 ≤ c.2.1 := by
  obtain ⟨v, hv, hc⟩ := List.mem_flatMap.1 hc
  obtain ⟨i, hi, rfl⟩ := List.mem_iff_getElem.1 hv
  obtain ⟨_, _, h4, _⟩ := h i hi
  obtain ⟨j, hj, rfl⟩ := List.mem_iff_getElem.1 hc
  obtain ⟨_, h5, _⟩ := h4 j hj
  unfold okCl at h5
  simp only [Bool.and_eq_true] at h5
  have := h5.2.1
  unfold inB at this
  simp at this
  omega
/-- Where something was claimed, what is picked is of the latest view. -/
theorem best_yes {vs : List VoteT} (h : okVs vs) (seq : Int) (hb : 0 ≤ (bestS seq (pickOf (clsOf vs) seq) (clsOf vs)).1) : (bestS seq (pickOf (clsOf vs) seq) (clsOf vs)).2 = true := by
  have hi := bestI seq (pickOf (clsOf vs) seq) (clsOf vs)
  have hp := pickI seq (clsOf vs)
  rcases hi.one with h1 | ⟨d, hd, hs, hv⟩
  · omega
  · cases e : (pickS seq (clsOf vs)).1
    · exact absurd hs ((hp.none_ e).1 d hd)
    · obtain ⟨⟨c, hc, hcs, hc2⟩, hmax⟩ := hp.some_ e
      refine hi.yes ⟨c, hc, hcs, ?_, ?_⟩
      · have h2 := hi.top c hc hcs
        have h3 := hmax d hd hs
        have h4 : c.2.1 = (pickS seq (clsOf vs)).2.1 := by rw [hc2]
        omega
      · rw [hc2]; rfl
theorem best_no {vs : List VoteT} (h : okVs vs) {seq : Int} (R : ReqV) (h1 : 1 ≤ seq) (hb : (bestS seq R (clsOf vs)).1 < 0) : pickOf (clsOf vs) seq = (0, 0, 0, 0, 0) ∧ seq ≠ topOf (clsOf vs) := by
  have hi := bestI seq R (clsOf vs)
  have hno : ∀ c ∈ clsOf vs, ¬ c.1 = seq := fun c hc hs => by
    have := hi.top c hc hs
    have := okVs_view h hc
    omega
  have hp := pickI seq (clsOf vs)
  constructor
  · cases e : (pickS seq (clsOf vs)).1
    · exact (hp.none_ e).2
    · obtain ⟨⟨c, hc, hcs, _⟩, _⟩ := hp.some_ e
      exact absurd hcs (hno c hc)
  · intro e
    rcases topOf_mem (clsOf vs) with h2 | ⟨c, hc, hcs⟩
    · omega
    · exact hno c hc (by omega)
theorem picksL_len (vs : List VoteT) : (picksL vs).length = (topOf (clsOf vs)).toNat := by simp [picksL]
theorem picksL_get (vs : List VoteT) (i : Nat) (h : i < (picksL vs).length) : (picksL vs)[i] = pickOf (clsOf vs) ((i : Int) + 1) := by simp [picksL]
end Go.Proofs.Ytphlnihmfgmecaa
