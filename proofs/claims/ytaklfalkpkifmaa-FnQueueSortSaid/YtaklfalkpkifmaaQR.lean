/-
  'QueueTill' in both packages.
-/
import Derived.Test.YtaklfalkpkifmaaQL
import Derived.Test.YtaklfalkpkifmaaQP
namespace Go.Proofs.Ytaklfalkpkifmaa
open Go.RowKit Rg
set_option linter.unusedVariables false

/-- What comes up to a time, one after another. -/
def tillL (at_ : Int) (xs done : List Tm) : List Tm × List Tm :=
  if h : 0 < xs.length then if xs[0].1 ≤ at_ then tillL at_ (popL xs h) (done ++ [xs[0]]) else (xs, done) else (xs, done)
termination_by xs.length
decreasing_by rw [popL_len]; omega
theorem tillL_step {at_ : Int} {xs done : List Tm} (h : 0 < xs.length) (hl : xs[0].1 ≤ at_) : tillL at_ xs done = tillL at_ (popL xs h) (done ++ [xs[0]]) := by
  rw [tillL]; simp [h, hl]
theorem tillL_stop {at_ : Int} {xs done : List Tm} (h : 0 < xs.length) (hl : ¬ xs[0].1 ≤ at_) : tillL at_ xs done = (xs, done) := by
  rw [tillL]; simp [h, hl]
theorem tillL_end {at_ : Int} {xs done : List Tm} (h : ¬ 0 < xs.length) : tillL at_ xs done = (xs, done) := by
  rw [tillL]; simp [h]
/-- What 'QueueTill' answers. -/
def tillQ (at_ : Int) (xs : List Tm) : List Tm × List Tm := if okQ xs then tillL at_ xs [] else ([], [])
def lenOf' : Value → Nat
  | .slice _ n _ => n
  | _ => 0
theorem sl_one' (w : World) (b : Nat) (t : Tm) (e : TypeId) (hb : b = w.heap.size) : Sl encT 3 (w.alloc (.cells #[.int .i64 t.1, .int .i64 t.2.1, .int .i64 t.2.2] e)) 0 (b + 1) (some ⟨b, 0, none⟩) [t] := by
  subst hb
  exact sl_one w t e

theorem clipO_c {A : Option Addr} {n c lo : Nat} {xs : List Tm} {w : World} (ho : Own encT 3 31 w lo (.slice A n c) xs) :
    Calls Try.prog 48 #[.slice A n c] w fun e w' => e = .returned (.slice A n n) ∧ w = w' := by
  obtain ⟨A1, c1, he, h1, h2, h3⟩ := ho.form
  injection he with e1 e2 e3
  subst e1; subst e2; subst e3
  refine clip_c A xs.length c w h1 h2 ?_ ?_
  · rintro rfl
    rcases ho with ⟨h4, h5⟩ | ⟨g, cap, cur, he, _⟩
    · exact h5
    · injection he with he; cases he
  · intro a ha
    rcases h3 with h3 | ⟨g, h3, _⟩
    · rw [h3] at ha; cases ha
    · rw [h3] at ha; injection ha with ha; exact ⟨g, ha.symm⟩

set_option maxHeartbeats 2000000 in
theorem QueueTill_c (A : Option Addr) (n c lo hi : Nat) (at_ : Int) (xs : List Tm) (w : World) (hn : n = xs.length) (hb : n ≤ 1048576) (hc : n ≤ c) (hc2 : c ≤ maxLen) (hs : Sl encT 3 w lo hi A xs) (hhi : hi ≤ w.heap.size) :
    Calls Try.prog 28 #[.slice A n c, .int .i64 at_] w fun e w' => ∃ v u, e = .returned (.tuple #[v, u]) ∧ Own encT 3 31 w' w.heap.size v (tillQ at_ xs).1 ∧ Own encT 3 31 w' w.heap.size u (tillQ at_ xs).2 ∧ (∀ b, v.ownBlock = some b → u.ownBlock = some b → False) ∧ Below w.heap.size w w' := by
  have hn' := hide hn
  clear hn
  go_enter Try.func28, Try.ntmps28
  go_wp2_with fail
  refine (QueueOk_c A n c lo hi xs _ hn'.out hb hc hc2 hs hhi).mono ?_
  rintro e w1 ⟨rfl, hB1⟩
  cases e1 : decide (okQ xs)
  · have hno : tillQ at_ xs = ([], []) := by simp at e1; simp [tillQ, e1]
    go_wp2
    refine bodyPost_ret (v := .tuple #[.slice none 0 0, .slice none 0 0]) (by simp [results, Try.results28, go_sem]) rfl ⟨_, _, rfl, ?_, ?_, ?_, hB1⟩
    · rw [hno]; exact Own.nil_ _ _ _ _ _
    · rw [hno]; exact Own.nil_ _ _ _ _ _
    · intro b h; simp [Value.ownBlock] at h
  · have hok : Hid (okQ xs) := hide (of_decide_eq_true e1)
    have hle : n ≤ 20 := by have := hok.out.2; have := hn'.out; omega
    have hq : Hid (tillQ at_ xs = tillL at_ xs []) := hide (by rw [tillQ, if_pos hok.out])
    go_wp2_with fail
    refine (clone_c A n c lo hi xs w1 hn'.out hb (hs.below hB1 hhi) (Nat.le_trans hhi hB1.size)).mono ?_
    rintro e w2 ⟨A', rfl, ho2', hb2⟩
    have hB2 : Below w.heap.size w w2 := hB1.trans (hb2.mono hB1.size)
    have ho2 := ho2'.mono hB1.size
    have hA : ∀ g, A' = some ⟨g, 0, none⟩ → g < w2.heap.size := fun g hg => (ho2.lt g (by rw [hg]; rfl)).2
    go_wp2
    go_loopw [6, 7, 8, 9] (fun ov rv _ _ wr => ∃ (k : Nat) (rest done : List Tm), ov = .slice A' k n ∧ Hid (k = rest.length) ∧ Hid (k + done.length = n) ∧ Own encT 3 31 wr w.heap.size (.slice A' k n) rest ∧ Own encT 3 31 wr w2.heap.size rv done ∧ Hid (tillL at_ rest done = tillL at_ xs []) ∧ Below w.heap.size w wr ∧ w2.heap.size ≤ wr.heap.size) (fun ov _ _ _ _ => lenOf' ov)
    case atStart => exact ⟨n, xs, [], rfl, hn', hide (by simp), ho2, Own.nil_ _ _ _ _ _, hide rfl, hB2, Nat.le_refl _⟩
    case round =>
      obtain ⟨k, rest, done, rfl, hkl, hsum, hor, hod, hte, hbr, hw2⟩ := hrel
      obtain ⟨Ad, cd, rfl, hcd1, hcd2, hsd⟩ := hod.sl encT_len
      by_cases hk0 : 0 < k
      · have d1 : decide (0 < (k : Int)) = true := by simpa using hk0
        have h0 : 0 < rest.length := by have := hkl.out; omega
        obtain ⟨g, rfl, hg1, hg2⟩ := hor.addrAt (k := 0) hk0
        have hgw := hA g rfl
        obtain ⟨z1, z2, z3⟩ := hor.tm h0
        simp only [Nat.zero_mul, Nat.zero_add] at z1 z2 z3
        by_cases hle2 : rest[0].1 ≤ at_
        · have d2 : decide (rest[0].1 ≤ at_) = true := by simpa using hle2
          obtain ⟨m, rfl⟩ : ∃ m, k = m + 1 := ⟨k - 1, by omega⟩
          go_wp2_with fail
          refine (pop_c g m n w.heap.size rest wr hkl.out h0 (by have := hsum.out; omega) hor).mono ?_
          rintro e w3 ⟨rfl, ho3, hon3⟩
          have hB3 : Below w.heap.size w w3 := hbr.trans (hon3.toBelow hbr.size (fun b hb => by cases hb; exact hg1))
          have hod3 := hod.only hon3 (Nat.le_refl _) (fun b hb hb' => by have := (hod.lt b hb).1; cases hb'; omega)
          have hsz3 : w2.heap.size ≤ w3.heap.size := Nat.le_trans hw2 hon3.size
          clear z1 z2 z3
          have hdl : done.length ≤ 20 := by have := hsum.out; omega
          go_wp2_with (at_builtin; refine wpList_app encT_len (by omega) encT_one rfl _ _ 25 rfl 31 _ 24 Try.underlying25 info_T rfl w2.heap.size _ done rfl ((hod3.alloc _).alloc _) 0 _ _ [rest[0]] _ _ rfl rfl (sl_one' (w3.alloc _) _ rest[0] _ (by simp)) ?h2 ?h3 ?_)
          case h2 => simp [maxLen]; omega
          case h3 => simp; omega
          intro v5 w5 ho5 hg5 hb5
          go_wp2
          go_roundw
          case rel =>
            exact ⟨m, popL rest h0, done ++ [rest[0]], rfl, hide ho3.lenEq, hide (by have := hsum.out; simp; omega), ((ho3.alloc _).alloc _).keep (fun b hb => hb5.block b (by cases hb; exact hgw)), ho5, hide ((tillL_step h0 hle2).symm.trans hte.out), ((hB3.alloc hB3.size _).alloc (by simp; have := hB3.size; omega) _).trans (hb5.mono hB2.size), by have := hb5.size; simp at this; omega⟩
          case measure => simp [lenOf']
        · have d2 : decide (rest[0].1 ≤ at_) = false := by simpa using hle2
          have hf := hide ((tillL_stop (done := done) h0 hle2).symm.trans hte.out)
          clear hte
          go_wp2_with fail
          refine (clone_c _ k n _ _ rest wr hkl.out (by have := hsum.out; omega) (hor.slAt encT_len).2.2 (Nat.le_refl _)).mono ?_
          rintro e w3 ⟨A3, rfl, ho3, hb3⟩
          have hB3 : Below w.heap.size w w3 := hbr.trans (hb3.mono hbr.size)
          have hod3 := hod.below hb3 (Nat.le_refl _)
          go_wp2_with fail
          refine (clipO_c hod3).mono ?_
          rintro e w4 ⟨rfl, rfl⟩
          go_wp2
          refine bodyPost_ret (v := .tuple #[.slice A3 k k, .slice Ad done.length done.length]) (by simp [results, Try.results28, go_sem]) rfl ⟨.slice A3 k k, .slice Ad done.length done.length, rfl, ?_, ?_, ?_, hB3⟩
          · rw [hq.out, ← hf.out]; exact ho3.mono hbr.size
          · rw [hq.out, ← hf.out]; exact hod3.clip.mono hB2.size
          · intro b h1 h2
            have g1 := (ho3.lt b h1).1
            have g2 := (hod.clip.lt b h2).2
            omega
      · have d1 : decide (0 < (k : Int)) = false := by simpa using hk0
        have hf := hide ((tillL_end (at_ := at_) (xs := rest) (done := done) (by have := hkl.out; omega)).symm.trans hte.out)
        clear hte
        go_wp2_with fail
        refine (clone_c _ k n _ _ rest wr hkl.out (by have := hsum.out; omega) (hor.slAt encT_len).2.2 (Nat.le_refl _)).mono ?_
        rintro e w3 ⟨A3, rfl, ho3, hb3⟩
        have hB3 : Below w.heap.size w w3 := hbr.trans (hb3.mono hbr.size)
        have hod3 := hod.below hb3 (Nat.le_refl _)
        go_wp2_with fail
        refine (clipO_c hod3).mono ?_
        rintro e w4 ⟨rfl, rfl⟩
        go_wp2
        refine bodyPost_ret (v := .tuple #[.slice A3 k k, .slice Ad done.length done.length]) (by simp [results, Try.results28, go_sem]) rfl ⟨.slice A3 k k, .slice Ad done.length done.length, rfl, ?_, ?_, ?_, hB3⟩
        · rw [hq.out, ← hf.out]; exact ho3.mono hbr.size
        · rw [hq.out, ← hf.out]; exact hod3.clip.mono hB2.size
        · intro b h1 h2
          have g1 := (ho3.lt b h1).1
          have g2 := (hod.clip.lt b h2).2
          omega
end Go.Proofs.Ytaklfalkpkifmaa
