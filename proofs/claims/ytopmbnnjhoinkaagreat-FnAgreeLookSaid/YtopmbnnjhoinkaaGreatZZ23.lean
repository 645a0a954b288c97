/-
  What 'LAc' rests on (texts of this seat put together: NSh).
  Conditions: none.
-/
import Derived.Test.YtopmbnnjhoinkaaGreatZZ22
namespace Go.Proofs.YtopmbnnjhoinkaaGreat
open Go.RowKit Rg Go.Maps
set_option linter.unusedVariables false
set_option linter.unusedSimpArgs false
set_option maxHeartbeats 1000000
theorem okCls_lt {cs : List ClaimT} (h : okCls cs) : ∀ (j i : Nat) (hj : j < cs.length) (hi : i < j), (cs[i]'(by omega)).1 < cs[j].1
  | 0, i, hj, hi => by omega
  | j + 1, i, hj, hi => by
    obtain ⟨_, _, h1⟩ := h (j + 1) hj
    have h2 := h1 (by omega)
    have e : j + 1 - 1 = j := by omega
    have h3 : cs[j].1 < cs[j + 1].1 := by simpa using h2
    by_cases hij : i = j
    · subst hij; exact h3
    · have := okCls_lt h j i (by omega) (by omega)
      omega
theorem okCls_inj {cs : List ClaimT} (h : okCls cs) {c d : ClaimT} (hc : c ∈ cs) (hd : d ∈ cs) (e : c.1 = d.1) : c = d := by
  obtain ⟨i, hi, rfl⟩ := List.mem_iff_getElem.1 hc
  obtain ⟨j, hj, rfl⟩ := List.mem_iff_getElem.1 hd
  rcases Nat.lt_trichotomy i j with h1 | h1 | h1
  · have := okCls_lt h j i hj h1; omega
  · subst h1; rfl
  · have := okCls_lt h i j hi h1; omega
def clashFree (t : WorldT) (c : ClaimT) (k : Nat) : Prop := ∀ (hk : k < t.2.1.length), (k : Int) ≠ t.1 → ∀ (b : Nat) (hb : b < t.2.1[k].2.2.2.2.2.2.length), t.2.1[k].2.2.2.2.2.2[b].1 = c.1 → t.2.1[k].2.2.2.2.2.2[b].2.2 = c.2.2
def claimFine (t : WorldT) (i : Nat) (c : ClaimT) : Prop := askOk t.2.2 c ∧ ∀ k, k < i → clashFree t c k
def repFine (t : WorldT) (i : Nat) : Prop := ∀ (hi : i < t.2.1.length), (i : Int) ≠ t.1 → ∀ (a : Nat) (ha : a < t.2.1[i].2.2.2.2.2.2.length), claimFine t i t.2.1[i].2.2.2.2.2.2[a]
theorem mem_hcl {t : WorldT} (hre : okReps t.2.1) {i : Nat} (hi : i < t.2.1.length) (hb : (i : Int) ≠ t.1) {c : ClaimT} (hc : c ∈ t.2.1[i].2.2.2.2.2.2) : c ∈ hcl t.1 t.2.1 :=
  List.mem_flatMap.2 ⟨t.2.1[i], List.getElem_mem hi, by
    unfold doneH
    rw [(okReps_done hre hi).2, if_neg hb]
    exact hc⟩
theorem hcl_mem {t : WorldT} (hre : okReps t.2.1) {c : ClaimT} (hc : c ∈ hcl t.1 t.2.1) : ∃ (i : Nat) (hi : i < t.2.1.length), (i : Int) ≠ t.1 ∧ c ∈ t.2.1[i].2.2.2.2.2.2 := by
  obtain ⟨r, hr, hx⟩ := List.mem_flatMap.1 hc
  obtain ⟨i, hi, rfl⟩ := List.mem_iff_getElem.1 hr
  unfold doneH at hx
  rw [(okReps_done hre hi).2] at hx
  split at hx
  · cases hx
  · rename_i h; exact ⟨i, hi, h, hx⟩
theorem fine_good {t : WorldT} (hre : okReps t.2.1) (h : ∀ i, i < t.2.1.length → repFine t i) : GoodL t.2.2 (hcl t.1 t.2.1) := by
  have key : ∀ (i j : Nat) (hi : i < t.2.1.length) (hj : j < t.2.1.length) (hb : (i : Int) ≠ t.1) (hb2 : (j : Int) ≠ t.1) (c d : ClaimT), c ∈ t.2.1[i].2.2.2.2.2.2 → d ∈ t.2.1[j].2.2.2.2.2.2 → i < j → c.1 = d.1 → c.2.2 = d.2.2 := by
    intro i j hi hj hb hb2 c d hc hd hij e
    obtain ⟨a, ha, rfl⟩ := List.mem_iff_getElem.1 hc
    obtain ⟨b, hb', rfl⟩ := List.mem_iff_getElem.1 hd
    exact ((h j hj) hj hb2 b hb').2 i hij hi hb a ha e
  refine ⟨fun c hc => ?_, fun c hc d hd e => ?_⟩
  · obtain ⟨i, hi, hb, hx⟩ := hcl_mem hre hc
    obtain ⟨a, ha, rfl⟩ := List.mem_iff_getElem.1 hx
    exact ((h i hi) hi hb a ha).1
  · obtain ⟨i, hi, hb, hx⟩ := hcl_mem hre hc
    obtain ⟨j, hj, hb2, hy⟩ := hcl_mem hre hd
    rcases Nat.lt_trichotomy i j with h1 | h1 | h1
    · exact key i j hi hj hb hb2 c d hx hy h1 e
    · subst h1
      have := okCls_inj (okReps_done hre hi).1 hx hy e
      rw [this]
    · exact (key j i hj hi hb2 hb d c hy hx h1 e.symm).symm
theorem l4Asked_c (ts : List MsgT) (r : ReqV) (A0 : Option Addr) (n0 c0 lo hi : Nat) (w : World) (hs : RdN 11 msgR w lo hi A0 n0 c0 ts) (hhi : hi ≤ w.heap.size) :
    Calls Tryz.prog 30 #[.slice A0 n0 c0, .agg #[.int .i64 r.1, .int .i64 r.2.1, .int .i64 r.2.2.1, .int .i64 r.2.2.2.1, .int .i64 r.2.2.2.2]] w fun e w' => e = .returned (.bool (decide (askM r ∈ ts))) ∧ Below w.heap.size w w' := by
  have hA := (Below.refl w.heap.size w).alloc (Nat.le_refl _) (.cells #[.int .i64 r.1, .int .i64 r.2.1, .int .i64 r.2.2.1, .int .i64 r.2.2.2.1, .int .i64 r.2.2.2.2] 39)
  have hz := hA.size
  go_enter Tryz.func30, Tryz.ntmps30
  go_wp2_with fail
  refine (l3Has_c ts (askM r) A0 n0 c0 lo hi 0 0 none none 0 0 0 0 _ (hs.below msg_kept hA hhi) (RdN.nil_ _ _ _ _ _ _ _ (by simp [maxLen])) (RdN.nil_ _ _ _ _ _ _ _ (by simp [maxLen])) (Nat.le_trans hhi hz) (Nat.zero_le _)).mono ?_
  rintro e w1 ⟨rfl, hb1⟩
  go_wp2
  go_ret
  exact ⟨rfl, hA.trans (hb1.mono hz)⟩
set_option maxRecDepth 100000 in
set_option maxHeartbeats 4000000 in
theorem l6Agree_c (t : WorldT) (A B : Option Addr) (n c p d : Nat) (lo hi : Nat) (w : World) (h0 : RdN 7 repR w lo hi A n c t.2.1) (h1 : RdN 11 msgR w lo hi B p d t.2.2) (hhi : hi ≤ w.heap.size) (hre0 : okReps t.2.1) :
    Calls Tryz.prog 13 #[.agg #[.int .i64 t.1, .slice A n c, .slice B p d]] w fun e w' => e = .returned (.bool (decide (GoodL t.2.2 (hcl t.1 t.2.1)))) ∧ Below w.heap.size w w' := by
  have hB : Below w.heap.size w (w.alloc (.cells #[.int .i64 t.1, .slice A n c, .slice B p d] 26)) := (Below.refl _ _).alloc (Nat.le_refl _) _
  have hl : w.heap.size < (w.alloc (.cells #[.int .i64 t.1, .slice A n c, .slice B p d] 26)).heap.size := by simp
  have hn' := hide h0.len
  have hc1 := h0.cap
  have hc2 := h0.max
  unfold maxLen at hc2
  have hre := hide hre0
  clear hre0
  have x0 : (w.alloc (.cells #[.int .i64 t.1, .slice A n c, .slice B p d] 26)).cell? ⟨w.heap.size, 0, none⟩ = some (.int .i64 t.1) := by simp
  have x1 : (w.alloc (.cells #[.int .i64 t.1, .slice A n c, .slice B p d] 26)).cell? ⟨w.heap.size, 1, none⟩ = some (.slice A n c) := by simp
  have x2 : (w.alloc (.cells #[.int .i64 t.1, .slice A n c, .slice B p d] 26)).cell? ⟨w.heap.size, 2, none⟩ = some (.slice B p d) := by simp
  have g0 := h0.below rep_kept hB hhi
  have g1 := h1.below msg_kept hB hhi
  have hhi0 : hi ≤ (w.alloc (.cells #[.int .i64 t.1, .slice A n c, .slice B p d] 26)).heap.size := Nat.le_trans hhi hB.size
  go_enter Tryz.func13, Tryz.ntmps13
  go_wp2
  generalize w.alloc (.cells #[.int .i64 t.1, .slice A n c, .slice B p d] 26) = w0 at *
  go_loopw [3, 4, 6, 7] (fun iv _ _ _ wr => ∃ i : Nat, i ≤ n ∧ iv = .int .i64 (i : Int) ∧ Hid (∀ i', i' < i → repFine t i') ∧ Below w0.heap.size w0 wr) (fun iv _ _ _ _ => n - (intOf iv).toNat)
  case atStart => exact ⟨0, Nat.zero_le _, rfl, hide (fun i' h => absurd h (by omega)), Below.refl _ _⟩
  case round =>
    obtain ⟨i, hi', rfl, hfine, hbr⟩ := hrel
    have y0 := keepc hbr x0
    have y1 := keepc hbr x1
    have y2 := keepc hbr x2
    by_cases hlt : i < n
    · have hlx : i < t.2.1.length := by have := hn'.out; omega
      obtain ⟨b', off, rfl, hlo, hbh⟩ := g0.addr hlx
      obtain ⟨A1, n1, c1, B1, p1, d1, E1, q1, f1, a0, a1, a2, a3, a4, a5, a6, r0, r1, r2⟩ := g0.rep hlx
      have hq' := hide r2.len
      have hq1 := r2.cap
      have hq2 := r2.max
      unfold maxLen at hq2
      have a6r := keepc hbr a6
      cases e1 : ((i : Int) != t.1)
      · have hbad : Hid (repFine t i) := hide (fun _ h => absurd (by simpa using e1) h)
        go_wp2
        go_loopw [4, 6, 7] (fun av _ _ wr2 => av = .int .i64 0 ∧ Below w0.heap.size w0 wr2) (fun _ _ _ _ => 0)
        case atStart => exact ⟨rfl, hbr⟩
        case round =>
          obtain ⟨rfl, hbs⟩ := hrel
          have z0 := keepc hbs x0
          have z1 := keepc hbs x1
          have a6s := keepc hbs a6
          go_wp2
          all_goals
            go_roundw
            case rel => exact ⟨i + 1, by omega, by go_num, hide (allTo_succ hfine.out hbad.out), hbs⟩
            case measure => simp [intOf]; omega
      · have hne : Hid ((i : Int) ≠ t.1) := hide (by simpa using e1)
        go_wp2
        go_loopw [4, 6, 7] (fun av _ _ wr2 => ∃ a : Nat, a ≤ q1 ∧ av = .int .i64 (a : Int) ∧ Hid (∀ (a' : Nat) (h : a' < t.2.1[i].2.2.2.2.2.2.length), a' < a → claimFine t i t.2.1[i].2.2.2.2.2.2[a']) ∧ Below w0.heap.size w0 wr2) (fun av _ _ _ => q1 - (intOf av).toNat)
        case atStart => exact ⟨0, Nat.zero_le _, rfl, hide (fun a' _ h => absurd h (by omega)), hbr⟩
        case round =>
          obtain ⟨a, ha, rfl, hcf, hbs⟩ := hrel
          have z0 := keepc hbs x0
          have z1 := keepc hbs x1
          have z2 := keepc hbs x2
          have a6s := keepc hbs a6
          have hzs := hbs.size
          by_cases hla : a < q1
          · have hax : a < t.2.1[i].2.2.2.2.2.2.length := by have := hq'.out; omega
            obtain ⟨b2, off2, rfl, hlo2, hbh2⟩ := r2.addr hax
            obtain ⟨c0, c1', c2', c3, c4, c5, c6⟩ := (r2.below (flat_kept _) hbs hhi0).claim hax
            have hmem : Hid (t.2.1[i].2.2.2.2.2.2[a] ∈ hcl t.1 t.2.1) := hide (mem_hcl hre.out hlx hne.out (List.getElem_mem hax))
            have hA := (Below.refl wr.heap.size wr).alloc (Nat.le_refl _) (.cells #[.int .i64 t.2.1[i].2.2.2.2.2.2[a].1, .int .i64 t.2.1[i].2.2.2.2.2.2[a].2.1, .int .i64 t.2.1[i].2.2.2.2.2.2[a].2.2.1, .int .i64 t.2.1[i].2.2.2.2.2.2[a].2.2.2.1, .int .i64 t.2.1[i].2.2.2.2.2.2[a].2.2.2.2.1, .int .i64 t.2.1[i].2.2.2.2.2.2[a].2.2.2.2.2.1, .int .i64 t.2.1[i].2.2.2.2.2.2[a].2.2.2.2.2.2] 41)
            have hbA := hbs.trans (hA.mono hzs)
            have hzA := hbA.size
            have hnA : wr.heap.size < (wr.alloc (.cells #[.int .i64 t.2.1[i].2.2.2.2.2.2[a].1, .int .i64 t.2.1[i].2.2.2.2.2.2[a].2.1, .int .i64 t.2.1[i].2.2.2.2.2.2[a].2.2.1, .int .i64 t.2.1[i].2.2.2.2.2.2[a].2.2.2.1, .int .i64 t.2.1[i].2.2.2.2.2.2[a].2.2.2.2.1, .int .i64 t.2.1[i].2.2.2.2.2.2[a].2.2.2.2.2.1, .int .i64 t.2.1[i].2.2.2.2.2.2[a].2.2.2.2.2.2] 41)).heap.size := by simp
            have q0 : (wr.alloc (.cells #[.int .i64 t.2.1[i].2.2.2.2.2.2[a].1, .int .i64 t.2.1[i].2.2.2.2.2.2[a].2.1, .int .i64 t.2.1[i].2.2.2.2.2.2[a].2.2.1, .int .i64 t.2.1[i].2.2.2.2.2.2[a].2.2.2.1, .int .i64 t.2.1[i].2.2.2.2.2.2[a].2.2.2.2.1, .int .i64 t.2.1[i].2.2.2.2.2.2[a].2.2.2.2.2.1, .int .i64 t.2.1[i].2.2.2.2.2.2[a].2.2.2.2.2.2] 41)).cell? ⟨wr.heap.size, 0, none⟩ = some (.int .i64 t.2.1[i].2.2.2.2.2.2[a].1) := by simp
            have q1 : (wr.alloc (.cells #[.int .i64 t.2.1[i].2.2.2.2.2.2[a].1, .int .i64 t.2.1[i].2.2.2.2.2.2[a].2.1, .int .i64 t.2.1[i].2.2.2.2.2.2[a].2.2.1, .int .i64 t.2.1[i].2.2.2.2.2.2[a].2.2.2.1, .int .i64 t.2.1[i].2.2.2.2.2.2[a].2.2.2.2.1, .int .i64 t.2.1[i].2.2.2.2.2.2[a].2.2.2.2.2.1, .int .i64 t.2.1[i].2.2.2.2.2.2[a].2.2.2.2.2.2] 41)).cell? ⟨wr.heap.size, 1, none⟩ = some (.int .i64 t.2.1[i].2.2.2.2.2.2[a].2.1) := by simp
            have q2 : (wr.alloc (.cells #[.int .i64 t.2.1[i].2.2.2.2.2.2[a].1, .int .i64 t.2.1[i].2.2.2.2.2.2[a].2.1, .int .i64 t.2.1[i].2.2.2.2.2.2[a].2.2.1, .int .i64 t.2.1[i].2.2.2.2.2.2[a].2.2.2.1, .int .i64 t.2.1[i].2.2.2.2.2.2[a].2.2.2.2.1, .int .i64 t.2.1[i].2.2.2.2.2.2[a].2.2.2.2.2.1, .int .i64 t.2.1[i].2.2.2.2.2.2[a].2.2.2.2.2.2] 41)).cell? ⟨wr.heap.size, 2, none⟩ = some (.int .i64 t.2.1[i].2.2.2.2.2.2[a].2.2.1) := by simp
            have q3 : (wr.alloc (.cells #[.int .i64 t.2.1[i].2.2.2.2.2.2[a].1, .int .i64 t.2.1[i].2.2.2.2.2.2[a].2.1, .int .i64 t.2.1[i].2.2.2.2.2.2[a].2.2.1, .int .i64 t.2.1[i].2.2.2.2.2.2[a].2.2.2.1, .int .i64 t.2.1[i].2.2.2.2.2.2[a].2.2.2.2.1, .int .i64 t.2.1[i].2.2.2.2.2.2[a].2.2.2.2.2.1, .int .i64 t.2.1[i].2.2.2.2.2.2[a].2.2.2.2.2.2] 41)).cell? ⟨wr.heap.size, 3, none⟩ = some (.int .i64 t.2.1[i].2.2.2.2.2.2[a].2.2.2.1) := by simp
            have q4 : (wr.alloc (.cells #[.int .i64 t.2.1[i].2.2.2.2.2.2[a].1, .int .i64 t.2.1[i].2.2.2.2.2.2[a].2.1, .int .i64 t.2.1[i].2.2.2.2.2.2[a].2.2.1, .int .i64 t.2.1[i].2.2.2.2.2.2[a].2.2.2.1, .int .i64 t.2.1[i].2.2.2.2.2.2[a].2.2.2.2.1, .int .i64 t.2.1[i].2.2.2.2.2.2[a].2.2.2.2.2.1, .int .i64 t.2.1[i].2.2.2.2.2.2[a].2.2.2.2.2.2] 41)).cell? ⟨wr.heap.size, 4, none⟩ = some (.int .i64 t.2.1[i].2.2.2.2.2.2[a].2.2.2.2.1) := by simp
            have q5 : (wr.alloc (.cells #[.int .i64 t.2.1[i].2.2.2.2.2.2[a].1, .int .i64 t.2.1[i].2.2.2.2.2.2[a].2.1, .int .i64 t.2.1[i].2.2.2.2.2.2[a].2.2.1, .int .i64 t.2.1[i].2.2.2.2.2.2[a].2.2.2.1, .int .i64 t.2.1[i].2.2.2.2.2.2[a].2.2.2.2.1, .int .i64 t.2.1[i].2.2.2.2.2.2[a].2.2.2.2.2.1, .int .i64 t.2.1[i].2.2.2.2.2.2[a].2.2.2.2.2.2] 41)).cell? ⟨wr.heap.size, 5, none⟩ = some (.int .i64 t.2.1[i].2.2.2.2.2.2[a].2.2.2.2.2.1) := by simp
            have q6 : (wr.alloc (.cells #[.int .i64 t.2.1[i].2.2.2.2.2.2[a].1, .int .i64 t.2.1[i].2.2.2.2.2.2[a].2.1, .int .i64 t.2.1[i].2.2.2.2.2.2[a].2.2.1, .int .i64 t.2.1[i].2.2.2.2.2.2[a].2.2.2.1, .int .i64 t.2.1[i].2.2.2.2.2.2[a].2.2.2.2.1, .int .i64 t.2.1[i].2.2.2.2.2.2[a].2.2.2.2.2.1, .int .i64 t.2.1[i].2.2.2.2.2.2[a].2.2.2.2.2.2] 41)).cell? ⟨wr.heap.size, 6, none⟩ = some (.int .i64 t.2.1[i].2.2.2.2.2.2[a].2.2.2.2.2.2) := by simp
            have hln := hide (fun W => l1None_c t.2.1[i].2.2.2.2.2.2[a].2.2.1 t.2.1[i].2.2.2.2.2.2[a].2.2.2.1 t.2.1[i].2.2.2.2.2.2[a].2.2.2.2.1 t.2.1[i].2.2.2.2.2.2[a].2.2.2.2.2.1 t.2.1[i].2.2.2.2.2.2[a].2.2.2.2.2.2 W)
            have hnr : Hid (noneR (t.2.1[i].2.2.2.2.2.2[a].2.2.1, t.2.1[i].2.2.2.2.2.2[a].2.2.2.1, t.2.1[i].2.2.2.2.2.2[a].2.2.2.2.1, t.2.1[i].2.2.2.2.2.2[a].2.2.2.2.2.1, t.2.1[i].2.2.2.2.2.2[a].2.2.2.2.2.2) = decide (t.2.1[i].2.2.2.2.2.2[a].2.2 = (0, 0, 0, 0, 0))) := hide rfl
            go_wp2_with fail
            generalize wr.alloc (.cells #[.int .i64 t.2.1[i].2.2.2.2.2.2[a].1, .int .i64 t.2.1[i].2.2.2.2.2.2[a].2.1, .int .i64 t.2.1[i].2.2.2.2.2.2[a].2.2.1, .int .i64 t.2.1[i].2.2.2.2.2.2[a].2.2.2.1, .int .i64 t.2.1[i].2.2.2.2.2.2[a].2.2.2.2.1, .int .i64 t.2.1[i].2.2.2.2.2.2[a].2.2.2.2.2.1, .int .i64 t.2.1[i].2.2.2.2.2.2[a].2.2.2.2.2.2] 41) = wv at *
            refine (hln.out wv).mono ?_
            rintro e w4 ⟨rfl, hb4⟩
            rw [hnr.out]
            have hb5 := hbA.trans (hb4.mono hzA)
            have hz5 := hb5.size
            have z0 := keepc hb5 x0
            have z1 := keepc hb5 x1
            have z2 := keepc hb5 x2
            have q0 := keepc hb4 q0
            have q1 := keepc hb4 q1
            have q2 := keepc hb4 q2
            have q3 := keepc hb4 q3
            have q4 := keepc hb4 q4
            have q5 := keepc hb4 q5
            have q6 := keepc hb4 q6
            have hnA := Nat.lt_of_lt_of_le hnA hb4.size
            have g5 := g1.below msg_kept hb5 hhi0
            cases e3 : (decide (t.2.1[i].2.2.2.2.2.2[a].2.2 = (0, 0, 0, 0, 0)) || decide (askM t.2.1[i].2.2.2.2.2.2[a].2.2 ∈ t.2.2))
            · have hbad : Hid (decide (GoodL t.2.2 (hcl t.1 t.2.1)) = false) := hide (by
                simp only [decide_eq_false_iff_not]
                intro hg
                simp only [Bool.or_eq_false_iff, decide_eq_false_iff_not] at e3
                rcases hg.1 _ hmem.out with h | h
                · exact e3.1 h
                · exact e3.2 h)
              cases e4 : decide (t.2.1[i].2.2.2.2.2.2[a].2.2 = (0, 0, 0, 0, 0))
              · have e6 : decide (askM t.2.1[i].2.2.2.2.2.2[a].2.2 ∈ t.2.2) = false := by rw [e4] at e3; exact e3
                go_wp2_with fail
                refine (l4Asked_c t.2.2 t.2.1[i].2.2.2.2.2.2[a].2.2 B p d lo hi w4 g5 (Nat.le_trans hhi0 hz5)).mono ?_
                rintro e w6 ⟨rfl, hb6⟩
                rw [e6]
                go_wp2
                go_ret
                exact ⟨by rw [hbad.out]; rfl, hB.trans ((hb5.trans (hb6.mono hz5)).mono hB.size)⟩
              · rw [e4] at e3
                cases e3
            · have hask : Hid (askOk t.2.2 t.2.1[i].2.2.2.2.2.2[a]) := hide (by
                simp only [Bool.or_eq_true, decide_eq_true_eq] at e3
                exact e3)
              cases e4 : decide (t.2.1[i].2.2.2.2.2.2[a].2.2 = (0, 0, 0, 0, 0))
              · have e6 : decide (askM t.2.1[i].2.2.2.2.2.2[a].2.2 ∈ t.2.2) = true := by rw [e4] at e3; exact e3
                go_wp2_with fail
                refine (l4Asked_c t.2.2 t.2.1[i].2.2.2.2.2.2[a].2.2 B p d lo hi w4 g5 (Nat.le_trans hhi0 hz5)).mono ?_
                rintro e w6 ⟨rfl, hb6⟩
                rw [e6]
                have hb7 := hb5.trans (hb6.mono hz5)
                have z0 := keepc hb7 x0
                have z1 := keepc hb7 x1
                have qz0 := keepc hb6 q0
                have qz1 := keepc hb6 q1
                have qz2 := keepc hb6 q2
                have qz3 := keepc hb6 q3
                have qz4 := keepc hb6 q4
                have qz5 := keepc hb6 q5
                have qz6 := keepc hb6 q6
                have hnQ := Nat.lt_of_lt_of_le hnA hb6.size
                go_wp2
                go_loopw [6, 7] (fun kv _ wr3 => ∃ k : Nat, k ≤ i ∧ kv = .int .i64 (k : Int) ∧ Hid (∀ k', k' < k → clashFree t t.2.1[i].2.2.2.2.2.2[a] k') ∧ Below w0.heap.size w0 wr3 ∧ Below w6.heap.size w6 wr3) (fun kv _ _ => i - (intOf kv).toNat)
                case atStart => exact ⟨0, Nat.zero_le _, rfl, hide (fun k' h => absurd h (by omega)), hb7, Below.refl _ _⟩
                case round =>
                  obtain ⟨k, hk, rfl, hfree, hbt, hbq⟩ := hrel
                  have z0 := keepc hbt x0
                  have z1 := keepc hbt x1
                  by_cases hlk : k < i
                  · have hkx : k < t.2.1.length := by omega
                    obtain ⟨A3, n3, c3_, B3, p3, d3, E3, q3, f3, s0, s1, s2, s3, s4, s5, s6, u0_, u1_, v2⟩ := g0.rep hkx
                    have hv' := hide v2.len
                    have hv1 := v2.cap
                    have hv2 := v2.max
                    unfold maxLen at hv2
                    have s6t := keepc hbt s6
                    cases e7 : ((k : Int) != t.1)
                    · have hfr : Hid (clashFree t t.2.1[i].2.2.2.2.2.2[a] k) := hide (fun _ h => absurd (by simpa using e7) h)
                      go_wp2
                      go_loopw [7] (fun bv wr4 => bv = .int .i64 0 ∧ Below w0.heap.size w0 wr4 ∧ Below w6.heap.size w6 wr4) (fun _ _ => 0)
                      case atStart => exact ⟨rfl, hbt, hbq⟩
                      case round =>
                        obtain ⟨rfl, hbu, hbv⟩ := hrel
                        have z0 := keepc hbu x0
                        have z1 := keepc hbu x1
                        have s6u := keepc hbu s6
                        go_wp2
                        all_goals
                          go_roundw
                          case rel => exact ⟨k + 1, by omega, by go_num, hide (allTo_succ hfree.out hfr.out), hbu, hbv⟩
                          case measure => simp [intOf]; omega
                    · have hnk : Hid ((k : Int) ≠ t.1) := hide (by simpa using e7)
                      go_wp2
                      go_loopw [7] (fun bv wr4 => ∃ b : Nat, b ≤ q3 ∧ bv = .int .i64 (b : Int) ∧ Hid (∀ (b' : Nat) (h : b' < t.2.1[k].2.2.2.2.2.2.length), b' < b → t.2.1[k].2.2.2.2.2.2[b'].1 = t.2.1[i].2.2.2.2.2.2[a].1 → t.2.1[k].2.2.2.2.2.2[b'].2.2 = t.2.1[i].2.2.2.2.2.2[a].2.2) ∧ Below w0.heap.size w0 wr4 ∧ Below w6.heap.size w6 wr4) (fun bv _ => q3 - (intOf bv).toNat)
                      case atStart => exact ⟨0, Nat.zero_le _, rfl, hide (fun b' _ h => absurd h (by omega)), hbt, hbq⟩
                      case round =>
                        obtain ⟨b, hb, rfl, hbf, hbu, hbv⟩ := hrel
                        have z0 := keepc hbu x0
                        have z1 := keepc hbu x1
                        have s6u := keepc hbu s6
                        have hzu := hbu.size
                        have hzv := hbv.size
                        have hnv := Nat.lt_of_lt_of_le hnQ hzv
                        have hlw4 := Nat.lt_of_lt_of_le hl hzu
                        have qv0 := keepc hbv qz0
                        have qv1 := keepc hbv qz1
                        have qv2 := keepc hbv qz2
                        have qv3 := keepc hbv qz3
                        have qv4 := keepc hbv qz4
                        have qv5 := keepc hbv qz5
                        have qv6 := keepc hbv qz6
                        by_cases hlb : b < q3
                        · have hbx : b < t.2.1[k].2.2.2.2.2.2.length := by have := hv'.out; omega
                          obtain ⟨b3, off3, rfl, hlo3, hbh3⟩ := v2.addr hbx
                          obtain ⟨k0, k1', k2', k3', k4, k5, k6⟩ := (v2.below (flat_kept _) hbu hhi0).claim hbx
                          have hAk := (Below.refl wr.heap.size wr).alloc (Nat.le_refl _) (.cells #[.int .i64 t.2.1[k].2.2.2.2.2.2[b].1, .int .i64 t.2.1[k].2.2.2.2.2.2[b].2.1, .int .i64 t.2.1[k].2.2.2.2.2.2[b].2.2.1, .int .i64 t.2.1[k].2.2.2.2.2.2[b].2.2.2.1, .int .i64 t.2.1[k].2.2.2.2.2.2[b].2.2.2.2.1, .int .i64 t.2.1[k].2.2.2.2.2.2[b].2.2.2.2.2.1, .int .i64 t.2.1[k].2.2.2.2.2.2[b].2.2.2.2.2.2] 41)
                          have hbk := hbu.trans (hAk.mono hzu)
                          have hvk := hbv.trans (hAk.mono hzv)
                          have hq := fun W => run_neq_req t.2.1[k].2.2.2.2.2.2[b].2.2 t.2.1[i].2.2.2.2.2.2[a].2.2 W
                          cases e9 : (t.2.1[k].2.2.2.2.2.2[b].1 == t.2.1[i].2.2.2.2.2.2[a].1)
                          · have hno : Hid (¬ t.2.1[k].2.2.2.2.2.2[b].1 = t.2.1[i].2.2.2.2.2.2[a].1) := hide (by simpa using e9)
                            go_wp2
                            go_roundw
                            case rel => exact ⟨b + 1, by omega, by go_num, hide (fun b' hb' h9 => by
                              by_cases h2 : b' < b
                              · exact hbf.out b' hb' h2
                              · obtain rfl : b' = b := by omega
                                exact fun h => absurd h hno.out), hbk, hvk⟩
                            case measure => simp [intOf]; omega
                          · have hyes : Hid (t.2.1[k].2.2.2.2.2.2[b].1 = t.2.1[i].2.2.2.2.2.2[a].1) := hide (by simpa using e9)
                            cases e10 : decide (t.2.1[k].2.2.2.2.2.2[b].2.2 = t.2.1[i].2.2.2.2.2.2[a].2.2)
                            · have hbad : Hid (decide (GoodL t.2.2 (hcl t.1 t.2.1)) = false) := hide (by
                                simp only [decide_eq_false_iff_not]
                                intro hg
                                exact of_decide_eq_false e10 (hg.2 _ (mem_hcl hre.out hkx hnk.out (List.getElem_mem hbx)) _ hmem.out hyes.out))
                              simp only [e10] at hq
                              go_wp2
                              go_ret
                              exact ⟨by rw [hbad.out]; rfl, hB.trans (hbk.mono hB.size)⟩
                            · have hsame := hide (of_decide_eq_true e10)
                              simp only [e10] at hq
                              go_wp2
                              go_roundw
                              case rel => exact ⟨b + 1, by omega, by go_num, hide (fun b' hb' h9 => by
                                by_cases h2 : b' < b
                                · exact hbf.out b' hb' h2
                                · obtain rfl : b' = b := by omega
                                  exact fun _ => hsame.out), hbk, hvk⟩
                              case measure => simp [intOf]; omega
                        · obtain rfl : b = q3 := by omega
                          have hfr : Hid (clashFree t t.2.1[i].2.2.2.2.2.2[a] k) := hide (fun _ _ b' hb' => hbf.out b' hb' (by have := hv'.out; omega))
                          go_wp2
                          go_roundw
                          case rel => exact ⟨k + 1, by omega, by go_num, hide (allTo_succ hfree.out hfr.out), hbu, hbv⟩
                          case measure => simp [intOf]; omega
                  · obtain rfl : k = i := by omega
                    have hcfn : Hid (claimFine t k t.2.1[k].2.2.2.2.2.2[a]) := hide ⟨hask.out, hfree.out⟩
                    go_wp2
                    go_roundw
                    case rel => exact ⟨a + 1, by omega, by go_num, hide (fun a' ha' h9 => by
                      by_cases h2 : a' < a
                      · exact hcf.out a' ha' h2
                      · obtain rfl : a' = a := by omega
                        exact hcfn.out), hbt⟩
                    case measure => simp [intOf]; omega
              · have hb7 := hb5
                have qz0 := q0
                have qz1 := q1
                have qz2 := q2
                have qz3 := q3
                have qz4 := q4
                have qz5 := q5
                have qz6 := q6
                have hnQ := hnA
                go_wp2
                go_loopw [6, 7] (fun kv _ wr3 => ∃ k : Nat, k ≤ i ∧ kv = .int .i64 (k : Int) ∧ Hid (∀ k', k' < k → clashFree t t.2.1[i].2.2.2.2.2.2[a] k') ∧ Below w0.heap.size w0 wr3 ∧ Below w4.heap.size w4 wr3) (fun kv _ _ => i - (intOf kv).toNat)
                case atStart => exact ⟨0, Nat.zero_le _, rfl, hide (fun k' h => absurd h (by omega)), hb7, Below.refl _ _⟩
                case round =>
                  obtain ⟨k, hk, rfl, hfree, hbt, hbq⟩ := hrel
                  have z0 := keepc hbt x0
                  have z1 := keepc hbt x1
                  by_cases hlk : k < i
                  · have hkx : k < t.2.1.length := by omega
                    obtain ⟨A3, n3, c3_, B3, p3, d3, E3, q3, f3, s0, s1, s2, s3, s4, s5, s6, u0_, u1_, v2⟩ := g0.rep hkx
                    have hv' := hide v2.len
                    have hv1 := v2.cap
                    have hv2 := v2.max
                    unfold maxLen at hv2
                    have s6t := keepc hbt s6
                    cases e7 : ((k : Int) != t.1)
                    · have hfr : Hid (clashFree t t.2.1[i].2.2.2.2.2.2[a] k) := hide (fun _ h => absurd (by simpa using e7) h)
                      go_wp2
                      go_loopw [7] (fun bv wr4 => bv = .int .i64 0 ∧ Below w0.heap.size w0 wr4 ∧ Below w4.heap.size w4 wr4) (fun _ _ => 0)
                      case atStart => exact ⟨rfl, hbt, hbq⟩
                      case round =>
                        obtain ⟨rfl, hbu, hbv⟩ := hrel
                        have z0 := keepc hbu x0
                        have z1 := keepc hbu x1
                        have s6u := keepc hbu s6
                        go_wp2
                        all_goals
                          go_roundw
                          case rel => exact ⟨k + 1, by omega, by go_num, hide (allTo_succ hfree.out hfr.out), hbu, hbv⟩
                          case measure => simp [intOf]; omega
                    · have hnk : Hid ((k : Int) ≠ t.1) := hide (by simpa using e7)
                      go_wp2
                      go_loopw [7] (fun bv wr4 => ∃ b : Nat, b ≤ q3 ∧ bv = .int .i64 (b : Int) ∧ Hid (∀ (b' : Nat) (h : b' < t.2.1[k].2.2.2.2.2.2.length), b' < b → t.2.1[k].2.2.2.2.2.2[b'].1 = t.2.1[i].2.2.2.2.2.2[a].1 → t.2.1[k].2.2.2.2.2.2[b'].2.2 = t.2.1[i].2.2.2.2.2.2[a].2.2) ∧ Below w0.heap.size w0 wr4 ∧ Below w4.heap.size w4 wr4) (fun bv _ => q3 - (intOf bv).toNat)
                      case atStart => exact ⟨0, Nat.zero_le _, rfl, hide (fun b' _ h => absurd h (by omega)), hbt, hbq⟩
                      case round =>
                        obtain ⟨b, hb, rfl, hbf, hbu, hbv⟩ := hrel
                        have z0 := keepc hbu x0
                        have z1 := keepc hbu x1
                        have s6u := keepc hbu s6
                        have hzu := hbu.size
                        have hzv := hbv.size
                        have hnv := Nat.lt_of_lt_of_le hnQ hzv
                        have hlw4 := Nat.lt_of_lt_of_le hl hzu
                        have qv0 := keepc hbv qz0
                        have qv1 := keepc hbv qz1
                        have qv2 := keepc hbv qz2
                        have qv3 := keepc hbv qz3
                        have qv4 := keepc hbv qz4
                        have qv5 := keepc hbv qz5
                        have qv6 := keepc hbv qz6
                        by_cases hlb : b < q3
                        · have hbx : b < t.2.1[k].2.2.2.2.2.2.length := by have := hv'.out; omega
                          obtain ⟨b3, off3, rfl, hlo3, hbh3⟩ := v2.addr hbx
                          obtain ⟨k0, k1', k2', k3', k4, k5, k6⟩ := (v2.below (flat_kept _) hbu hhi0).claim hbx
                          have hAk := (Below.refl wr.heap.size wr).alloc (Nat.le_refl _) (.cells #[.int .i64 t.2.1[k].2.2.2.2.2.2[b].1, .int .i64 t.2.1[k].2.2.2.2.2.2[b].2.1, .int .i64 t.2.1[k].2.2.2.2.2.2[b].2.2.1, .int .i64 t.2.1[k].2.2.2.2.2.2[b].2.2.2.1, .int .i64 t.2.1[k].2.2.2.2.2.2[b].2.2.2.2.1, .int .i64 t.2.1[k].2.2.2.2.2.2[b].2.2.2.2.2.1, .int .i64 t.2.1[k].2.2.2.2.2.2[b].2.2.2.2.2.2] 41)
                          have hbk := hbu.trans (hAk.mono hzu)
                          have hvk := hbv.trans (hAk.mono hzv)
                          have hq := fun W => run_neq_req t.2.1[k].2.2.2.2.2.2[b].2.2 t.2.1[i].2.2.2.2.2.2[a].2.2 W
                          cases e9 : (t.2.1[k].2.2.2.2.2.2[b].1 == t.2.1[i].2.2.2.2.2.2[a].1)
                          · have hno : Hid (¬ t.2.1[k].2.2.2.2.2.2[b].1 = t.2.1[i].2.2.2.2.2.2[a].1) := hide (by simpa using e9)
                            go_wp2
                            go_roundw
                            case rel => exact ⟨b + 1, by omega, by go_num, hide (fun b' hb' h9 => by
                              by_cases h2 : b' < b
                              · exact hbf.out b' hb' h2
                              · obtain rfl : b' = b := by omega
                                exact fun h => absurd h hno.out), hbk, hvk⟩
                            case measure => simp [intOf]; omega
                          · have hyes : Hid (t.2.1[k].2.2.2.2.2.2[b].1 = t.2.1[i].2.2.2.2.2.2[a].1) := hide (by simpa using e9)
                            cases e10 : decide (t.2.1[k].2.2.2.2.2.2[b].2.2 = t.2.1[i].2.2.2.2.2.2[a].2.2)
                            · have hbad : Hid (decide (GoodL t.2.2 (hcl t.1 t.2.1)) = false) := hide (by
                                simp only [decide_eq_false_iff_not]
                                intro hg
                                exact of_decide_eq_false e10 (hg.2 _ (mem_hcl hre.out hkx hnk.out (List.getElem_mem hbx)) _ hmem.out hyes.out))
                              simp only [e10] at hq
                              go_wp2
                              go_ret
                              exact ⟨by rw [hbad.out]; rfl, hB.trans (hbk.mono hB.size)⟩
                            · have hsame := hide (of_decide_eq_true e10)
                              simp only [e10] at hq
                              go_wp2
                              go_roundw
                              case rel => exact ⟨b + 1, by omega, by go_num, hide (fun b' hb' h9 => by
                                by_cases h2 : b' < b
                                · exact hbf.out b' hb' h2
                                · obtain rfl : b' = b := by omega
                                  exact fun _ => hsame.out), hbk, hvk⟩
                              case measure => simp [intOf]; omega
                        · obtain rfl : b = q3 := by omega
                          have hfr : Hid (clashFree t t.2.1[i].2.2.2.2.2.2[a] k) := hide (fun _ _ b' hb' => hbf.out b' hb' (by have := hv'.out; omega))
                          go_wp2
                          go_roundw
                          case rel => exact ⟨k + 1, by omega, by go_num, hide (allTo_succ hfree.out hfr.out), hbu, hbv⟩
                          case measure => simp [intOf]; omega
                  · obtain rfl : k = i := by omega
                    have hcfn : Hid (claimFine t k t.2.1[k].2.2.2.2.2.2[a]) := hide ⟨hask.out, hfree.out⟩
                    go_wp2
                    go_roundw
                    case rel => exact ⟨a + 1, by omega, by go_num, hide (fun a' ha' h9 => by
                      by_cases h2 : a' < a
                      · exact hcf.out a' ha' h2
                      · obtain rfl : a' = a := by omega
                        exact hcfn.out), hbt⟩
                    case measure => simp [intOf]; omega
          · obtain rfl : a = q1 := by omega
            have hrf : Hid (repFine t i) := hide (fun _ _ a' ha' => hcf.out a' ha' (by have := hq'.out; omega))
            go_wp2
            go_roundw
            case rel => exact ⟨i + 1, by omega, by go_num, hide (allTo_succ hfine.out hrf.out), hbs⟩
            case measure => simp [intOf]; omega
    · obtain rfl : i = n := by omega
      have hall : Hid (decide (GoodL t.2.2 (hcl t.1 t.2.1)) = true) := hide (decide_eq_true (fine_good hre.out (fun i' hi' => hfine.out i' (by have := hn'.out; omega))))
      go_wp2
      go_ret
      exact ⟨by rw [hall.out]; rfl, hB.trans (hbr.mono hB.size)⟩
theorem specWorldAgree_c (t : WorldT) (A B : Option Addr) (n c p d : Nat) (lo hi : Nat) (w : World) (h0 : RdN 7 repR w lo hi A n c t.2.1) (h1 : RdN 11 msgR w lo hi B p d t.2.2) (hhi : hi ≤ w.heap.size) :
    Calls Tryz.prog 6 #[.agg #[.int .i64 t.1, .slice A n c, .slice B p d]] w fun e w' => e = .returned (.bool (agreeW t)) ∧ Below w.heap.size w w' := by
  have hB : Below w.heap.size w (w.alloc (.cells #[.int .i64 t.1, .slice A n c, .slice B p d] 26)) := (Below.refl _ _).alloc (Nat.le_refl _) _
  have x0 : (w.alloc (.cells #[.int .i64 t.1, .slice A n c, .slice B p d] 26)).cell? ⟨w.heap.size, 0, none⟩ = some (.int .i64 t.1) := by simp
  have x1 : (w.alloc (.cells #[.int .i64 t.1, .slice A n c, .slice B p d] 26)).cell? ⟨w.heap.size, 1, none⟩ = some (.slice A n c) := by simp
  have x2 : (w.alloc (.cells #[.int .i64 t.1, .slice A n c, .slice B p d] 26)).cell? ⟨w.heap.size, 2, none⟩ = some (.slice B p d) := by simp
  have g0 := h0.below rep_kept hB hhi
  have g1 := h1.below msg_kept hB hhi
  have hhi0 : hi ≤ (w.alloc (.cells #[.int .i64 t.1, .slice A n c, .slice B p d] 26)).heap.size := Nat.le_trans hhi hB.size
  go_enter Tryz.func6, Tryz.ntmps6
  go_wp2_with fail
  generalize w.alloc (.cells #[.int .i64 t.1, .slice A n c, .slice B p d] 26) = w0 at *
  refine (l6Ok_c t A B n c p d lo hi w0 g0 g1 hhi0).mono ?_
  rintro e w1 ⟨rfl, hb1⟩
  have hB1 := hB.trans (hb1.mono hB.size)
  have x0 := keepc hb1 x0
  have x1 := keepc hb1 x1
  have x2 := keepc hb1 x2
  have g0 := g0.below rep_kept hb1 hhi0
  have g1 := g1.below msg_kept hb1 hhi0
  cases f1 : okWorld t
  · have hf := hide f1
    go_wp2
    go_ret
    exact ⟨by simp [agreeW, hf.out], hB1⟩
  · have hf := hide f1
    have hre : okReps t.2.1 := by
      unfold okWorld at f1
      simp only [Bool.and_eq_true, decide_eq_true_eq] at f1
      exact f1.2.2.2.1
    go_wp2_with fail
    refine (l6Agree_c t A B n c p d lo hi w1 g0 g1 (Nat.le_trans hhi0 hb1.size) hre).mono ?_
    rintro e w2 ⟨rfl, hb2⟩
    go_wp2
    go_ret
    exact ⟨by simp [agreeW, hf.out], hB1.trans (hb2.mono hB1.size)⟩
end Go.Proofs.YtopmbnnjhoinkaaGreat
