/-
  Plain words on claims, votes and letters; no program in sight.
-/
import Derived.Test.YtocifmnkohgfjaaDoorNB
namespace Go.Proofs.YtocifmnkohgfjaaDoor
open Go.RowKit
set_option linter.unusedVariables false
set_option linter.unusedSimpArgs false

def goodC (ts : List ClaimT) (i : Nat) : Prop := ∃ h : i < ts.length, okCl ts[i] = true ∧ ∀ h0 : 0 < i, ts[i - 1].1 < ts[i].1
def okCls (ts : List ClaimT) : Prop := ∀ i, i < ts.length → goodC ts i
instance (ts : List ClaimT) (i : Nat) : Decidable (goodC ts i) := by unfold goodC; infer_instance
instance (ts : List ClaimT) : Decidable (okCls ts) := by unfold okCls; infer_instance
def goodV (ts : List VoteT) (i : Nat) : Prop := ∃ h : i < ts.length, inB ts[i].1 0 3 = true ∧ okCls ts[i].2 ∧ ∀ h0 : 0 < i, ts[i - 1].1 < ts[i].1
def okVs (ts : List VoteT) : Prop := ∀ i, i < ts.length → goodV ts i
instance (ts : List VoteT) (i : Nat) : Decidable (goodV ts i) := by unfold goodV; infer_instance
instance (ts : List VoteT) : Decidable (okVs ts) := by unfold okVs; infer_instance
theorem allTo_succ {G : Nat → Prop} {k : Nat} (h : ∀ i, i < k → G i) (hk : G k) : ∀ i, i < k + 1 → G i := fun i hi => by
  by_cases h2 : i < k
  · exact h i h2
  · obtain rfl : i = k := by omega
    exact hk
theorem not_all {G : Nat → Prop} {n i : Nat} [Decidable (∀ i, i < n → G i)] (hi : i < n) (h : ¬ G i) : decide (∀ i, i < n → G i) = false := by
  simp only [decide_eq_false_iff_not]
  exact fun hq => h (hq i hi)

/-- Whether a letter is ok. -/
def okMsg (m : MsgT) : Bool :=
  if m.1 = 1 then (m.2.1 == 0) && ((m.2.2.1 == 0) && ((m.2.2.2.1 == 0) && (okR m.2.2.2.2.1 && decide (m.2.2.2.2.2.1.length + m.2.2.2.2.2.2.length = 0))))
  else if !inB m.2.1 0 3 || !inB m.2.2.1 0 6 then false
  else if m.1 = 2 then inB m.2.2.2.1 1 5 && (okR m.2.2.2.2.1 && decide (m.2.2.2.2.2.1.length + m.2.2.2.2.2.2.length = 0))
  else if m.1 = 3 ∨ m.1 = 4 then inB m.2.2.2.1 1 5 && (okN m.2.2.2.2.1 && decide (m.2.2.2.2.2.1.length + m.2.2.2.2.2.2.length = 0))
  else if m.1 = 5 then (m.2.2.2.1 == 0) && (noneR m.2.2.2.2.1 && (decide (okCls m.2.2.2.2.2.1) && decide (m.2.2.2.2.2.2.length = 0)))
  else if m.1 = 6 then (m.2.2.2.1 == 0) && (noneR m.2.2.2.2.1 && (decide (m.2.2.2.2.2.1.length = 0) && decide (okVs m.2.2.2.2.2.2)))
  else false
/-- What a letter of its kind has. -/
def bareM (m : MsgT) : MsgT :=
  if m.1 = 1 then (m.1, 0, 0, 0, m.2.2.2.2.1, [], [])
  else if m.1 = 2 ∨ m.1 = 3 ∨ m.1 = 4 then (m.1, m.2.1, m.2.2.1, m.2.2.2.1, m.2.2.2.2.1, [], [])
  else if m.1 = 5 then (m.1, m.2.1, m.2.2.1, 0, (0, 0, 0, 0, 0), m.2.2.2.2.2.1, [])
  else if m.1 = 6 then (m.1, m.2.1, m.2.2.1, 0, (0, 0, 0, 0, 0), [], m.2.2.2.2.2.2)
  else (m.1, m.2.1, m.2.2.1, 0, (0, 0, 0, 0, 0), [], [])
def okMsgI (m : MsgT) : Bool :=
  inB m.1 1 6 && (decide (m = bareM m) && (inB m.2.1 0 3 && (inB m.2.2.1 0 6 &&
    (if m.1 = 1 then okR m.2.2.2.2.1 else if m.1 = 2 then inB m.2.2.2.1 1 5 && okR m.2.2.2.2.1 else if m.1 = 3 ∨ m.1 = 4 then inB m.2.2.2.1 1 5 && okN m.2.2.2.2.1 else if m.1 = 5 then decide (okCls m.2.2.2.2.2.1) else decide (okVs m.2.2.2.2.2.2)))))
theorem okMsgI_eq (m : MsgT) : okMsgI m = okMsg m := by
  obtain ⟨k, f, v, s, r, cs, vs⟩ := m
  have h00 : inB 0 0 3 = true := by decide
  have h06 : inB 0 0 6 = true := by decide
  have hin : inB k 1 6 = true ↔ k = 1 ∨ k = 2 ∨ k = 3 ∨ k = 4 ∨ k = 5 ∨ k = 6 := by
    unfold inB; rw [decide_eq_true_eq]; omega
  by_cases hk : k = 1 ∨ k = 2 ∨ k = 3 ∨ k = 4 ∨ k = 5 ∨ k = 6
  · have hin' := hin.2 hk
    rw [Bool.eq_iff_iff]
    rcases hk with rfl | rfl | rfl | rfl | rfl | rfl <;>
      simp [okMsgI, okMsg, bareM, hin', noneR, Prod.ext_iff] <;> grind
  · have hin' : inB k 1 6 = false := by
      rw [Bool.eq_false_iff]; exact fun h => hk (hin.1 h)
    have h1 : ¬ k = 1 := fun h => hk (by simp [h])
    have h2 : ¬ k = 2 := fun h => hk (by simp [h])
    have h3 : ¬ k = 3 := fun h => hk (by simp [h])
    have h4 : ¬ k = 4 := fun h => hk (by simp [h])
    have h5 : ¬ k = 5 := fun h => hk (by simp [h])
    have h6 : ¬ k = 6 := fun h => hk (by simp [h])
    simp [okMsgI, okMsg, hin', h1, h2, h3, h4, h5, h6]

/-! What is picked. -/
def clsOf (vs : List VoteT) : List ClaimT := vs.flatMap fun v => v.2
def topOf (cs : List ClaimT) : Int := cs.foldl (fun t c => if t < c.1 then c.1 else t) 0
abbrev PickS := Bool × Int × ReqV
def pickStep (seq : Int) (s : PickS) (c : ClaimT) : PickS := if c.1 = seq ∧ (s.1 = false ∨ s.2.1 < c.2.1) then (true, c.2.1, c.2.2) else s
def pickS (seq : Int) (cs : List ClaimT) : PickS := cs.foldl (pickStep seq) (false, 0, (0, 0, 0, 0, 0))
def pickOf (cs : List ClaimT) (seq : Int) : ReqV := (pickS seq cs).2.2
def reachB (seq : Int) (cs : List ClaimT) : Bool := cs.any fun c => decide (seq ≤ c.1)
def picksL (vs : List VoteT) : List ReqV := (List.range (topOf (clsOf vs)).toNat).map fun (i : Nat) => pickOf (clsOf vs) ((i : Int) + 1)
theorem topOf_snoc (cs : List ClaimT) (c : ClaimT) : topOf (cs ++ [c]) = if topOf cs < c.1 then c.1 else topOf cs := by rw [topOf, List.foldl_append]; rfl
theorem rev_ind {α : Type} {P : List α → Prop} (h0 : P []) (h1 : ∀ xs x, P xs → P (xs ++ [x])) (xs : List α) : P xs := by
  have key : ∀ ys : List α, P ys.reverse := by
    intro ys
    induction ys with
    | nil => exact h0
    | cons y ys ih => rw [List.reverse_cons]; exact h1 _ _ ih
  have := key xs.reverse
  rwa [List.reverse_reverse] at this
theorem topOf_nonneg (cs : List ClaimT) : 0 ≤ topOf cs := by
  refine rev_ind (P := fun cs => 0 ≤ topOf cs) (by simp [topOf]) (fun cs c ih => ?_) cs
  rw [topOf_snoc]; split <;> omega
theorem topOf_le {cs : List ClaimT} {c : ClaimT} (h : c ∈ cs) : c.1 ≤ topOf cs := by
  revert h
  refine rev_ind (P := fun cs => c ∈ cs → c.1 ≤ topOf cs) (by simp) (fun cs d ih h => ?_) cs
  rw [topOf_snoc]
  rcases List.mem_append.1 h with h | h
  · have := ih h; split <;> omega
  · simp at h; subst h; split <;> omega
theorem topOf_mem (cs : List ClaimT) : topOf cs = 0 ∨ ∃ c ∈ cs, c.1 = topOf cs := by
  refine rev_ind (P := fun cs => topOf cs = 0 ∨ ∃ c ∈ cs, c.1 = topOf cs) (.inl rfl) (fun cs d ih => ?_) cs
  rw [topOf_snoc]
  split
  · exact .inr ⟨d, by simp, rfl⟩
  · rcases ih with h | ⟨c, h, h2⟩
    · exact .inl h
    · exact .inr ⟨c, by simp [h], h2⟩
theorem reach_iff {seq : Int} (h : 1 ≤ seq) (cs : List ClaimT) : reachB seq cs = decide (seq ≤ topOf cs) := by
  rw [Bool.eq_iff_iff]
  simp only [reachB, List.any_eq_true, decide_eq_true_eq]
  constructor
  · rintro ⟨c, h1, h2⟩
    exact Int.le_trans h2 (topOf_le h1)
  · intro h1
    rcases topOf_mem cs with h2 | ⟨c, h2, h3⟩
    · omega
    · exact ⟨c, h2, by omega⟩
theorem topOf_okVs {vs : List VoteT} (h : okVs vs) : topOf (clsOf vs) ≤ 5 := by
  rcases topOf_mem (clsOf vs) with h2 | ⟨c, h2, h3⟩
  · omega
  · obtain ⟨v, hv, hc⟩ := List.mem_flatMap.1 h2
    obtain ⟨i, hi, rfl⟩ := List.mem_iff_getElem.1 hv
    obtain ⟨_, _, h4, _⟩ := h i hi
    obtain ⟨j, hj, rfl⟩ := List.mem_iff_getElem.1 hc
    obtain ⟨_, h5, _⟩ := h4 j hj
    have h6 : inB vs[i].2[j].1 1 5 = true := by
      unfold okCl at h5; simp only [Bool.and_eq_true] at h5; exact h5.1
    unfold inB at h6
    simp at h6
    omega

/-! What is said of a claim. -/
def leadOf (v : Int) : Int := v % 4
def saidOf (kind : Int) (c : ClaimT) (k : Int) (m : MsgT) : Bool := decide (m.1 = kind ∧ m.2.1 = k ∧ m.2.2.1 = c.2.1 ∧ m.2.2.2.1 = c.1 ∧ m.2.2.2.2.1 = c.2.2)
def offers (c : ClaimT) (m : MsgT) : Bool := decide (m.2.1 = leadOf c.2.1 ∧ m.2.2.1 = c.2.1 ∧ ((m.1 = 2 ∧ m.2.2.2.1 = c.1 ∧ m.2.2.2.2.1 = c.2.2) ∨ (m.1 = 6 ∧ c.1 ≤ topOf (clsOf m.2.2.2.2.2.2) ∧ pickOf (clsOf m.2.2.2.2.2.2) c.1 = c.2.2)))
def offered (ms : List MsgT) (c : ClaimT) : Bool := ms.any (offers c)
/-- How many keepers, but one, said something of a kind of a claim. -/
def countOf (ms : List MsgT) (kind : Int) (c : ClaimT) (but : Int) : Nat := ((List.range 4).filter fun (k : Nat) => decide ((k : Int) ≠ but) && ms.any (saidOf kind c (k : Int))).length
def readyL (ms : List MsgT) (c : ClaimT) : Bool := offered ms c && decide (2 ≤ countOf ms 3 c (leadOf c.2.1))
end Go.Proofs.YtocifmnkohgfjaaDoor
