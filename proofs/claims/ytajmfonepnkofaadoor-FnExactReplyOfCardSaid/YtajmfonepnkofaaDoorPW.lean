/-
  Plain words for sums: CRC-32 by numbers, trees of sums, ways in them; no program in sight.
  Conditions: none.
-/
import Derived.Lib.ItoaNum
namespace Go.Proofs.YtajmfonepnkofaaDoor

/-- One bit of the sum. -/
def crc1 (c : Nat) : Nat := if c % 2 = 1 then (c / 2) ^^^ 3988292384 else c / 2
def crcK : Nat → Nat → Nat
  | 0, c => c
  | k + 1, c => crcK k (crc1 c)
def crcB (c b : Nat) : Nat := crcK 8 (c ^^^ b)
def crcF (c : Nat) (bs : List UInt8) : Nat := bs.foldl (fun c b => crcB c b.toNat) c
def crcN (bs : List UInt8) : Nat := crcF 4294967295 bs ^^^ 4294967295

theorem crc1_lt {c : Nat} (h : c < 4294967296) : crc1 c < 4294967296 := by
  unfold crc1
  split
  · exact Nat.xor_lt_two_pow (n := 32) (by omega) (by omega)
  · omega
theorem crcK_lt : ∀ (k : Nat) {c : Nat}, c < 4294967296 → crcK k c < 4294967296
  | 0, _, h => h
  | k + 1, _, h => crcK_lt k (crc1_lt h)
theorem crcB_lt {c b : Nat} (h : c < 4294967296) (hb : b < 256) : crcB c b < 4294967296 :=
  crcK_lt 8 (Nat.xor_lt_two_pow (n := 32) h (by omega))
theorem crcF_lt : ∀ (bs : List UInt8) {c : Nat}, c < 4294967296 → crcF c bs < 4294967296
  | [], _, h => h
  | b :: bs, _, h => crcF_lt bs (crcB_lt h b.toNat_lt)
theorem crcN_lt (bs : List UInt8) : crcN bs < 4294967296 :=
  Nat.xor_lt_two_pow (n := 32) (crcF_lt bs (by omega)) (by omega)
theorem xor_cancel {a b k : Nat} (h : a ^^^ k = b ^^^ k) : a = b := by
  have := congrArg (· ^^^ k) h
  simpa [Nat.xor_assoc] using this
theorem xor_cancel_left {a b k : Nat} (h : k ^^^ a = k ^^^ b) : a = b := xor_cancel (k := k) (by rw [Nat.xor_comm a, Nat.xor_comm b]; exact h)
theorem crc1_inj {c d : Nat} (hc : c < 4294967296) (hd : d < 4294967296) (h : crc1 c = crc1 d) : c = d := by
  have big : ∀ {x y : Nat}, x < 2147483648 → y < 2147483648 → x ^^^ 3988292384 ≠ y := by
    intro x y hx hy e
    have h1 : x ^^^ y = 3988292384 := by
      rw [← e, ← Nat.xor_assoc]; simp
    have h2 : x ^^^ y < 2 ^ 31 := Nat.xor_lt_two_pow (by omega) (by omega)
    omega
  unfold crc1 at h
  split at h <;> split at h
  · have := xor_cancel h; omega
  · exact absurd h (big (by omega) (by omega))
  · exact absurd h.symm (big (by omega) (by omega))
  · omega
theorem crcK_inj : ∀ (k : Nat) {c d : Nat}, c < 4294967296 → d < 4294967296 → crcK k c = crcK k d → c = d
  | 0, _, _, _, _, h => h
  | k + 1, _, _, hc, hd, h => crc1_inj hc hd (crcK_inj k (crc1_lt hc) (crc1_lt hd) h)
theorem crcB_inj {c d a b : Nat} (hc : c < 4294967296) (hd : d < 4294967296) (ha : a < 256) (hb : b < 256) (h : crcB c a = crcB d b) : c ^^^ a = d ^^^ b :=
  crcK_inj 8 (Nat.xor_lt_two_pow (n := 32) hc (by omega)) (Nat.xor_lt_two_pow (n := 32) hd (by omega)) h
theorem crcF_inj : ∀ (bs : List UInt8) {c d : Nat}, c < 4294967296 → d < 4294967296 → crcF c bs = crcF d bs → c = d
  | [], _, _, _, _, h => h
  | b :: bs, _, _, hc, hd, h => xor_cancel (crcB_inj hc hd b.toNat_lt b.toNat_lt (crcF_inj bs (crcB_lt hc b.toNat_lt) (crcB_lt hd b.toNat_lt) h))
theorem crcF_append (c : Nat) (xs ys : List UInt8) : crcF c (xs ++ ys) = crcF (crcF c xs) ys := by simp [crcF, List.foldl_append]
/-- A text that differs in one byte has another sum. -/
theorem crcN_flip (p q : List UInt8) {x y : UInt8} (h : x ≠ y) : crcN (p ++ x :: q) ≠ crcN (p ++ y :: q) := by
  intro e
  have e := xor_cancel e
  rw [crcF_append, crcF_append] at e
  have hp : crcF 4294967295 p < 4294967296 := crcF_lt p (by omega)
  have e2 : crcF (crcB (crcF 4294967295 p) x.toNat) q = crcF (crcB (crcF 4294967295 p) y.toNat) q := e
  have e3 := crcF_inj q (crcB_lt hp x.toNat_lt) (crcB_lt hp y.toNat_lt) e2
  have e4 := xor_cancel_left (crcB_inj hp hp x.toNat_lt y.toNat_lt e3)
  exact h (UInt8.toNat_inj.1 e4)

/-- The sum of a piece, and of two sums. -/
def leafB (i : Int) (s : List UInt8) : List UInt8 := [108, 101, 97, 102, 32] ++ Go.Lib.itoa i ++ [32] ++ s
def nodeB (a b : Int) : List UInt8 := [110, 111, 100, 101, 32] ++ Go.Lib.itoa a ++ [32] ++ Go.Lib.itoa b
def leafS (i : Int) (s : List UInt8) : Int := (crcN (leafB i s) : Int)
def nodeS (a b : Int) : Int := (crcN (nodeB a b) : Int)
theorem leafS_flip (i : Int) (p q : List UInt8) {x y : UInt8} (h : x ≠ y) : leafS i (p ++ x :: q) ≠ leafS i (p ++ y :: q) := by
  intro e
  have e1 : crcN (leafB i (p ++ x :: q)) = crcN (leafB i (p ++ y :: q)) := by unfold leafS at e; exact_mod_cast e
  unfold leafB at e1
  rw [← List.append_assoc, ← List.append_assoc] at e1
  exact crcN_flip _ q h e1
/-- A number that a sum may be. -/
def Sum (a : Int) : Prop := 0 ≤ a ∧ a < 4294967296
theorem leafS_sum (i : Int) (s : List UInt8) : Sum (leafS i s) := by have := crcN_lt (leafB i s); unfold leafS Sum; omega
theorem nodeS_sum (a b : Int) : Sum (nodeS a b) := by have := crcN_lt (nodeB a b); unfold nodeS Sum; omega

/-- The sums above sums. -/
def up : List Int → List Int
  | [] => []
  | [a] => [a]
  | a :: b :: r => nodeS a b :: up r
theorem up_length : ∀ (L : List Int), (up L).length = (L.length + 1) / 2
  | [] => rfl
  | [_] => by simp [up]
  | _ :: _ :: r => by simp only [up, List.length_cons, up_length r]; omega
theorem up_get : ∀ (L : List Int) (i : Nat) (h : i < (up L).length), (up L)[i] = if h2 : 2 * i + 1 < L.length then nodeS L[2 * i] L[2 * i + 1] else L[2 * i]'(by rw [up_length] at h; omega)
  | [], i, h => by simp [up] at h
  | [a], i, h => by
    have : i = 0 := by simp [up] at h; omega
    subst this
    simp [up]
  | a :: b :: r, 0, h => by simp [up]
  | a :: b :: r, i + 1, h => by
    have h' : i < (up r).length := by simpa [up] using h
    have := up_get r i h'
    simp only [up, List.getElem_cons_succ, this, List.length_cons]
    have e1 : 2 * (i + 1) = (2 * i + 1) + 1 := by omega
    by_cases hc : 2 * i + 1 < r.length
    · rw [dif_pos hc, dif_pos (by omega)]
      simp only [e1, List.getElem_cons_succ]
    · rw [dif_neg hc, dif_neg (by omega)]
      simp only [e1, List.getElem_cons_succ]
theorem up_sum {L : List Int} (h : ∀ a ∈ L, Sum a) : ∀ a ∈ up L, Sum a := by
  intro a ha
  obtain ⟨i, hi, rfl⟩ := List.mem_iff_getElem.1 ha
  rw [up_get]
  split
  · exact nodeS_sum _ _
  · exact h _ (List.getElem_mem _)
theorem up_short {L : List Int} (h : ¬ L.length ≤ 1) : (up L).length < L.length := by rw [up_length]; omega

def rootS (L : List Int) : Int := if h : L.length ≤ 1 then L.headD 0 else rootS (up L)
termination_by L.length
decreasing_by exact up_short h
theorem rootS_one {L : List Int} (h : L.length ≤ 1) : rootS L = L.headD 0 := by rw [rootS, dif_pos h]
theorem rootS_up {L : List Int} (h : ¬ L.length ≤ 1) : rootS L = rootS (up L) := by rw [rootS, dif_neg h]
/-- All levels. -/
def lev (L : List Int) : List (List Int) := if h : L.length ≤ 1 then [L] else L :: lev (up L)
termination_by L.length
decreasing_by exact up_short h
theorem lev_one {L : List Int} (h : L.length ≤ 1) : lev L = [L] := by rw [lev, dif_pos h]
theorem lev_up {L : List Int} (h : ¬ L.length ≤ 1) : lev L = L :: lev (up L) := by rw [lev, dif_neg h]
/-- The other of two. -/
def oth (i : Nat) : Nat := if i % 2 = 0 then i + 1 else i - 1
theorem oth_xor (i : Nat) : i ^^^ 1 = oth i := by
  unfold oth
  apply Nat.eq_of_testBit_eq
  intro j
  by_cases e : i % 2 = 0
  · rw [if_pos e]
    cases j with
    | zero =>
      have e1 : (i + 1) % 2 = 1 := by omega
      rw [Nat.testBit_xor]
      simp [Nat.testBit_zero, e, e1]
    | succ j =>
      rw [Nat.testBit_xor, Nat.testBit_succ, Nat.testBit_succ, Nat.testBit_succ, show (i + 1) / 2 = i / 2 by omega]; simp
  · rw [if_neg e]
    have e0 : i % 2 = 1 := by omega
    cases j with
    | zero =>
      have e1 : (i - 1) % 2 = 0 := by omega
      rw [Nat.testBit_xor]
      simp [Nat.testBit_zero, e0, e1]
    | succ j =>
      rw [Nat.testBit_xor, Nat.testBit_succ, Nat.testBit_succ, Nat.testBit_succ, show (i - 1) / 2 = i / 2 by omega]; simp
/-- The sums beside a way up. -/
def besides (L : List Int) (i : Nat) : List Int :=
  if h : L.length ≤ 1 then [] else (if h2 : oth i < L.length then [L[oth i]] else []) ++ besides (up L) (i / 2)
termination_by L.length
decreasing_by exact up_short h
theorem besides_one {L : List Int} {i : Nat} (h : L.length ≤ 1) : besides L i = [] := by rw [besides, dif_pos h]
theorem besides_up {L : List Int} {i : Nat} (h : ¬ L.length ≤ 1) : besides L i = (if h2 : oth i < L.length then [L[oth i]] else []) ++ besides (up L) (i / 2) := by rw [besides, dif_neg h]
/-- What a sum and the sums beside its way make. -/
def chk (n i : Nat) (s : Int) (p : List Int) : Option Int :=
  if h : n ≤ 1 then (if p = [] then some s else none)
  else if oth i < n then
    match p with
    | [] => none
    | x :: p => chk ((n + 1) / 2) (i / 2) (if i % 2 = 0 then nodeS s x else nodeS x s) p
  else chk ((n + 1) / 2) (i / 2) s p
termination_by n
theorem chk_one {n i : Nat} {s : Int} {p : List Int} (h : n ≤ 1) : chk n i s p = if p = [] then some s else none := by rw [chk.eq_def, dif_pos h]
theorem chk_pass {n i : Nat} {s : Int} {p : List Int} (h : ¬ n ≤ 1) (h2 : ¬ oth i < n) : chk n i s p = chk ((n + 1) / 2) (i / 2) s p := by rw [chk.eq_def, dif_neg h, if_neg h2]
theorem chk_nil {n i : Nat} {s : Int} (h : ¬ n ≤ 1) (h2 : oth i < n) : chk n i s [] = none := by rw [chk.eq_def, dif_neg h, if_pos h2]
theorem chk_cons {n i : Nat} {s x : Int} {p : List Int} (h : ¬ n ≤ 1) (h2 : oth i < n) : chk n i s (x :: p) = chk ((n + 1) / 2) (i / 2) (if i % 2 = 0 then nodeS s x else nodeS x s) p := by rw [chk.eq_def, dif_neg h, if_pos h2]
/-- How many sums a way wants. -/
def wants (n i : Nat) : Nat := if h : n ≤ 1 then 0 else (if oth i < n then 1 else 0) + wants ((n + 1) / 2) (i / 2)
termination_by n
theorem wants_one {n i : Nat} (h : n ≤ 1) : wants n i = 0 := by rw [wants, dif_pos h]
theorem wants_up {n i : Nat} (h : ¬ n ≤ 1) : wants n i = (if oth i < n then 1 else 0) + wants ((n + 1) / 2) (i / 2) := by rw [wants, dif_neg h]
theorem chk_len : ∀ (n : Nat) (i : Nat) (s : Int) (p : List Int) (r : Int), chk n i s p = some r → p.length = wants n i := by
  intro n
  induction n using Nat.strongRecOn with
  | _ n ih =>
    intro i s p r h
    by_cases h1 : n ≤ 1
    · rw [chk_one h1] at h
      rw [wants_one h1]
      split at h
      · rename_i hp; rw [hp]; rfl
      · cases h
    · rw [wants_up h1]
      by_cases h2 : oth i < n
      · cases p with
        | nil => rw [chk_nil h1 h2] at h; cases h
        | cons x p =>
          rw [chk_cons h1 h2] at h
          have := ih _ (by omega) _ _ _ _ h
          rw [if_pos h2, List.length_cons]; omega
      · rw [chk_pass h1 h2] at h
        have := ih _ (by omega) _ _ _ _ h
        rw [if_neg h2]; omega
theorem besides_len : ∀ (n : Nat) (L : List Int) (i : Nat), L.length = n → (besides L i).length = wants n i := by
  intro n
  induction n using Nat.strongRecOn with
  | _ n ih =>
    intro L i hn
    subst hn
    by_cases h1 : L.length ≤ 1
    · rw [besides_one h1, wants_one h1]; rfl
    · rw [besides_up h1, wants_up h1, List.length_append, ih _ (up_short h1) (up L) (i / 2) rfl, up_length]
      split <;> simp
/-- Each piece is proved by the sums beside its way. -/
theorem chk_besides : ∀ (n : Nat) (L : List Int) (i : Nat) (h : i < L.length), L.length = n → chk n i L[i] (besides L i) = some (rootS L) := by
  intro n
  induction n using Nat.strongRecOn with
  | _ n ih =>
    intro L i h hn
    subst hn
    by_cases h1 : L.length ≤ 1
    · rw [besides_one h1, chk_one h1, rootS_one h1, if_pos rfl]
      match L, h, h1 with
      | [a], h, _ =>
        have : i = 0 := by simp at h; omega
        subst this; rfl
    · have hlen := up_length L
      have hi2 : i / 2 < (up L).length := by omega
      have hg := up_get L (i / 2) hi2
      have hr := ih _ (up_short h1) (up L) (i / 2) hi2 rfl
      rw [rootS_up h1, besides_up h1, ← hr]
      by_cases h2 : oth i < L.length
      · rw [dif_pos h2, List.singleton_append, chk_cons h1 h2, ← hlen]
        congr 1
        rw [hg]
        by_cases he : i % 2 = 0
        · have ho : oth i = i + 1 := by unfold oth; rw [if_pos he]
          rw [if_pos he, dif_pos (by omega)]
          congr 1
          · congr 1; omega
          · simp only [ho]; congr 1; omega
        · have ho : oth i = i - 1 := by unfold oth; rw [if_neg he]
          rw [if_neg he, dif_pos (by omega)]
          congr 1
          · simp only [ho]; congr 1; omega
          · congr 1; omega
      · have he : i % 2 = 0 := by
          rcases Nat.mod_two_eq_zero_or_one i with e | e
          · exact e
          · unfold oth at h2; rw [if_neg (by omega)] at h2; omega
        have ho : oth i = i + 1 := by unfold oth; rw [if_pos he]
        rw [dif_neg h2, List.nil_append, chk_pass h1 h2, ← hlen]
        congr 1
        rw [hg, dif_neg (by omega)]
        congr 1; omega
/-- Two pieces or more: each way wants a sum. -/
theorem wants_pos : ∀ (n i : Nat), 2 ≤ n → i < n → 1 ≤ wants n i := by
  intro n
  induction n using Nat.strongRecOn with
  | _ n ih =>
    intro i h hi
    rw [wants_up (by omega)]
    by_cases h2 : oth i < n
    · rw [if_pos h2]; omega
    · have he : i % 2 = 0 ∧ i + 1 ≥ n := by
        unfold oth at h2
        split at h2 <;> omega
      have := ih ((n + 1) / 2) (by omega) (i / 2) (by omega) (by omega)
      omega
/-- The sums of pieces. -/
def leavesFrom : Nat → List (List UInt8) → List Int
  | _, [] => []
  | k, s :: r => leafS (k : Int) s :: leavesFrom (k + 1) r
def leaves (xs : List (List UInt8)) : List Int := leavesFrom 0 xs
theorem leavesFrom_length : ∀ (k : Nat) (xs : List (List UInt8)), (leavesFrom k xs).length = xs.length
  | _, [] => rfl
  | k, _ :: r => by simp [leavesFrom, leavesFrom_length (k + 1) r]
theorem leaves_length (xs : List (List UInt8)) : (leaves xs).length = xs.length := leavesFrom_length 0 xs
theorem leavesFrom_get : ∀ (k : Nat) (xs : List (List UInt8)) (i : Nat) (h : i < (leavesFrom k xs).length), (leavesFrom k xs)[i] = leafS ((k + i : Nat) : Int) (xs[i]'(by rw [leavesFrom_length] at h; exact h))
  | k, [], i, h => by simp [leavesFrom] at h
  | k, s :: r, 0, h => rfl
  | k, s :: r, i + 1, h => by
    have := leavesFrom_get (k + 1) r i (by simpa [leavesFrom] using h)
    simp only [leavesFrom, List.getElem_cons_succ, this]
    congr 2; omega
theorem leaves_get (xs : List (List UInt8)) (i : Nat) (h : i < (leaves xs).length) : (leaves xs)[i] = leafS (i : Int) (xs[i]'(by rw [leaves_length] at h; exact h)) := by
  refine (leavesFrom_get 0 xs i h).trans ?_
  rw [Nat.zero_add]
theorem leavesFrom_snoc : ∀ (k : Nat) (xs : List (List UInt8)) (s : List UInt8), leavesFrom k (xs ++ [s]) = leavesFrom k xs ++ [leafS ((k + xs.length : Nat) : Int) s]
  | k, [], s => by simp [leavesFrom]
  | k, x :: r, s => by
    simp only [List.cons_append, leavesFrom, leavesFrom_snoc (k + 1) r s, List.length_cons]
    congr 4; omega
theorem leaves_snoc (xs : List (List UInt8)) (s : List UInt8) : leaves (xs ++ [s]) = leaves xs ++ [leafS (xs.length : Int) s] := by
  have := leavesFrom_snoc 0 xs s
  simpa [leaves] using this
theorem leaves_sum (xs : List (List UInt8)) : ∀ a ∈ leaves xs, Sum a := by
  intro a ha
  obtain ⟨i, hi, rfl⟩ := List.mem_iff_getElem.1 ha
  rw [leaves_get]
  exact leafS_sum _ _
theorem rootS_sum : ∀ (n : Nat) (L : List Int), L.length = n → 1 ≤ n → (∀ a ∈ L, Sum a) → Sum (rootS L) := by
  intro n
  induction n using Nat.strongRecOn with
  | _ n ih =>
    intro L hn h1 hs
    subst hn
    by_cases h : L.length ≤ 1
    · rw [rootS_one h]
      match L, h, h1 with
      | [a], _, _ => exact hs a (by simp)
    · rw [rootS_up h]
      exact ih _ (up_short h) (up L) rfl (by rw [up_length]; omega) (up_sum hs)
theorem besides_sum : ∀ (n : Nat) (L : List Int) (i : Nat), L.length = n → (∀ a ∈ L, Sum a) → ∀ a ∈ besides L i, Sum a := by
  intro n
  induction n using Nat.strongRecOn with
  | _ n ih =>
    intro L i hn hs a ha
    subst hn
    by_cases h : L.length ≤ 1
    · rw [besides_one h] at ha; simp at ha
    · rw [besides_up h, List.mem_append] at ha
      rcases ha with ha | ha
      · split at ha
        · simp at ha; rw [ha]; exact hs _ (List.getElem_mem _)
        · simp at ha
      · exact ih _ (up_short h) (up L) (i / 2) rfl (up_sum hs) a ha
/-- The ways of the first two pieces differ in their first sum alone. -/
theorem besides_pair {L : List Int} (h : 2 ≤ L.length) : ∃ r, besides L 0 = L[1] :: r ∧ besides L 1 = L[0] :: r := by
  have h1 : ¬ L.length ≤ 1 := by omega
  refine ⟨besides (up L) 0, ?_, ?_⟩
  · rw [besides_up h1, dif_pos (by simp [oth]; omega)]; simp [oth]
  · rw [besides_up h1, dif_pos (by simp [oth]; omega)]; simp [oth]
end Go.Proofs.YtajmfonepnkofaaDoor
