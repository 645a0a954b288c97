/-
  'formed' and 'PieceJoin' in both packages.
-/
import Derived.Test.YtjhgcppjpolamaaDoorPF
import Derived.Lib.Join
namespace Go.Proofs.YtjhgcppjpolamaaDoor
open Go.RowKit Rg
set_option linter.unusedVariables false
set_option linter.unusedSimpArgs false

theorem flat_cat (xs : List ByteArray) : (xs.map (·.data.toList)).flatten = (catS xs).data.toList := by
  induction xs with
  | nil => rfl
  | cons x xs ih =>
    show _ = (x ++ catS xs).data.toList
    simp [ih]
theorem join_flat (l : List (List UInt8)) : Go.Lib.join l [] = l.flatten := by
  cases l with
  | nil => rfl
  | cons x r =>
    rw [Go.Lib.join_cons]
    simp [Go.Lib.joinTail]
theorem join_cat (xs : List ByteArray) : (⟨(Go.Lib.join (xs.map (·.data.toList)) (⟨#[]⟩ : ByteArray).data.toList).toArray⟩ : ByteArray) = catS xs := by
  apply ba_ext
  show (Go.Lib.join (xs.map (·.data.toList)) []).toArray = _
  rw [join_flat, flat_cat]
theorem cat_size (xs : List ByteArray) : (catS xs).size = sumS xs := by
  induction xs with
  | nil => rfl
  | cons x xs ih => show (x ++ catS xs).size = _; rw [ByteArray.size_append, ih]; rfl
theorem join_c (A : Option Addr) (n c lo hi : Nat) (xs : List ByteArray) (w : World) (hn : n = xs.length) (hb : n + sumS xs ≤ 1048576) (hc : n ≤ c) (hs : Sl encS 1 w lo hi A xs) (hhi : hi ≤ w.heap.size) (h0 : 0 < n) :
    Calls Tryd.prog 67 #[.slice A n c, .string ⟨#[]⟩] w fun e w' => e = .returned (.string (catS xs)) ∧ Below w.heap.size w w' := by
  subst hn
  obtain ⟨b, off, rfl, hlo, hbh⟩ := hs.addr h0
  have hj := strings_Join b off c xs ⟨#[]⟩ w (fun j x hx => by
    obtain ⟨hj, rfl⟩ := List.getElem?_eq_some_iff.1 hx
    exact hs.str hj) (by omega) (by omega) hc (by
    show (Go.Lib.join (xs.map (·.data.toList)) []).length ≤ _
    rw [join_flat, flat_cat]
    have := cat_size xs
    have e : (catS xs).data.toList.length = (catS xs).size := rfl
    omega)
  rw [join_cat] at hj
  exact hj

set_option maxHeartbeats 1000000 in
theorem formed_c (A : Option Addr) (n c lo hi : Nat) (xs : List ByteArray) (w : World) (hn : n = xs.length) (hb : n + sumS xs ≤ 1048576) (hc : n ≤ c) (hs : Sl encS 1 w lo hi A xs) (hhi : hi ≤ w.heap.size) :
    Calls Tryd.prog 50 #[.slice A n c] w fun e w' => e = .returned (.bool (decide (okP xs))) ∧ Below w.heap.size w w' := by
  have hn' := hide hn
  clear hn
  by_cases h0 : 0 < n
  · have d1 : decide (0 < (n : Int)) = true := by simpa using h0
    have hbL := pieces_len (catS xs) (by rw [cat_size]; omega)
    go_enter Tryd.func50, Tryd.ntmps50
    go_wp2_with fail
    refine (join_c A n c lo hi xs w hn'.out hb hc hs hhi h0).mono ?_
    rintro e w1 ⟨rfl, hB1⟩
    go_wp2_with fail
    refine (PieceOf_c (catS xs) w1 (by rw [cat_size]; omega)).mono ?_
    rintro e w2 ⟨v2, rfl, ho2, hb2⟩
    have hB2 : Below w.heap.size w w2 := hB1.trans (hb2.mono hB1.size)
    obtain ⟨A2, c2, rfl, hc21, hc22, hs2⟩ := ho2.sl encS_len
    go_wp2_with fail
    refine (equal_c A2 A _ n c2 c _ _ lo hi (pieces (catS xs)) xs w2 rfl hn'.out (by omega) (by omega) hs2 (hs.below hB2 hhi) (Nat.le_refl _) (Nat.le_trans hhi hB2.size)).mono ?_
    rintro e w3 ⟨rfl, hb3⟩
    have hP : Hid (decide (okP xs) = decide (pieces (catS xs) = xs)) := hide (decide_eq_decide.2 ((okP_iff xs).trans ⟨fun h => h.2, fun h => ⟨by have := hn'.out; omega, h⟩⟩))
    go_wp2
    go_ret
    exact ⟨by rw [hP.out]; rfl, hB2.trans (hb3.mono hB2.size)⟩
  · have d1 : decide (0 < (n : Int)) = false := by simpa using h0
    have hno : Hid (¬ okP xs) := hide (fun h => by have := h.2.1.1; have := hn'.out; omega)
    go_enter Tryd.func50, Tryd.ntmps50
    go_wp2
    go_ret
    exact ⟨by simp [hno.out], Below.refl _ _⟩

/-- What 'PieceJoin' answers. -/
def joinR (xs : List ByteArray) : ByteArray × Bool := if okP xs then (catS xs, true) else (⟨#[]⟩, false)
set_option maxHeartbeats 1000000 in
theorem PieceJoin_c (A : Option Addr) (n c lo hi : Nat) (xs : List ByteArray) (w : World) (hn : n = xs.length) (hb : n + sumS xs ≤ 1048576) (hc : n ≤ c) (hs : Sl encS 1 w lo hi A xs) (hhi : hi ≤ w.heap.size) :
    Calls Tryd.prog 58 #[.slice A n c] w fun e w' => e = .returned (.tuple #[.string (joinR xs).1, .bool (joinR xs).2]) ∧ Below w.heap.size w w' := by
  have hn' := hide hn
  clear hn
  go_enter Tryd.func58, Tryd.ntmps58
  go_wp2_with fail
  refine (formed_c A n c lo hi xs w hn'.out hb hc hs hhi).mono ?_
  rintro e w1 ⟨rfl, hB1⟩
  cases e1 : decide (okP xs)
  · have hno : Hid (joinR xs = (⟨#[]⟩, false)) := hide (by simp at e1; simp [joinR, e1])
    go_wp2
    refine bodyPost_ret (v := .tuple #[.string ⟨#[]⟩, .bool false]) (by simp [results, Tryd.results58, go_sem]) rfl ⟨by rw [hno.out], hB1⟩
  · have hok : Hid (okP xs) := hide (of_decide_eq_true e1)
    have hy : Hid (joinR xs = (catS xs, true)) := hide (by simp [joinR, hok.out])
    go_wp2_with fail
    refine (join_c A n c lo hi xs w1 hn'.out hb hc (hs.below hB1 hhi) (Nat.le_trans hhi hB1.size) (by have := hok.out.2.1.1; have := hn'.out; omega)).mono ?_
    rintro e w2 ⟨rfl, hb2⟩
    go_wp2
    refine bodyPost_ret (v := .tuple #[.string (catS xs), .bool true]) (by simp [results, Tryd.results58, go_sem]) rfl ⟨by rw [hy.out], hB1.trans (hb2.mono hB1.size)⟩
theorem cat_app (xs ys : List ByteArray) : catS (xs ++ ys) = catS xs ++ catS ys := by
  apply ba_ext
  have h1 := flat_cat (xs ++ ys)
  rw [List.map_append, List.flatten_append, flat_cat, flat_cat] at h1
  have h2 : (catS xs ++ catS ys).data.toList = (catS (xs ++ ys)).data.toList := by rw [← h1]; simp
  exact (Array.toList_inj.1 h2).symm
theorem cat_take (xs : List ByteArray) (k : Nat) (h : k < xs.length) : catS (xs.take (k + 1)) = catS (xs.take k) ++ xs[k] := by
  rw [List.take_succ_eq_append_getElem h, cat_app]
  simp only [catS, append_empty]
set_option maxHeartbeats 1000000 in
theorem specPieceJoin_c (A : Option Addr) (n c lo hi : Nat) (xs : List ByteArray) (w : World) (hn : n = xs.length) (hb : n + sumS xs ≤ 1048576) (hs : Sl encS 1 w lo hi A xs) (hhi : hi ≤ w.heap.size) :
    Calls Tryd.prog 56 #[.slice A n c] w fun e w' => e = .returned (.tuple #[.string (joinR xs).1, .bool (joinR xs).2]) ∧ w = w' := by
  have hn' := hide hn
  clear hn
  go_enter Tryd.func56, Tryd.ntmps56
  go_wp2_with fail
  refine (l12Ok_c A n c lo hi xs w hn'.out (by omega) hs hhi).mono ?_
  rintro e w1 ⟨rfl, rfl⟩
  cases e1 : decide (okP xs)
  · have hno : Hid (joinR xs = (⟨#[]⟩, false)) := hide (by simp at e1; simp [joinR, e1])
    go_wp2
    refine bodyPost_ret (v := .tuple #[.string ⟨#[]⟩, .bool false]) (by simp [results, Tryd.results56, go_sem]) rfl ⟨by rw [hno.out], rfl⟩
  · have hok : Hid (okP xs) := hide (of_decide_eq_true e1)
    have hy : Hid (joinR xs = (catS xs, true)) := hide (by simp [joinR, hok.out])
    go_wp2
    go_loop [4, 5] (fun sv i => ∃ k : Nat, k ≤ n ∧ i = .int .i64 k ∧ sv = .string (catS (xs.take k))) (fun _ i => n - (intOf i).toNat)
    case atStart => exact ⟨0, Nat.zero_le _, rfl, rfl⟩
    case round =>
      obtain ⟨k, hk, rfl, rfl⟩ := hrel
      by_cases hlt : k < n
      · have hlx : k < xs.length := by have := hn'.out; omega
        obtain ⟨b, off, rfl, hlo, hbh⟩ := hs.addr hlx
        have a1 := hs.str hlx
        have ht := hide (cat_take xs k hlx)
        have hsz : ¬ 9223372036854775807 < (catS (xs.take k)).size + xs[k].size := by
          have g1 := sumS_take xs k hlx
          have g2 := sumS_le xs (k + 1)
          rw [cat_size]; omega
        go_wp2
        go_roundw
        case rel => exact ⟨k + 1, by omega, by go_num, by rw [ht.out]⟩
        case measure => simp [intOf]; omega
      · obtain rfl : k = n := by omega
        have hf : Hid (xs.take k = xs) := hide (List.take_of_length_le (by rw [hn'.out]; omega))
        go_wp2
        refine bodyPost_ret (v := .tuple #[.string (catS (xs.take k)), .bool true]) (by simp [results, Tryd.results56, go_sem]) rfl ⟨by rw [hy.out, hf.out], rfl⟩
end Go.Proofs.YtjhgcppjpolamaaDoor
