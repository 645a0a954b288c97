/-
  'FnPieceRoot': the law.
-/
import Derived.Test.YtjhgcppjpolamaaDoorPXoh
import Derived.Laws.IdiomStrings
namespace Go.Proofs.YtjhgcppjpolamaaDoor
open Go.RowKit Rg
set_option linter.unusedVariables false
set_option linter.unusedSimpArgs false

theorem okP_one {x : ByteArray} (h : x.size ≤ 12) : okP [x] := by
  refine ⟨fun i hi => ?_, by simp, .inl rfl⟩
  have : i = 0 := by simp at hi; omega
  subst this
  exact ⟨by simp, h, fun h2 => by simp at h2⟩
theorem root_one {x : ByteArray} (h : x.size ≤ 12) : rootR [x] = leafS 0 x.data.toList := by
  rw [rootR, if_pos (okP_one h)]
  have : lvs [x] = [leafS 0 x.data.toList] := rfl
  rw [this, rootS_one (by simp)]
  rfl
theorem lvs_first {xs : List ByteArray} (h : 0 < xs.length) : (lvs xs)[0]'(by rw [lvs_len]; exact h) = leafS 0 xs[0].data.toList := by
  exact lvs_get xs 0 _
theorem proof_pair {xs : List ByteArray} (hok : okP xs) (h2 : 2 ≤ xs.length) : ∃ (a : Int) (r : List Int), proofR xs 0 = a :: r ∧ proofR xs 1 = leafS 0 xs[0].data.toList :: r := by
  have hl := lvs_len xs
  obtain ⟨r, h3, h4⟩ := besides_pair (L := lvs xs) (by omega)
  have e0 : proofR xs 0 = besides (lvs xs) 0 := by
    unfold proofR
    rw [if_pos ⟨hok, by simp [inB]; omega⟩]
    rfl
  have e1 : proofR xs 1 = besides (lvs xs) 1 := by
    unfold proofR
    rw [if_pos ⟨hok, by simp [inB]; omega⟩]
    rfl
  exact ⟨_, r, e0.trans h3, by rw [e1, h4, lvs_first (by omega)]⟩
theorem isEmpty_no {s : ByteArray} (h : ¬ s.size = 0) : s.toList.isEmpty = false := by
  rw [ByteArray.toList_eq]
  cases h2 : s.data.toList with
  | nil =>
    have h3 := congrArg List.length h2
    rw [Array.length_toList] at h3
    exact absurd h3 h
  | cons _ _ => rfl
theorem bytes_made (w : World) (s : ByteArray) (h0 : s.size ≤ 12) : ∃ (cap : Nat) (W : World), (convert 9 26 (.string s)).run Tryd.prog w = .ok (.slice (some ⟨w.heap.size, 0, none⟩) s.size cap) W ∧ Below w.heap.size w W ∧ w.heap.size < W.heap.size ∧
    (∀ j (hj : j < s.data.size), W.cell? ⟨w.heap.size, j, none⟩ = some (.int .u8 (s.data[j].toNat : Int))) ∧ (∀ j, j < s.data.size → W.frozen? ⟨w.heap.size, j, none⟩ = false) := by
  have hcv := run_bytes_of_string (P := Tryd.prog) w 9 26 5 s Tryd.underlying9 Tryd.underlying26 Tryd.underlying5
  refine ⟨_, _, hcv, (Below.drew (Below.refl _ w)).alloc (Nat.le_refl _) _, by simp, fun j hj => ?_, fun j hj => ?_⟩
  · have h9 := bytesRow_at s (grownCap w s.size 0 5) j hj
    have hh := heap_alloc_new w.drew (.cells (bytesRow s (grownCap w s.size 0 5)) 5 ((bytesRow s (grownCap w s.size 0 5)).size, (bytesRow s (grownCap w s.size 0 5)).size + 1))
    have hh' : (w.drew.alloc (.cells (bytesRow s (grownCap w s.size 0 5)) 5 ((bytesRow s (grownCap w s.size 0 5)).size, (bytesRow s (grownCap w s.size 0 5)).size + 1))).heap[w.heap.size]? = _ := hh
    unfold World.cell?
    rw [hh']
    exact h9
  · have h9 : j < (bytesRow s (grownCap w s.size 0 5)).size := (Array.getElem?_eq_some_iff.1 (bytesRow_at s (grownCap w s.size 0 5) j hj)).1
    have hh := heap_alloc_new w.drew (.cells (bytesRow s (grownCap w s.size 0 5)) 5 ((bytesRow s (grownCap w s.size 0 5)).size, (bytesRow s (grownCap w s.size 0 5)).size + 1))
    have hh' : (w.drew.alloc (.cells (bytesRow s (grownCap w s.size 0 5)) 5 ((bytesRow s (grownCap w s.size 0 5)).size, (bytesRow s (grownCap w s.size 0 5)).size + 1))).heap[w.heap.size]? = _ := hh
    unfold World.frozen?
    rw [hh']
    simp
    omega
theorem bv8 (a : Nat) (h : a < 256) : (BitVec.ofInt 8 (a : Int)).toNat = a := by
  rw [BitVec.ofInt_natCast, BitVec.toNat_ofNat]; exact Nat.mod_eq_of_lt (by omega)
theorem wrap_u8_small (n : Nat) (h : n < 256) : IntKind.u8.wrap (n : Int) = (n : Int) := by
  have e : (n : Int) % 256 = (n : Int) := by omega
  show (if false && decide ((n : Int) % 256 ≥ 128) then (n : Int) % 256 - 256 else (n : Int) % 256) = (n : Int)
  rw [e]; simp
theorem xor_u8 (a b : Nat) (ha : a < 256) (hb : b < 256) : bits .xor .u8 (a : Int) (b : Int) = ((a ^^^ b : Nat) : Int) := by
  have hx : a ^^^ b < 2 ^ 8 := Nat.xor_lt_two_pow (by omega) (by omega)
  show IntKind.u8.wrap ((BitVec.ofInt 8 (a : Int) ^^^ BitVec.ofInt 8 (b : Int)).toNat : Int) = _
  rw [BitVec.toNat_xor, bv8 a ha, bv8 b hb, wrap_u8_small _ (by omega)]
/-- A byte with one bit turned is another byte. -/
theorem turned_byte (x : UInt8) (k : Nat) : ∃ y : UInt8, y ≠ x ∧ bits .xor .u8 (x.toNat : Int) (2 ^ (k % 8) % 256) = (y.toNat : Int) := by
  have hk : k % 8 < 8 := Nat.mod_lt _ (by omega)
  have hx := x.toNat_lt
  have hp : 2 ^ (k % 8) < 256 ∧ 2 ^ (k % 8) ≠ 0 := by
    have : ∀ j, j < 8 → 2 ^ j < 256 ∧ 2 ^ j ≠ 0 := by decide
    exact this _ hk
  have hc : ((2 : Int) ^ (k % 8) % 256) = ((2 ^ (k % 8) : Nat) : Int) := by
    have : ∀ j, j < 8 → ((2 : Int) ^ j % 256) = ((2 ^ j : Nat) : Int) := by decide
    exact this _ hk
  have hlt : x.toNat ^^^ 2 ^ (k % 8) < 2 ^ 8 := Nat.xor_lt_two_pow (by omega) (by omega)
  refine ⟨UInt8.ofNat (x.toNat ^^^ 2 ^ (k % 8)), fun h => ?_, ?_⟩
  · have h1 := congrArg UInt8.toNat h
    rw [UInt8.toNat_ofNat', Nat.mod_eq_of_lt hlt] at h1
    have h2 : x.toNat ^^^ 2 ^ (k % 8) = x.toNat ^^^ 0 := by rw [Nat.xor_zero]; exact h1
    exact hp.2 (xor_cancel_left h2)
  · rw [hc, xor_u8 _ _ (by omega) hp.1, UInt8.toNat_ofNat', Nat.mod_eq_of_lt hlt]
theorem set_split (l : List UInt8) (i : Nat) (h : i < l.length) (y : UInt8) : l = l.take i ++ l[i] :: l.drop (i + 1) ∧ l.set i y = l.take i ++ y :: l.drop (i + 1) := by
  constructor
  · rw [← List.drop_eq_getElem_cons h, List.take_append_drop]
  · rw [List.set_eq_take_append_cons_drop, if_pos h]
/-- The sum of a piece with one byte turned is another sum. -/
theorem leaf_turned (s : ByteArray) (i : Nat) (h : i < s.data.size) (y : UInt8) (hy : y ≠ s.data[i]) : leafS 0 (s.data.toList.set i y) ≠ leafS 0 s.data.toList := by
  obtain ⟨h1, h2⟩ := set_split s.data.toList i (by simpa using h) y
  rw [h2]
  intro e
  have e2 := e.trans (congrArg (leafS 0) h1)
  exact leafS_flip 0 _ _ (by simpa using hy) e2
theorem made_back (W : World) (g cap m : Nat) (s : ByteArray) (y : UInt8) (v : Value) (hv : v = .int .u8 (y.toNat : Int)) (i : Nat) (hi : i < s.data.size) (hg : g < W.heap.size)
    (hc : ∀ j (hj : j < s.data.size), W.cell? ⟨g, j, none⟩ = some (.int .u8 (s.data[j].toNat : Int))) :
    (convert 26 9 (.slice (some ⟨g, 0, none⟩) s.size cap)).run Tryd.prog ((W.setCell ⟨g, i, none⟩ v).drew) = .ok (.string ⟨(s.data.toList.set i y).toArray⟩) ((W.setCell ⟨g, i, none⟩ v).drew) := by
  subst hv
  have hl : (s.data.toList.set i y).length = s.size := by simp
  have := _root_.Go.run_convert_bytes_back (P := Tryd.prog) ((W.setCell ⟨g, i, none⟩ (.int .u8 (y.toNat : Int))).drew) 26 9 5 ⟨g, 0, none⟩ cap (s.data.toList.set i y) Tryd.underlying26 Tryd.underlying5 Tryd.underlying9 (fun j hj => by
    have hj' : j < s.data.size := by rw [hl] at hj; exact hj
    have ha : (⟨g, 0, none⟩ : Addr).add j = ⟨g, j, none⟩ := by
      unfold Addr.add
      by_cases h0 : j = 0 <;> simp [h0]
    rw [ha]
    show (W.setCell ⟨g, i, none⟩ (.int .u8 (y.toNat : Int))).cell? ⟨g, j, none⟩ = _
    by_cases hij : j = i
    · subst hij
      rw [List.getElem_set_self]
      exact World.cell?_setCell_same (h := hc j hj') ..
    · rw [List.getElem_set_ne (by omega)]
      exact (World.cell?_setCell_other (h := by intro h; injection h with _ h; exact hij h.symm) ..).trans (hc j hj')
      )
  rw [hl] at this
  exact this
theorem cell_new (W : World) (p : Addr) (v x : Value) (e : TypeId) : (((W.setCell p v).alloc (.cells #[x] e)).drew).cell? ⟨W.heap.size, 0, none⟩ = some x := by
  have hs : (W.setCell p v).heap.size = W.heap.size := by simp
  have h := World.cell?_alloc_new (W.setCell p v) #[x] e 0
  rw [hs] at h
  exact h
theorem wpInts_same (A B : Option Addr) (n m c d lo hi lo' hi' : Nat) (xs : List Int) (w : World) (hn : n = xs.length) (hb : n ≤ 1048576) (hs : Sl encI 1 w lo hi A xs) (hs' : Sl encI 1 w lo' hi' B xs) (hhi : hi ≤ w.heap.size) (hhi' : hi' ≤ w.heap.size) :
    Calls Tryd.prog 23 #[.slice A n c, .slice B n d] w fun e w' => e = .returned (.bool true) ∧ Below w.heap.size w w' := by
  have := wpInts_c A B n n c d lo hi lo' hi' xs xs w hn hn hb hb hs hs' hhi hhi'
  simpa using this
set_option maxRecDepth 100000 in
set_option maxHeartbeats 16000000 in
theorem lawPieceRootD (A : Option Addr) (n c : Nat) (bs : List Int) (A9 : Option Addr) (m c9 : Nat) (w : World) (hn : n = bs.length) (hc : n ≤ c) (hcm : c ≤ maxLen) (hs : Sl encU 1 w 0 w.heap.size A bs) (hb : ∀ b ∈ bs, 0 ≤ b ∧ b < 256) (ht : Tab w) :
    Calls Tryd.prog 6 #[.slice A n c, .slice A9 m c9] w fun e w' => e = .returned (.bool true) ∧ Below w.heap.size w w' := by
  by_cases hbig : 1048576 < n
  · have d1 : decide (1048576 < (n : Int)) = true := by simp only [decide_eq_true_eq]; omega
    go_enter Tryd.func6, Tryd.ntmps6
    go_wp2
    go_ret
    exact ⟨rfl, Below.refl _ _⟩
  · have d1 : decide (1048576 < (n : Int)) = false := by simp only [decide_eq_false_iff_not]; omega
    by_cases hbig2 : 1048576 < m
    · have d2 : decide (1048576 < (m : Int)) = true := by simp only [decide_eq_true_eq]; omega
      go_enter Tryd.func6, Tryd.ntmps6
      go_wp2
      go_ret
      exact ⟨rfl, Below.refl _ _⟩
    · have d2 : decide (1048576 < (m : Int)) = false := by simp only [decide_eq_false_iff_not]; omega
      have hn' := hide hn
      clear hn
      go_enter Tryd.func6, Tryd.ntmps6
      go_wp2_with fail
      refine (DrawPieceRoot_c A n c bs w hn'.out hc hcm hs hb).mono ?_
      rintro e w1 ⟨v, xs, rfl, hl, hsum, ho, hb1⟩
      obtain ⟨A1, n1, c1, rfl, hn1⟩ := ho.shape
      have hcap := ho.cap
      have hcm1 := hcap.2
      unfold maxLen at hcm1
      have hsl := (ho.slAt encS_len).2.2
      have hn300 : n1 ≤ 300 := by have := hn1.out; omega
      have rot : ∀ (W : World), Below w1.heap.size w1 W → Calls Tryd.prog 19 #[.slice A1 n1 c1] W fun e w' => e = .returned (.int .i64 (rootR xs)) ∧ Below W.heap.size W w' := fun W hW =>
        PieceRoot_c A1 n1 c1 _ _ xs W hn1.out (by omega) hcap.1 (hsl.below hW (Nat.le_refl _)) hW.size ((ht.below hb1).below hW)
      have spr : ∀ (W : World), Below w1.heap.size w1 W → Calls Tryd.prog 17 #[.slice A1 n1 c1] W fun e w' => e = .returned (.int .i64 (rootR xs)) ∧ Below W.heap.size W w' := fun W hW =>
        specPieceRoot_c A1 n1 c1 _ _ xs W hn1.out (by omega) (hsl.below hW (Nat.le_refl _)) hW.size
      have prf : ∀ (i : Int) (W : World), Below w1.heap.size w1 W → Calls Tryd.prog 22 #[.slice A1 n1 c1, .int .i64 i] W fun e w' => ∃ v, e = .returned v ∧ Own encI 1 3 w' W.heap.size v (proofR xs i) ∧ Below W.heap.size W w' := fun i W hW =>
        PieceProof_c A1 n1 c1 _ _ xs i W hn1.out (by omega) hcap.1 (hsl.below hW (Nat.le_refl _)) hW.size ((ht.below hb1).below hW)
      have rot' := hide rot
      have spr' := hide spr
      have prf' := hide prf
      clear rot spr prf
      have n0 : (rootR xs != rootR xs) = false := by simp
      have n9 : (rootR xs == rootR xs) = true := by simp
      go_wp2_with fail
      refine (rot'.out w1 (Below.refl _ _)).mono ?_
      rintro e w2 ⟨rfl, hb2⟩
      have hb2' := hide hb2
      have hB2 := hide (hb1.trans (hb2.mono hb1.size))
      go_wp2_with fail
      refine (spr'.out w2 hb2'.out).mono ?_
      rintro e w3 ⟨rfl, hb3⟩
      have hb3' := hide (hb2'.out.trans (hb3.mono hb2'.out.size))
      have hB3 := hide (hB2.out.trans (hb3.mono hB2.out.size))
      clear hb2 hb3
      by_cases hneg : rootR xs < 0
      · have g1 : decide (rootR xs < 0) = true := by simpa using hneg
        go_wp2_with fail
        refine (spr'.out w3 hb3'.out).mono ?_
        rintro e w4 ⟨rfl, hb4⟩
        go_wp2
        go_ret
        exact ⟨rfl, hB3.out.trans (hb4.mono hB3.out.size)⟩
      · have g1 : decide (rootR xs < 0) = false := by simpa using hneg
        have hok : okP xs := Classical.byContradiction fun h => hneg (rootR_neg.2 h)
        obtain ⟨h16, hpos, h12⟩ := okP_small hok
        have h012 := h12 0 (by omega)
        have hn1p : 1 ≤ n1 := by have := hn1.out; omega
        obtain ⟨b, off, rfl, hlo, hbh⟩ := hsl.addr (k := 0) (by omega)
        have a0 := (hsl.below hb3'.out (Nat.le_refl _)).str (k := 0) (by omega)
        simp only [Nat.add_zero] at a0
        have hcap1 := hcap.1
        have hok' := hide hok
        clear hok h12
        by_cases h2 : 1 < n1
        · have g2 : decide (1 < (n1 : Int)) = true := by simp only [decide_eq_true_eq]; omega
          obtain ⟨a, r, e0, e1⟩ := proof_pair hok'.out (by have := hn1.out; omega)
          have hr16 : r.length ≤ 16 := by have := proofR_len xs 0; rw [e0] at this; simp at this; omega
          have hone : Hid (Sl encS 1 w1 0 w1.heap.size (some ⟨b, off, none⟩) [xs[0]]) := hide (by
            have := (hsl.take_ 1).mono (Nat.zero_le _) (Nat.le_refl _)
            have e9 : xs.take 1 = [xs[0]] := by
              cases xs with
              | nil => simp at hpos
              | cons y ys => rfl
            rw [e9] at this
            exact this)
          have rone : ∀ (W : World), Below w1.heap.size w1 W → Calls Tryd.prog 19 #[.slice (some ⟨b, off, none⟩) 1 c1] W fun e w' => e = .returned (.int .i64 (leafS 0 xs[0].data.toList)) ∧ Below W.heap.size W w' := fun W hW => by
            have := PieceRoot_c (some ⟨b, off, none⟩) 1 c1 0 w1.heap.size [xs[0]] W rfl (by simp [sumS]; omega) (by omega) (hone.out.below hW (Nat.le_refl _)) hW.size ((ht.below hb1).below hW)
            rw [root_one h012] at this
            exact this
          have rone' := hide rone
          clear rone
          go_wp2_with fail
          refine (prf'.out 0 w3 hb3'.out).mono ?_
          rintro e w4 ⟨v4, rfl, ho4, hb4⟩
          rw [e0] at ho4
          have hb4' := hide (hb3'.out.trans (hb4.mono hb3'.out.size))
          have hB4 := hide (hB3.out.trans (hb4.mono hB3.out.size))
          obtain ⟨A4, n4, c4, rfl, hn4⟩ := ho4.shape
          go_wp2_with fail
          refine (prf'.out 1 w4 hb4'.out).mono ?_
          rintro e w5 ⟨v5, rfl, ho5, hb5⟩
          rw [e1] at ho5
          have hb5' := hide (hb4'.out.trans (hb5.mono hb4'.out.size))
          have hB5 := hide (hB4.out.trans (hb5.mono hB4.out.size))
          obtain ⟨A5, n5, c5, rfl, hn5⟩ := ho5.shape
          have ho45 := ho4.below hb5 (Nat.le_refl _)
          have hn4' : n4 = r.length + 1 := hn4.out
          have hn5' : n5 = r.length + 1 := hn5.out
          have hex : ∃ k, n4 = k + 1 := ⟨r.length, hn4'⟩
          obtain ⟨k, rfl⟩ := hex
          obtain rfl : n5 = k + 1 := by omega
          have hlk : Hid (k = r.length) := hide (by omega)
          have hk16 : k ≤ 16 := by omega
          clear hn4 hn5 hn4' hn5'
          have hc4 := ho45.cap.1
          have hc5 := ho5.cap.1
          have hm4 := ho45.cap.2
          have hm5 := ho5.cap.2
          unfold maxLen at hm4 hm5
          have hsl4 := (ho45.slAt encI_len).2.2
          have hsl5 := (ho5.slAt encI_len).2.2
          obtain ⟨b4, off4, rfl, _, hb4h⟩ := hsl4.addr (k := 0) (by simp)
          obtain ⟨b5, off5, rfl, _, hb5h⟩ := hsl5.addr (k := 0) (by simp)
          have ax5 := hsl5.at_ (k := 0) (by simp) 0 _ rfl
          simp only [Nat.zero_mul, Nat.add_zero, List.getElem_cons_zero] at ax5
          have ax := ax5
          have ht4 : Hid (Sl encI 1 w5 0 w5.heap.size (some ⟨b4, off4 + 1, none⟩) r) := hide (hsl4.tail.mono (Nat.zero_le _) (Nat.le_refl _))
          have ht5 : Hid (Sl encI 1 w5 0 w5.heap.size (some ⟨b5, off5 + 1, none⟩) r) := hide (hsl5.tail.mono (Nat.zero_le _) (Nat.le_refl _))
          have hz : Hid (k = 0 → ∀ A, Sl encI 1 w5.drew 0 w5.heap.size A r) := hide (fun h A => by
            have h9 : r = [] := List.eq_nil_of_length_eq_zero (by have := hlk.out; omega)
            rw [h9]; exact Sl.nil_)
          have hee : (leafS 0 xs[0].data.toList == leafS 0 xs[0].data.toList) = true := by simp
          have hkk : (((k + 1 : Nat) : Int) == ((k + 1 : Nat) : Int)) = true := by simp
          have hkk' : (((k : Int) + 1) == ((k : Int) + 1)) = true := by simp
          clear hsl4 hsl5 ho4 ho45 ho5 e0 e1 hr16
          have hC4 := hide hc4
          have hC5 := hide hc5
          by_cases h41 : c4 = 1
          · by_cases h51 : c5 = 1
            · obtain rfl : k = 0 := by omega
              subst h41
              subst h51
              go_wp2
              refine wp_region_O (Since _) [] [] [60, 61] (Ord.seg [0, 1, 2, 3, 4, 5, 6, 7, 8, 9, 10, 11, 12, 13, 15, 16, 17, 14, 18, 19, 20] Ord.done) (by kernel_rfl) (by kernel_rfl) (by kernel_rfl) (Since.drew _) ?_
              go_wp2_with (first
                | (go_at_call 23; refine (wpInts_same (some ⟨b4, off4, none⟩) (some ⟨b5, off5, none⟩) 0 0 0 0 0 w5.heap.size 0 w5.heap.size r w5.drew hlk.out (by omega) (hz.out (by simp) _) (hz.out (by simp) _) (Nat.le_refl _) (Nat.le_refl _)).mono ?_; rintro e w6 ⟨rfl, hb6⟩; have hb56 : Hid (Below w5.heap.size w5 w6) := hide ((Below.drew (Below.refl _ w5)).trans hb6); have hS6 := since_of hb56.out; have ax := keepc hb56.out ax5)
                | (go_at_call 19; refine (rone'.out w6 (hb5'.out.trans (hb56.out.mono hb5'.out.size))).mono ?_; rintro e w7 ⟨rfl, hb7⟩; have hb57 : Hid (Below w5.heap.size w5 w7) := hide (hb56.out.trans (hb7.mono hb56.out.size)); have hS7 := since_of hb57.out; have ax := keepc hb57.out ax5)
                | ((with_reducible refine wpO_seg ?_); simp only [pickL, List.toList_toArray, List.getElem?_cons_succ, List.getElem?_cons_zero]) | ((with_reducible refine wpO_both ?_ ?_) <;> simp only [pickL, List.toList_toArray, List.getElem?_cons_succ, List.getElem?_cons_zero]) | ((with_reducible refine wpO_done ?_); try dsimp only) | (with_reducible refine Since.and_ ?_ ?_; (focus (repeat (first | (with_reducible exact Since.refl _) | assumption | (with_reducible refine Since.drewR ?_) | (with_reducible refine Since.alloc ?_ _) | ((with_reducible refine Since.setNew ?_ ?_ _); rotate_left; (focus (first | omega | (simp; done) | (simp; omega)))) | ((with_reducible apply Since.below); rotate_left; (focus assumption))))); intro hS) | ((with_reducible refine wpT_noL ?_ ?_); (focus (first | exact wanted_no _ _ _ rfl rfl rfl | exact wanted_un _ _ _ rfl rfl rfl)); simp only [setO, List.set_cons_succ, List.set_cons_zero]) | ((with_reducible refine wpT_q0 ?_ ?_ ?_ ?_); (focus rfl); (focus rfl); (focus rfl); intro K hK) | ((with_reducible refine wpT_q1 ?_ ?_ ?_ ?_); (focus exact wanted_yes _ _ _ rfl rfl rfl); (focus rfl); (focus rfl); intro K hK) | ((with_reducible refine wpT_i ?_ ?_); (focus (refine ⟨_, _, _, _, _, _, _, _, rfl, rfl, rfl, rfl, rfl, ?_⟩; omega)); intro K hK) | ((with_reducible refine wpT_iw ?_ ?_ ?_); (focus exact wanted_yes _ _ _ rfl rfl rfl); (focus (refine ⟨_, _, _, _, _, _, _, _, rfl, rfl, rfl, rfl, ?_⟩; omega)); intro K hK) | ((with_reducible apply wpT_len); (focus (first | exact .inl rfl | exact .inr (wanted_yes _ _ _ rfl rfl rfl))); (focus rfl); (focus rfl); (focus rfl); (focus (first | exact Tryd.underlying30 | exact Tryd.underlying22)); (try dsimp only)) | ((with_reducible apply wpT_l); (focus rfl); (focus rfl); (focus rfl); (focus rfl); (focus (first | exact Since.drew _ | assumption)); (focus (simp <;> omega)); (focus go_simp); intro K hK) | ((with_reducible apply wpT_lw); (focus exact wanted_yes _ _ _ rfl rfl rfl); (focus rfl); (focus rfl); (focus rfl); (focus (first | exact Since.drew _ | assumption)); (focus (simp <;> omega)); (focus go_simp); intro K hK) | ((with_reducible refine wpT_xs0 ?_ ?_ ?_); (focus rfl); (focus rfl); intro K hK) | ((with_reducible refine wpT_xs1 ?_ ?_ ?_); (focus exact wanted_yes _ _ _ rfl rfl rfl); (focus rfl); intro K hK) | ((with_reducible refine wpT_nil ?_); try dsimp only)
                | fail)
              all_goals go_ret
              all_goals exact ⟨rfl, hB5.out.trans (hb57.out.mono hB5.out.size)⟩
            · obtain rfl : k = 0 := by omega
              subst h41
              go_wp2
              refine wp_region_O (Since _) [] [] [60, 61] (Ord.seg [0, 1, 2, 3, 4, 5, 6, 7, 8, 9, 10, 11, 12, 13, 15, 16, 17, 14, 18, 19, 20] Ord.done) (by kernel_rfl) (by kernel_rfl) (by kernel_rfl) (Since.drew _) ?_
              go_wp2_with (first
                | (go_at_call 23; refine (wpInts_same (some ⟨b4, off4, none⟩) (some ⟨b5, off5 + 1, none⟩) 0 0 0 (c5 - 1) 0 w5.heap.size 0 w5.heap.size r w5.drew hlk.out (by omega) (hz.out (by simp) _) ht5.out (Nat.le_refl _) (Nat.le_refl _)).mono ?_; rintro e w6 ⟨rfl, hb6⟩; have hb56 : Hid (Below w5.heap.size w5 w6) := hide ((Below.drew (Below.refl _ w5)).trans hb6); have hS6 := since_of hb56.out; have ax := keepc hb56.out ax5)
                | (go_at_call 19; refine (rone'.out w6 (hb5'.out.trans (hb56.out.mono hb5'.out.size))).mono ?_; rintro e w7 ⟨rfl, hb7⟩; have hb57 : Hid (Below w5.heap.size w5 w7) := hide (hb56.out.trans (hb7.mono hb56.out.size)); have hS7 := since_of hb57.out; have ax := keepc hb57.out ax5)
                | ((with_reducible refine wpO_seg ?_); simp only [pickL, List.toList_toArray, List.getElem?_cons_succ, List.getElem?_cons_zero]) | ((with_reducible refine wpO_both ?_ ?_) <;> simp only [pickL, List.toList_toArray, List.getElem?_cons_succ, List.getElem?_cons_zero]) | ((with_reducible refine wpO_done ?_); try dsimp only) | (with_reducible refine Since.and_ ?_ ?_; (focus (repeat (first | (with_reducible exact Since.refl _) | assumption | (with_reducible refine Since.drewR ?_) | (with_reducible refine Since.alloc ?_ _) | ((with_reducible refine Since.setNew ?_ ?_ _); rotate_left; (focus (first | omega | (simp; done) | (simp; omega)))) | ((with_reducible apply Since.below); rotate_left; (focus assumption))))); intro hS) | ((with_reducible refine wpT_noL ?_ ?_); (focus (first | exact wanted_no _ _ _ rfl rfl rfl | exact wanted_un _ _ _ rfl rfl rfl)); simp only [setO, List.set_cons_succ, List.set_cons_zero]) | ((with_reducible refine wpT_q0 ?_ ?_ ?_ ?_); (focus rfl); (focus rfl); (focus rfl); intro K hK) | ((with_reducible refine wpT_q1 ?_ ?_ ?_ ?_); (focus exact wanted_yes _ _ _ rfl rfl rfl); (focus rfl); (focus rfl); intro K hK) | ((with_reducible refine wpT_i ?_ ?_); (focus (refine ⟨_, _, _, _, _, _, _, _, rfl, rfl, rfl, rfl, rfl, ?_⟩; omega)); intro K hK) | ((with_reducible refine wpT_iw ?_ ?_ ?_); (focus exact wanted_yes _ _ _ rfl rfl rfl); (focus (refine ⟨_, _, _, _, _, _, _, _, rfl, rfl, rfl, rfl, ?_⟩; omega)); intro K hK) | ((with_reducible apply wpT_len); (focus (first | exact .inl rfl | exact .inr (wanted_yes _ _ _ rfl rfl rfl))); (focus rfl); (focus rfl); (focus rfl); (focus (first | exact Tryd.underlying30 | exact Tryd.underlying22)); (try dsimp only)) | ((with_reducible apply wpT_l); (focus rfl); (focus rfl); (focus rfl); (focus rfl); (focus (first | exact Since.drew _ | assumption)); (focus (simp <;> omega)); (focus go_simp); intro K hK) | ((with_reducible apply wpT_lw); (focus exact wanted_yes _ _ _ rfl rfl rfl); (focus rfl); (focus rfl); (focus rfl); (focus (first | exact Since.drew _ | assumption)); (focus (simp <;> omega)); (focus go_simp); intro K hK) | ((with_reducible refine wpT_xs0 ?_ ?_ ?_); (focus rfl); (focus rfl); intro K hK) | ((with_reducible refine wpT_xs1 ?_ ?_ ?_); (focus exact wanted_yes _ _ _ rfl rfl rfl); (focus rfl); intro K hK) | ((with_reducible refine wpT_nil ?_); try dsimp only)
                | fail)
              all_goals go_ret
              all_goals exact ⟨rfl, hB5.out.trans (hb57.out.mono hB5.out.size)⟩
          · by_cases h51 : c5 = 1
            · obtain rfl : k = 0 := by omega
              subst h51
              go_wp2
              refine wp_region_O (Since _) [] [] [60, 61] (Ord.seg [0, 1, 2, 3, 4, 5, 6, 7, 8, 9, 10, 11, 12, 13, 15, 16, 17, 14, 18, 19, 20] Ord.done) (by kernel_rfl) (by kernel_rfl) (by kernel_rfl) (Since.drew _) ?_
              go_wp2_with (first
                | (go_at_call 23; refine (wpInts_same (some ⟨b4, off4 + 1, none⟩) (some ⟨b5, off5, none⟩) 0 0 (c4 - 1) 0 0 w5.heap.size 0 w5.heap.size r w5.drew hlk.out (by omega) ht4.out (hz.out (by simp) _) (Nat.le_refl _) (Nat.le_refl _)).mono ?_; rintro e w6 ⟨rfl, hb6⟩; have hb56 : Hid (Below w5.heap.size w5 w6) := hide ((Below.drew (Below.refl _ w5)).trans hb6); have hS6 := since_of hb56.out; have ax := keepc hb56.out ax5)
                | (go_at_call 19; refine (rone'.out w6 (hb5'.out.trans (hb56.out.mono hb5'.out.size))).mono ?_; rintro e w7 ⟨rfl, hb7⟩; have hb57 : Hid (Below w5.heap.size w5 w7) := hide (hb56.out.trans (hb7.mono hb56.out.size)); have hS7 := since_of hb57.out; have ax := keepc hb57.out ax5)
                | ((with_reducible refine wpO_seg ?_); simp only [pickL, List.toList_toArray, List.getElem?_cons_succ, List.getElem?_cons_zero]) | ((with_reducible refine wpO_both ?_ ?_) <;> simp only [pickL, List.toList_toArray, List.getElem?_cons_succ, List.getElem?_cons_zero]) | ((with_reducible refine wpO_done ?_); try dsimp only) | (with_reducible refine Since.and_ ?_ ?_; (focus (repeat (first | (with_reducible exact Since.refl _) | assumption | (with_reducible refine Since.drewR ?_) | (with_reducible refine Since.alloc ?_ _) | ((with_reducible refine Since.setNew ?_ ?_ _); rotate_left; (focus (first | omega | (simp; done) | (simp; omega)))) | ((with_reducible apply Since.below); rotate_left; (focus assumption))))); intro hS) | ((with_reducible refine wpT_noL ?_ ?_); (focus (first | exact wanted_no _ _ _ rfl rfl rfl | exact wanted_un _ _ _ rfl rfl rfl)); simp only [setO, List.set_cons_succ, List.set_cons_zero]) | ((with_reducible refine wpT_q0 ?_ ?_ ?_ ?_); (focus rfl); (focus rfl); (focus rfl); intro K hK) | ((with_reducible refine wpT_q1 ?_ ?_ ?_ ?_); (focus exact wanted_yes _ _ _ rfl rfl rfl); (focus rfl); (focus rfl); intro K hK) | ((with_reducible refine wpT_i ?_ ?_); (focus (refine ⟨_, _, _, _, _, _, _, _, rfl, rfl, rfl, rfl, rfl, ?_⟩; omega)); intro K hK) | ((with_reducible refine wpT_iw ?_ ?_ ?_); (focus exact wanted_yes _ _ _ rfl rfl rfl); (focus (refine ⟨_, _, _, _, _, _, _, _, rfl, rfl, rfl, rfl, ?_⟩; omega)); intro K hK) | ((with_reducible apply wpT_len); (focus (first | exact .inl rfl | exact .inr (wanted_yes _ _ _ rfl rfl rfl))); (focus rfl); (focus rfl); (focus rfl); (focus (first | exact Tryd.underlying30 | exact Tryd.underlying22)); (try dsimp only)) | ((with_reducible apply wpT_l); (focus rfl); (focus rfl); (focus rfl); (focus rfl); (focus (first | exact Since.drew _ | assumption)); (focus (simp <;> omega)); (focus go_simp); intro K hK) | ((with_reducible apply wpT_lw); (focus exact wanted_yes _ _ _ rfl rfl rfl); (focus rfl); (focus rfl); (focus rfl); (focus (first | exact Since.drew _ | assumption)); (focus (simp <;> omega)); (focus go_simp); intro K hK) | ((with_reducible refine wpT_xs0 ?_ ?_ ?_); (focus rfl); (focus rfl); intro K hK) | ((with_reducible refine wpT_xs1 ?_ ?_ ?_); (focus exact wanted_yes _ _ _ rfl rfl rfl); (focus rfl); intro K hK) | ((with_reducible refine wpT_nil ?_); try dsimp only)
                | fail)
              all_goals go_ret
              all_goals exact ⟨rfl, hB5.out.trans (hb57.out.mono hB5.out.size)⟩
            · go_wp2
              refine wp_region_O (Since _) [] [] [60, 61] (Ord.seg [0, 1, 2, 3, 4, 5, 6, 7, 8, 9, 10, 11, 12, 13, 15, 16, 17, 14, 18, 19, 20] Ord.done) (by kernel_rfl) (by kernel_rfl) (by kernel_rfl) (Since.drew _) ?_
              go_wp2_with (first
                | (go_at_call 23; refine (wpInts_same (some ⟨b4, off4 + 1, none⟩) (some ⟨b5, off5 + 1, none⟩) k k (c4 - 1) (c5 - 1) 0 w5.heap.size 0 w5.heap.size r w5.drew hlk.out (by omega) ht4.out ht5.out (Nat.le_refl _) (Nat.le_refl _)).mono ?_; rintro e w6 ⟨rfl, hb6⟩; have hb56 : Hid (Below w5.heap.size w5 w6) := hide ((Below.drew (Below.refl _ w5)).trans hb6); have hS6 := since_of hb56.out; have ax := keepc hb56.out ax5)
                | (go_at_call 19; refine (rone'.out w6 (hb5'.out.trans (hb56.out.mono hb5'.out.size))).mono ?_; rintro e w7 ⟨rfl, hb7⟩; have hb57 : Hid (Below w5.heap.size w5 w7) := hide (hb56.out.trans (hb7.mono hb56.out.size)); have hS7 := since_of hb57.out; have ax := keepc hb57.out ax5)
                | ((with_reducible refine wpO_seg ?_); simp only [pickL, List.toList_toArray, List.getElem?_cons_succ, List.getElem?_cons_zero]) | ((with_reducible refine wpO_both ?_ ?_) <;> simp only [pickL, List.toList_toArray, List.getElem?_cons_succ, List.getElem?_cons_zero]) | ((with_reducible refine wpO_done ?_); try dsimp only) | (with_reducible refine Since.and_ ?_ ?_; (focus (repeat (first | (with_reducible exact Since.refl _) | assumption | (with_reducible refine Since.drewR ?_) | (with_reducible refine Since.alloc ?_ _) | ((with_reducible refine Since.setNew ?_ ?_ _); rotate_left; (focus (first | omega | (simp; done) | (simp; omega)))) | ((with_reducible apply Since.below); rotate_left; (focus assumption))))); intro hS) | ((with_reducible refine wpT_noL ?_ ?_); (focus (first | exact wanted_no _ _ _ rfl rfl rfl | exact wanted_un _ _ _ rfl rfl rfl)); simp only [setO, List.set_cons_succ, List.set_cons_zero]) | ((with_reducible refine wpT_q0 ?_ ?_ ?_ ?_); (focus rfl); (focus rfl); (focus rfl); intro K hK) | ((with_reducible refine wpT_q1 ?_ ?_ ?_ ?_); (focus exact wanted_yes _ _ _ rfl rfl rfl); (focus rfl); (focus rfl); intro K hK) | ((with_reducible refine wpT_i ?_ ?_); (focus (refine ⟨_, _, _, _, _, _, _, _, rfl, rfl, rfl, rfl, rfl, ?_⟩; omega)); intro K hK) | ((with_reducible refine wpT_iw ?_ ?_ ?_); (focus exact wanted_yes _ _ _ rfl rfl rfl); (focus (refine ⟨_, _, _, _, _, _, _, _, rfl, rfl, rfl, rfl, ?_⟩; omega)); intro K hK) | ((with_reducible apply wpT_len); (focus (first | exact .inl rfl | exact .inr (wanted_yes _ _ _ rfl rfl rfl))); (focus rfl); (focus rfl); (focus rfl); (focus (first | exact Tryd.underlying30 | exact Tryd.underlying22)); (try dsimp only)) | ((with_reducible apply wpT_l); (focus rfl); (focus rfl); (focus rfl); (focus rfl); (focus (first | exact Since.drew _ | assumption)); (focus (simp <;> omega)); (focus go_simp); intro K hK) | ((with_reducible apply wpT_lw); (focus exact wanted_yes _ _ _ rfl rfl rfl); (focus rfl); (focus rfl); (focus rfl); (focus (first | exact Since.drew _ | assumption)); (focus (simp <;> omega)); (focus go_simp); intro K hK) | ((with_reducible refine wpT_xs0 ?_ ?_ ?_); (focus rfl); (focus rfl); intro K hK) | ((with_reducible refine wpT_xs1 ?_ ?_ ?_); (focus exact wanted_yes _ _ _ rfl rfl rfl); (focus rfl); intro K hK) | ((with_reducible refine wpT_nil ?_); try dsimp only)
                | fail)
              all_goals go_ret
              all_goals exact ⟨rfl, hB5.out.trans (hb57.out.mono hB5.out.size)⟩
        · have g2 : decide (1 < (n1 : Int)) = false := by simp only [decide_eq_false_iff_not]; omega
          have hx1 : xs = [xs[0]] := by
            have h9 : xs.length = 1 := by have := hn1.out; omega
            cases xs with
            | nil => simp at h9
            | cons y ys => simp at h9; subst h9; rfl
          have hroot : rootR xs = leafS 0 xs[0].data.toList := by
            have h9 := root_one h012
            rw [← hx1] at h9
            exact h9
          have hroot' := hide hroot
          clear hroot hx1
          by_cases hemp : xs[0].size = 0
          · have he : xs[0] = ⟨#[]⟩ := ba_ext (Array.eq_empty_of_size_eq_zero hemp)
            rw [he] at a0
            go_wp2
            go_ret
            exact ⟨rfl, hB3.out⟩
          · have hne : xs[0].toList.isEmpty = false := isEmpty_no hemp
            generalize xs[0] = s at *
            obtain ⟨cap, W4, hcv, hbW, hgW, hcW, hfW⟩ := bytes_made w3 s h012
            have hsz : 0 < s.data.size := Nat.pos_of_ne_zero hemp
            have hj : m % s.size < s.data.size := Nat.mod_lt _ hsz
            have ax : W4.cell? ⟨w3.heap.size, m % s.size, none⟩ = some (.int .u8 (s.data[m % s.size].toNat : Int)) := hcW _ hj
            have f0 : W4.frozen? ⟨w3.heap.size, m % s.size, none⟩ = false := hfW _ hj
            have hsz' : 0 < s.size := hsz
            have hidx : 0 ≤ (m : Int) % (s.size : Int) ∧ (m : Int) % (s.size : Int) < (s.size : Int) := ⟨Int.emod_nonneg _ (by omega), Int.emod_lt_of_pos _ (by omega)⟩
            have hz0 : ((s.size : Int) == 0) = false := by simp only [beq_eq_false_iff_ne, ne_eq]; omega
            have hz1 : ((s.size : Int) != 0) = true := by simp only [bne_iff_ne, ne_eq]; omega
            have hrem : Int.tmod (m : Int) (s.size : Int) = ((m % s.size : Nat) : Int) := rfl
            have hrem8 : Int.tmod (m : Int) 8 = ((m % 8 : Nat) : Int) := rfl
            obtain ⟨y, hy, hxy⟩ := turned_byte s.data[m % s.size] m
            have hcv2 := made_back W4 w3.heap.size cap m s y (.int .u8 (bits .xor .u8 (s.data[m % s.size].toNat : Int) (2 ^ (m % 8) % 256))) (by rw [hxy]) (m % s.size) hj hgW hcW
            have hltn := leaf_turned s (m % s.size) hj y hy
            have hxy' := hide hxy
            clear hxy
            have hs12' : (⟨(s.data.toList.set (m % s.size) y).toArray⟩ : ByteArray).size ≤ 12 := by
              have : (⟨(s.data.toList.set (m % s.size) y).toArray⟩ : ByteArray).size = s.size := by show (s.data.toList.set (m % s.size) y).toArray.size = _; simp
              omega
            have hltn2 : leafS 0 (⟨(s.data.toList.set (m % s.size) y).toArray⟩ : ByteArray).data.toList ≠ rootR xs := by rw [hroot'.out]; exact hltn
            generalize (⟨(s.data.toList.set (m % s.size) y).toArray⟩ : ByteArray) = s' at *
            clear hltn
            have hne2 : (leafS 0 s'.data.toList != rootR xs) = true := by simpa using hltn2
            have hone := hide (fun (W : World) (g : Nat) (hc : W.cell? ⟨g, 0, none⟩ = some (.string s')) (hg : g < W.heap.size) (hB : Below w3.heap.size w3 W) => by
              have h9 := PieceRoot_c (some ⟨g, 0, none⟩) 1 1 g W.heap.size [s'] W rfl (by simp [sumS]; omega) (Nat.le_refl _) (fun _ => ⟨g, 0, rfl, Nat.le_refl _, hg, fun i x hx j u hu => by
                have hi : i < [s'].length := (List.getElem?_eq_some_iff.1 hx).1
                obtain rfl : i = 0 := by simp at hi; omega
                have hj0 : j < (encS x).length := (List.getElem?_eq_some_iff.1 hu).1
                obtain rfl : j = 0 := by simp [encS] at hj0; omega
                have hx' : s' = x := by simpa using hx
                subst hx'
                have hu' : u = .string s' := by simp [encS] at hu; exact hu.symm
                rw [hu']; exact hc⟩) (Nat.le_refl _) ((ht.below hB3.out).below hB)
              rw [root_one hs12'] at h9
              exact h9)
            have hB4 := hide hbW
            go_wp2
            refine wp_region_O (fun _ => True) [] [84, 85, 89, 91] [74, 76, 77, 80, 82, 83, 87, 88] (Ord.seg [0, 1, 2, 3, 4, 5, 6, 7, 8, 9, 10, 11, 14, 15, 16] (Ord.both 12 17 (Ord.seg [] (Ord.both 13 17 (Ord.seg [17, 18, 19, 20] Ord.done) (Ord.seg [13, 18, 19, 20] Ord.done))) (Ord.seg [12, 13, 18, 19, 20] Ord.done))) (by kernel_rfl) (by kernel_rfl) (by kernel_rfl) trivial ?_
            go_wp2_with (first | ((with_reducible refine wpT_b ?_ ?_); (focus (exact ⟨_, _, _, _, _, _, _, _, _, rfl, rfl, rfl, rfl, rfl, hz1⟩)); intro K hK) | ((with_reducible apply wpT_len); (focus (first | exact .inl rfl | exact .inr (wanted_yes _ _ _ rfl rfl rfl))); (focus rfl); (focus rfl); (focus rfl); (focus exact Tryd.underlying26); (try dsimp only)) | ((with_reducible refine wpO_seg ?_); simp only [pickL, List.toList_toArray, List.getElem?_cons_succ, List.getElem?_cons_zero]) | ((with_reducible refine wpO_both ?_ ?_) <;> simp only [pickL, List.toList_toArray, List.getElem?_cons_succ, List.getElem?_cons_zero]) | ((with_reducible refine wpO_done ?_); try dsimp only) | ((with_reducible refine wpT_q0 ?_ ?_ ?_ ?_); (focus rfl); (focus rfl); (focus rfl); intro K hK) | ((with_reducible refine wpT_b ?_ ?_); (focus (exact ⟨_, _, _, _, _, _, _, _, _, rfl, rfl, rfl, rfl, rfl, rfl⟩)); intro K hK) | ((with_reducible refine wpT_x0 ?_ ?_ ?_); (focus rfl); (focus rfl); intro K hK) | ((with_reducible refine wpT_noL ?_ ?_); (focus (first | exact wanted_no _ _ _ rfl rfl rfl | exact wanted_un _ _ _ rfl rfl rfl)); simp only [setO, List.set_cons_succ, List.set_cons_zero]) | ((with_reducible refine wpT_q1 ?_ ?_ ?_ ?_); (focus exact wanted_yes _ _ _ rfl rfl rfl); (focus rfl); (focus rfl); intro K hK) | ((with_reducible refine wpT_x1 ?_ ?_ ?_); (focus exact wanted_yes _ _ _ rfl rfl rfl); (focus rfl); intro K hK) | ((with_reducible refine wpT_nil ?_); try dsimp only) | fail)
            all_goals
              refine (hone.out _ W4.heap.size (cell_new ..) (by simp) (Below.drew ((hB4.out.setCell (by simp) _).alloc (by simp; omega) _))).mono ?_
              rintro e w5 ⟨rfl, hb5⟩
              go_wp2
              go_ret
              refine ⟨rfl, ?_⟩
              have h7 := Below.drew ((hB4.out.setCell (p := ⟨w3.heap.size, m % s.size, none⟩) (by simp) (.int .u8 (bits .xor .u8 (s.data[m % s.size].toNat : Int) (2 ^ (m % 8) % 256)))).alloc (by simp; omega) (.cells #[.string s'] 9))
              exact hB3.out.trans ((h7.trans (hb5.mono h7.size)).mono hB3.out.size)
end Go.Proofs.YtjhgcppjpolamaaDoor
