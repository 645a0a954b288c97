/-
  'eqPlayer'; a player as an argument.
-/
import Derived.Test.YtchofialljhojaaGE
namespace Go.Proofs.Ytchofialljhojaa
open Go.RowKit Rg
set_option linter.unusedVariables false
set_option linter.unusedSimpArgs false

theorem heap2 (w : World) (a b : Obj) : ((w.alloc a).alloc b).heap[w.heap.size]? = some a ∧ ((w.alloc a).alloc b).heap[w.heap.size + 1]? = some b ∧ ((w.alloc a).alloc b).heap.size = w.heap.size + 1 + 1 := by
  have s1 : (w.alloc a).heap.size = w.heap.size + 1 := by simp
  have k1 := heap_alloc_new w a
  have k2 := heap_alloc_new (w.alloc a) b
  have b2 := (Below.refl (w.alloc a).heap.size (w.alloc a)).alloc (Nat.le_refl _) b
  rw [s1] at k2 b2
  exact ⟨(b2.block _ (by omega)).trans k1, k2, by simp⟩
set_option maxHeartbeats 1000000 in
theorem eqPlayer_c (r s : ReqV) (A B : Option Addr) (n m c d lo hi lo' hi' : Nat) (xs ys : List ReplyT) (w : World) (hn : n = xs.length) (hm : m = ys.length) (hb : n ≤ 1048576) (hb' : m ≤ 1048576) (hs : Sl encReply 4 w lo hi A xs) (hs' : Sl encReply 4 w lo' hi' B ys) (hhi : hi ≤ w.heap.size) (hhi' : hi' ≤ w.heap.size) :
    Calls Try.prog 17 #[.agg #[.int .i64 r.1, .int .i64 r.2.1, .int .i64 r.2.2.1, .int .i64 r.2.2.2.1, .int .i64 r.2.2.2.2, .slice A n c], .agg #[.int .i64 s.1, .int .i64 s.2.1, .int .i64 s.2.2.1, .int .i64 s.2.2.2.1, .int .i64 s.2.2.2.2, .slice B m d]] w fun e w' => e = .returned (.bool (decide (r = s) && decide (xs = ys))) ∧ Below w.heap.size w w' := by
  have hn' := hide hn
  have hm' := hide hm
  clear hn hm
  have hb0 : Below w.heap.size w ((w.alloc (.cells #[.int .i64 r.1, .int .i64 r.2.1, .int .i64 r.2.2.1, .int .i64 r.2.2.2.1, .int .i64 r.2.2.2.2, .slice A n c] 32)).alloc (.cells #[.int .i64 s.1, .int .i64 s.2.1, .int .i64 s.2.2.1, .int .i64 s.2.2.2.1, .int .i64 s.2.2.2.2, .slice B m d] 32)) := ((Below.refl _ _).alloc (Nat.le_refl _) _).alloc (by simp) _
  obtain ⟨t1, t2, t4⟩ := heap2 w (.cells #[.int .i64 r.1, .int .i64 r.2.1, .int .i64 r.2.2.1, .int .i64 r.2.2.2.1, .int .i64 r.2.2.2.2, .slice A n c] 32) (.cells #[.int .i64 s.1, .int .i64 s.2.1, .int .i64 s.2.2.1, .int .i64 s.2.2.2.1, .int .i64 s.2.2.2.2, .slice B m d] 32)
  have x5 : ((w.alloc (.cells #[.int .i64 r.1, .int .i64 r.2.1, .int .i64 r.2.2.1, .int .i64 r.2.2.2.1, .int .i64 r.2.2.2.2, .slice A n c] 32)).alloc (.cells #[.int .i64 s.1, .int .i64 s.2.1, .int .i64 s.2.2.1, .int .i64 s.2.2.2.1, .int .i64 s.2.2.2.2, .slice B m d] 32)).cell? ⟨w.heap.size, 5, none⟩ = some (.slice A n c) := by simp only [World.cell?, t1]; rfl
  have y5 : ((w.alloc (.cells #[.int .i64 r.1, .int .i64 r.2.1, .int .i64 r.2.2.1, .int .i64 r.2.2.2.1, .int .i64 r.2.2.2.2, .slice A n c] 32)).alloc (.cells #[.int .i64 s.1, .int .i64 s.2.1, .int .i64 s.2.2.1, .int .i64 s.2.2.2.1, .int .i64 s.2.2.2.2, .slice B m d] 32)).cell? ⟨w.heap.size + 1, 5, none⟩ = some (.slice B m d) := by simp only [World.cell?, t2]; rfl
  clear t1 t2 t4
  go_enter Try.func17, Try.ntmps17
  go_wp2_with fail
  generalize (w.alloc (.cells #[.int .i64 r.1, .int .i64 r.2.1, .int .i64 r.2.2.1, .int .i64 r.2.2.2.1, .int .i64 r.2.2.2.2, .slice A n c] 32)).alloc (.cells #[.int .i64 s.1, .int .i64 s.2.1, .int .i64 s.2.2.1, .int .i64 s.2.2.2.1, .int .i64 s.2.2.2.2, .slice B m d] 32) = w1 at *
  refine (eqReq_c r s w1).mono ?_
  rintro e w2 ⟨rfl, hb2⟩
  have hB2 := hb0.trans (hb2.mono hb0.size)
  have x5 := keepc hb2 x5
  have y5 := keepc hb2 y5
  cases e1 : decide (r = s)
  · have e1' := hide e1
    go_wp2
    go_ret
    exact ⟨by rw [e1'.out]; rfl, hB2⟩
  · have e1' := hide e1
    go_wp2_with fail
    refine (eqReplyS_c A B n m c d lo hi lo' hi' xs ys w2 hn'.out hm'.out hb hb' (hs.below hB2 hhi) (hs'.below hB2 hhi') (Nat.le_trans hhi hB2.size) (Nat.le_trans hhi' hB2.size)).mono ?_
    rintro e w3 ⟨rfl, hb3⟩
    have hB3 := hB2.trans (hb3.mono hB2.size)
    cases e2 : decide (xs = ys)
    · have e2' := hide e2
      go_wp2
      go_ret
      exact ⟨by rw [e1'.out, e2'.out]; rfl, hB3⟩
    · have e2' := hide e2
      go_wp2
      go_ret
      exact ⟨by rw [e1'.out, e2'.out]; rfl, hB3⟩
theorem eqSameP_c {A B : Option Addr} {n m c d lo lo' : Nat} {r : ReqV} {xs : List ReplyT} {w : World} (h : Own encReply 4 37 w lo (.slice A n c) xs) (h' : Own encReply 4 37 w lo' (.slice B m d) xs) (hb : xs.length ≤ 1048576) :
    Calls Try.prog 17 #[.agg #[.int .i64 r.1, .int .i64 r.2.1, .int .i64 r.2.2.1, .int .i64 r.2.2.2.1, .int .i64 r.2.2.2.2, .slice A n c], .agg #[.int .i64 r.1, .int .i64 r.2.1, .int .i64 r.2.2.1, .int .i64 r.2.2.2.1, .int .i64 r.2.2.2.2, .slice B m d]] w fun e w' => e = .returned (.bool true) ∧ Below w.heap.size w w' := by
  obtain ⟨h1, _, h2⟩ := h.slAt encReply_len
  obtain ⟨h3, _, h4⟩ := h'.slAt encReply_len
  have := eqPlayer_c r r A B n m c d _ _ _ _ xs xs w h1 h3 (by omega) (by omega) h2 h4 (Nat.le_refl _) (Nat.le_refl _)
  simpa using this

section
open Go.WideShapes Go.ChangeShapes Go.Deep
variable {H : Type} {enc : TypeId × Value → H} {P : Program} {w : World} {base : Nat} {spare : Nat → Bool} {held : Bool}
/-- A struct of integers, of any number. -/
theorem trod_ints {k : Nat} {t ti : TypeId} {fs : Array Field} {fuel : Nat} {cs : List Value} {x : DataW H × List MemPlace} (ht : P.underlying t = some (.struct fs)) (hti : P.underlying ti = some (.int .i64)) (hfs : fs.size = k) (hty : (fs.all fun f => f.type == ti) = true) (hone : oneCellFields P fs = true) (hC : P.cellsOf t = k)
    (h : DataW.trod enc P w base spare held fuel t cs = some x) : cs.length = k ∧ ∀ (i : Nat) (hi : i < cs.length), ∃ n : Int, cs[i] = .int .i64 n := by
  obtain ⟨ys, n, _, _, hlen, _, hf⟩ := DataW.trod_struct ht h
  rw [hC] at hlen
  refine ⟨by omega, fun i hi => ?_⟩
  have hi' : i < fs.size := by omega
  have hfi : fs[i]? = some fs[i] := Array.getElem?_eq_getElem hi'
  obtain ⟨ho, hk⟩ := hone_of hone i fs[i] hfi
  have h1 := hf i fs[i] hfi
  have hty' : fs[i].type = ti := by
    have := Array.all_eq_true_iff_forall_mem.1 hty fs[i] (Array.getElem_mem hi')
    simpa using this
  rw [ho, hk, hty', List.drop_eq_getElem_cons (by omega)] at h1
  cases hy : ys[i]? with
  | none => have : i < ys.length := by omega
            rw [List.getElem?_eq_getElem this] at hy; cases hy
  | some y =>
    rw [hy] at h1
    obtain ⟨k, hk1, _⟩ := DataW.trod_int hti h1
    rw [List.take_succ_cons, List.take_zero] at hk1
    injection hk1 with hk1
    exact ⟨k, hk1⟩
theorem trod_int4 {t ti : TypeId} {fs : Array Field} {fuel : Nat} {cs : List Value} {x : DataW H × List MemPlace} (ht : P.underlying t = some (.struct fs)) (hti : P.underlying ti = some (.int .i64)) (hfs : fs.size = 4) (hty : (fs.all fun f => f.type == ti) = true) (hone : oneCellFields P fs = true) (hC : P.cellsOf t = 4)
    (h : DataW.trod enc P w base spare held fuel t cs = some x) : ∃ a : ReplyT, cs = encReply a ∧ True := by
  obtain ⟨hl, key⟩ := trod_ints ht hti hfs hty hone hC h
  clear h
  match cs, hl, key with
  | [c0, c1, c2, c3], _, key =>
    obtain ⟨a, ha⟩ := key 0 (by simp)
    obtain ⟨b, hb⟩ := key 1 (by simp)
    obtain ⟨c, hc⟩ := key 2 (by simp)
    obtain ⟨d, hd⟩ := key 3 (by simp)
    refine ⟨(a, b, c, d), ?_, trivial⟩
    have ha' : c0 = .int .i64 a := ha
    have hb' : c1 = .int .i64 b := hb
    have hc' : c2 = .int .i64 c := hc
    have hd' : c3 = .int .i64 d := hd
    rw [ha', hb', hc', hd']; rfl
theorem trod_int5 {t ti : TypeId} {fs : Array Field} {fuel : Nat} {cs : List Value} {x : DataW H × List MemPlace} (ht : P.underlying t = some (.struct fs)) (hti : P.underlying ti = some (.int .i64)) (hfs : fs.size = 5) (hty : (fs.all fun f => f.type == ti) = true) (hone : oneCellFields P fs = true) (hC : P.cellsOf t = 5)
    (h : DataW.trod enc P w base spare held fuel t cs = some x) : ∃ a : ReqT, cs = encReq a ∧ True := by
  obtain ⟨hl, key⟩ := trod_ints ht hti hfs hty hone hC h
  clear h
  match cs, hl, key with
  | [c0, c1, c2, c3, c4], _, key =>
    obtain ⟨a, ha⟩ := key 0 (by simp)
    obtain ⟨b, hb⟩ := key 1 (by simp)
    obtain ⟨c, hc⟩ := key 2 (by simp)
    obtain ⟨d, hd⟩ := key 3 (by simp)
    obtain ⟨e, he⟩ := key 4 (by simp)
    refine ⟨(a, b, c, d, e), ?_, trivial⟩
    have ha' : c0 = .int .i64 a := ha
    have hb' : c1 = .int .i64 b := hb
    have hc' : c2 = .int .i64 c := hc
    have hd' : c3 = .int .i64 d := hd
    have he' : c4 = .int .i64 e := he
    rw [ha', hb', hc', hd', he']; rfl
end
end Go.Proofs.Ytchofialljhojaa
