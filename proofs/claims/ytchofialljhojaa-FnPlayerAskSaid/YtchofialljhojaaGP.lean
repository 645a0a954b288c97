/-
  'wpPlayer' of two alike; what 'FnPlayerHear' draws.
-/
import Derived.Test.YtchofialljhojaaGM
namespace Go.Proofs.Ytchofialljhojaa
open Go.RowKit Rg
set_option linter.unusedVariables false
set_option linter.unusedSimpArgs false

set_option maxHeartbeats 1000000 in
theorem wpPlayer_c (r : ReqV) (A B : Option Addr) (n m c d lo hi lo' hi' : Nat) (xs : List ReplyT) (w : World) (hn : n = xs.length) (hm : m = xs.length) (hb : n ≤ 1048576) (hs : Sl encReply 4 w lo hi A xs) (hs' : Sl encReply 4 w lo' hi' B xs) (hhi : hi ≤ w.heap.size) (hhi' : hi' ≤ w.heap.size) :
    Calls Try.prog 25 #[.agg #[.int .i64 r.1, .int .i64 r.2.1, .int .i64 r.2.2.1, .int .i64 r.2.2.2.1, .int .i64 r.2.2.2.2, .slice A n c], .agg #[.int .i64 r.1, .int .i64 r.2.1, .int .i64 r.2.2.1, .int .i64 r.2.2.2.1, .int .i64 r.2.2.2.2, .slice B m d]] w fun e w' => e = .returned (.bool true) ∧ Below w.heap.size w w' := by
  obtain rfl : n = m := by omega
  have hn' := hide hn
  clear hn hm
  have hb0 : Below w.heap.size w ((w.alloc (.cells #[.int .i64 r.1, .int .i64 r.2.1, .int .i64 r.2.2.1, .int .i64 r.2.2.2.1, .int .i64 r.2.2.2.2, .slice A n c] 32)).alloc (.cells #[.int .i64 r.1, .int .i64 r.2.1, .int .i64 r.2.2.1, .int .i64 r.2.2.2.1, .int .i64 r.2.2.2.2, .slice B n d] 32)) := ((Below.refl _ _).alloc (Nat.le_refl _) _).alloc (by simp) _
  obtain ⟨t1, t2, t4⟩ := heap2 w (.cells #[.int .i64 r.1, .int .i64 r.2.1, .int .i64 r.2.2.1, .int .i64 r.2.2.2.1, .int .i64 r.2.2.2.2, .slice A n c] 32) (.cells #[.int .i64 r.1, .int .i64 r.2.1, .int .i64 r.2.2.1, .int .i64 r.2.2.2.1, .int .i64 r.2.2.2.2, .slice B n d] 32)
  have x0 : ((w.alloc (.cells #[.int .i64 r.1, .int .i64 r.2.1, .int .i64 r.2.2.1, .int .i64 r.2.2.2.1, .int .i64 r.2.2.2.2, .slice A n c] 32)).alloc (.cells #[.int .i64 r.1, .int .i64 r.2.1, .int .i64 r.2.2.1, .int .i64 r.2.2.2.1, .int .i64 r.2.2.2.2, .slice B n d] 32)).cell? ⟨w.heap.size, 0, none⟩ = some (.int .i64 r.1) := by simp only [World.cell?, t1]; rfl
  have x1 : ((w.alloc (.cells #[.int .i64 r.1, .int .i64 r.2.1, .int .i64 r.2.2.1, .int .i64 r.2.2.2.1, .int .i64 r.2.2.2.2, .slice A n c] 32)).alloc (.cells #[.int .i64 r.1, .int .i64 r.2.1, .int .i64 r.2.2.1, .int .i64 r.2.2.2.1, .int .i64 r.2.2.2.2, .slice B n d] 32)).cell? ⟨w.heap.size, 1, none⟩ = some (.int .i64 r.2.1) := by simp only [World.cell?, t1]; rfl
  have x2 : ((w.alloc (.cells #[.int .i64 r.1, .int .i64 r.2.1, .int .i64 r.2.2.1, .int .i64 r.2.2.2.1, .int .i64 r.2.2.2.2, .slice A n c] 32)).alloc (.cells #[.int .i64 r.1, .int .i64 r.2.1, .int .i64 r.2.2.1, .int .i64 r.2.2.2.1, .int .i64 r.2.2.2.2, .slice B n d] 32)).cell? ⟨w.heap.size, 2, none⟩ = some (.int .i64 r.2.2.1) := by simp only [World.cell?, t1]; rfl
  have x3 : ((w.alloc (.cells #[.int .i64 r.1, .int .i64 r.2.1, .int .i64 r.2.2.1, .int .i64 r.2.2.2.1, .int .i64 r.2.2.2.2, .slice A n c] 32)).alloc (.cells #[.int .i64 r.1, .int .i64 r.2.1, .int .i64 r.2.2.1, .int .i64 r.2.2.2.1, .int .i64 r.2.2.2.2, .slice B n d] 32)).cell? ⟨w.heap.size, 3, none⟩ = some (.int .i64 r.2.2.2.1) := by simp only [World.cell?, t1]; rfl
  have x4 : ((w.alloc (.cells #[.int .i64 r.1, .int .i64 r.2.1, .int .i64 r.2.2.1, .int .i64 r.2.2.2.1, .int .i64 r.2.2.2.2, .slice A n c] 32)).alloc (.cells #[.int .i64 r.1, .int .i64 r.2.1, .int .i64 r.2.2.1, .int .i64 r.2.2.2.1, .int .i64 r.2.2.2.2, .slice B n d] 32)).cell? ⟨w.heap.size, 4, none⟩ = some (.int .i64 r.2.2.2.2) := by simp only [World.cell?, t1]; rfl
  have x5 : ((w.alloc (.cells #[.int .i64 r.1, .int .i64 r.2.1, .int .i64 r.2.2.1, .int .i64 r.2.2.2.1, .int .i64 r.2.2.2.2, .slice A n c] 32)).alloc (.cells #[.int .i64 r.1, .int .i64 r.2.1, .int .i64 r.2.2.1, .int .i64 r.2.2.2.1, .int .i64 r.2.2.2.2, .slice B n d] 32)).cell? ⟨w.heap.size, 5, none⟩ = some (.slice A n c) := by simp only [World.cell?, t1]; rfl
  have y0 : ((w.alloc (.cells #[.int .i64 r.1, .int .i64 r.2.1, .int .i64 r.2.2.1, .int .i64 r.2.2.2.1, .int .i64 r.2.2.2.2, .slice A n c] 32)).alloc (.cells #[.int .i64 r.1, .int .i64 r.2.1, .int .i64 r.2.2.1, .int .i64 r.2.2.2.1, .int .i64 r.2.2.2.2, .slice B n d] 32)).cell? ⟨w.heap.size + 1, 0, none⟩ = some (.int .i64 r.1) := by simp only [World.cell?, t2]; rfl
  have y1 : ((w.alloc (.cells #[.int .i64 r.1, .int .i64 r.2.1, .int .i64 r.2.2.1, .int .i64 r.2.2.2.1, .int .i64 r.2.2.2.2, .slice A n c] 32)).alloc (.cells #[.int .i64 r.1, .int .i64 r.2.1, .int .i64 r.2.2.1, .int .i64 r.2.2.2.1, .int .i64 r.2.2.2.2, .slice B n d] 32)).cell? ⟨w.heap.size + 1, 1, none⟩ = some (.int .i64 r.2.1) := by simp only [World.cell?, t2]; rfl
  have y2 : ((w.alloc (.cells #[.int .i64 r.1, .int .i64 r.2.1, .int .i64 r.2.2.1, .int .i64 r.2.2.2.1, .int .i64 r.2.2.2.2, .slice A n c] 32)).alloc (.cells #[.int .i64 r.1, .int .i64 r.2.1, .int .i64 r.2.2.1, .int .i64 r.2.2.2.1, .int .i64 r.2.2.2.2, .slice B n d] 32)).cell? ⟨w.heap.size + 1, 2, none⟩ = some (.int .i64 r.2.2.1) := by simp only [World.cell?, t2]; rfl
  have y3 : ((w.alloc (.cells #[.int .i64 r.1, .int .i64 r.2.1, .int .i64 r.2.2.1, .int .i64 r.2.2.2.1, .int .i64 r.2.2.2.2, .slice A n c] 32)).alloc (.cells #[.int .i64 r.1, .int .i64 r.2.1, .int .i64 r.2.2.1, .int .i64 r.2.2.2.1, .int .i64 r.2.2.2.2, .slice B n d] 32)).cell? ⟨w.heap.size + 1, 3, none⟩ = some (.int .i64 r.2.2.2.1) := by simp only [World.cell?, t2]; rfl
  have y4 : ((w.alloc (.cells #[.int .i64 r.1, .int .i64 r.2.1, .int .i64 r.2.2.1, .int .i64 r.2.2.2.1, .int .i64 r.2.2.2.2, .slice A n c] 32)).alloc (.cells #[.int .i64 r.1, .int .i64 r.2.1, .int .i64 r.2.2.1, .int .i64 r.2.2.2.1, .int .i64 r.2.2.2.2, .slice B n d] 32)).cell? ⟨w.heap.size + 1, 4, none⟩ = some (.int .i64 r.2.2.2.2) := by simp only [World.cell?, t2]; rfl
  have y5 : ((w.alloc (.cells #[.int .i64 r.1, .int .i64 r.2.1, .int .i64 r.2.2.1, .int .i64 r.2.2.2.1, .int .i64 r.2.2.2.2, .slice A n c] 32)).alloc (.cells #[.int .i64 r.1, .int .i64 r.2.1, .int .i64 r.2.2.1, .int .i64 r.2.2.2.1, .int .i64 r.2.2.2.2, .slice B n d] 32)).cell? ⟨w.heap.size + 1, 5, none⟩ = some (.slice B n d) := by simp only [World.cell?, t2]; rfl
  clear t1 t2 t4
  go_enter Try.func25, Try.ntmps25
  go_wp2_with fail
  generalize (w.alloc (.cells #[.int .i64 r.1, .int .i64 r.2.1, .int .i64 r.2.2.1, .int .i64 r.2.2.2.1, .int .i64 r.2.2.2.2, .slice A n c] 32)).alloc (.cells #[.int .i64 r.1, .int .i64 r.2.1, .int .i64 r.2.2.1, .int .i64 r.2.2.2.1, .int .i64 r.2.2.2.2, .slice B n d] 32) = w1 at *
  go_loopw [5] (fun i wr => ∃ k : Nat, k ≤ n ∧ i = .int .i64 k ∧ Below w1.heap.size w1 wr) (fun i _ => n - (intOf i).toNat)
  case atStart => exact ⟨0, Nat.zero_le _, rfl, Below.refl _ _⟩
  case round =>
    obtain ⟨k, hk, rfl, hbr⟩ := hrel
    have x0 := keepc hbr x0
    have x1 := keepc hbr x1
    have x2 := keepc hbr x2
    have x3 := keepc hbr x3
    have x4 := keepc hbr x4
    have x5 := keepc hbr x5
    have y0 := keepc hbr y0
    have y1 := keepc hbr y1
    have y2 := keepc hbr y2
    have y3 := keepc hbr y3
    have y4 := keepc hbr y4
    have y5 := keepc hbr y5
    have hB := hb0.trans (hbr.mono hb0.size)
    by_cases hlt : k < n
    · have hlx : k < xs.length := by have := hn'.out; omega
      obtain ⟨b, off, rfl, hlo, hbh⟩ := hs.addr hlx
      obtain ⟨b', off', rfl, hlo', hbh'⟩ := hs'.addr hlx
      obtain ⟨a1, a2, a3, a4⟩ := (hs.below hB hhi).getReply hlx
      obtain ⟨b1, b2, b3, b4⟩ := (hs'.below hB hhi').getReply hlx
      go_wp2
      refine wp_region_T (fun _ => True) [] [] [] [0, 1, 2, 3, 4, 5, 6, 7, 8, 9, 10] (by kernel_rfl) (by kernel_rfl) (by kernel_rfl) trivial ?_; simp only [pickL, List.getElem?_cons_succ, List.getElem?_cons_zero]
      go_wp2_with (first
        | ((with_reducible refine wpT_q0 ?_ ?_ ?_ ?_); (focus rfl); (focus rfl); (focus rfl); intro K hK) | ((with_reducible refine wpT_x0 ?_ ?_ ?_); (focus rfl); (focus rfl); intro K hK) | ((with_reducible refine wpT_noL ?_ ?_); (focus (first | exact wanted_no _ _ _ rfl rfl rfl | exact wanted_un _ _ _ rfl rfl rfl)); simp only [setO, List.set_cons_succ, List.set_cons_zero]) | ((with_reducible refine wpT_q1 ?_ ?_ ?_ ?_); (focus exact wanted_yes _ _ _ rfl rfl rfl); (focus rfl); (focus rfl); intro K hK) | ((with_reducible refine wpT_x1 ?_ ?_ ?_); (focus exact wanted_yes _ _ _ rfl rfl rfl); (focus rfl); intro K hK) | ((with_reducible refine wpT_nil ?_); try dsimp only)
        | fail)
      go_roundw
      case rel => exact ⟨k + 1, by omega, by go_num, hbr.trans (Below.drew (Below.refl _ _))⟩
      case measure => simp [intOf]; omega
    · obtain rfl : k = n := by omega
      go_wp2
      go_ret
      exact ⟨rfl, hB⟩
theorem wpSameP_c {A B : Option Addr} {n m c d lo lo' : Nat} {r : ReqV} {xs : List ReplyT} {w : World} (h : Own encReply 4 37 w lo (.slice A n c) xs) (h' : Own encReply 4 37 w lo' (.slice B m d) xs) (hb : xs.length ≤ 1048576) :
    Calls Try.prog 25 #[.agg #[.int .i64 r.1, .int .i64 r.2.1, .int .i64 r.2.2.1, .int .i64 r.2.2.2.1, .int .i64 r.2.2.2.2, .slice A n c], .agg #[.int .i64 r.1, .int .i64 r.2.1, .int .i64 r.2.2.1, .int .i64 r.2.2.2.1, .int .i64 r.2.2.2.2, .slice B m d]] w fun e w' => e = .returned (.bool true) ∧ Below w.heap.size w w' := by
  obtain ⟨h1, _, h2⟩ := h.slAt encReply_len
  obtain ⟨h3, _, h4⟩ := h'.slAt encReply_len
  exact wpPlayer_c r A B n m c d _ _ _ _ xs w h1 h3 (by omega) h2 h4 (Nat.le_refl _) (Nat.le_refl _)

set_option maxRecDepth 100000 in
set_option maxHeartbeats 2000000 in
theorem DrawPlayerHear_c (A : Option Addr) (n c : Nat) (bs : List Int) (w : World) (hn : n = bs.length) (hc : n ≤ c) (hcm : c ≤ maxLen) (hs : Sl encU 1 w 0 w.heap.size A bs) (hb : ∀ b ∈ bs, 0 ≤ b ∧ b < 256) :
    Calls Try.prog 22 #[.slice A n c] w fun e w' => ∃ (r : ReqV) (A' : Option Addr) (n' c' : Nat) (xs : List ReplyT) (t : ReplyT), e = .returned (.tuple #[.agg #[.int .i64 r.1, .int .i64 r.2.1, .int .i64 r.2.2.1, .int .i64 r.2.2.2.1, .int .i64 r.2.2.2.2, .slice A' n' c'], .agg #[.int .i64 t.1, .int .i64 t.2.1, .int .i64 t.2.2.1, .int .i64 t.2.2.2]]) ∧ n' = xs.length ∧ n' ≤ 10 ∧ Own encReply 4 37 w' w.heap.size (.slice A' n' c') xs ∧ Below w.heap.size w w' := by
  have hn' := hide hn
  have hb' := hide hb
  clear hn hb
  have hs1 : (w.alloc (.cells #[.int .i64 0, .int .i64 0, .int .i64 0, .int .i64 0, .int .i64 0, .slice none 0 0] 32)).heap.size = w.heap.size + 1 := by simp
  have hA1 : Below w.heap.size w (w.alloc (.cells #[.int .i64 0, .int .i64 0, .int .i64 0, .int .i64 0, .int .i64 0, .slice none 0 0] 32)) := (Below.refl _ _).alloc (Nat.le_refl _) _
  have hA2 : Below (w.alloc (.cells #[.int .i64 0, .int .i64 0, .int .i64 0, .int .i64 0, .int .i64 0, .slice none 0 0] 32)).heap.size (w.alloc (.cells #[.int .i64 0, .int .i64 0, .int .i64 0, .int .i64 0, .int .i64 0, .slice none 0 0] 32)) ((w.alloc (.cells #[.int .i64 0, .int .i64 0, .int .i64 0, .int .i64 0, .int .i64 0, .slice none 0 0] 32)).alloc (.cells #[.int .i64 0, .int .i64 0, .int .i64 0, .int .i64 0] 37)) := (Below.refl _ _).alloc (Nat.le_refl _) _
  have hb0 : Below w.heap.size w ((w.alloc (.cells #[.int .i64 0, .int .i64 0, .int .i64 0, .int .i64 0, .int .i64 0, .slice none 0 0] 32)).alloc (.cells #[.int .i64 0, .int .i64 0, .int .i64 0, .int .i64 0] 37)) := hA1.trans (hA2.mono (by omega))
  have hx0 := (Box6.made w 0 0 0 0 0 none 0 0 32).below hA2
  have hq0 := Box4.made (w.alloc (.cells #[.int .i64 0, .int .i64 0, .int .i64 0, .int .i64 0, .int .i64 0, .slice none 0 0] 32)) 0 0 0 0 37
  rw [hs1] at hq0
  have hs0 := hs.below hb0 (Nat.le_refl _)
  clear hA1 hA2 hs1
  go_enter Try.func22, Try.ntmps22
  go_wp2_with fail
  generalize (w.alloc (.cells #[.int .i64 0, .int .i64 0, .int .i64 0, .int .i64 0, .int .i64 0, .slice none 0 0] 32)).alloc (.cells #[.int .i64 0, .int .i64 0, .int .i64 0, .int .i64 0] 37) = w0 at *
  have hl0 : w.heap.size + 1 < w0.heap.size := hq0.lt
  refine (l20Open_c A n c bs w0 hn'.out hc hcm (hs0.mono (Nat.le_refl _) hb0.size) hb'.out).mono ?_
  rintro e w1 ⟨rfl, hr1, hb1⟩
  have hB1 := hb0.trans (hb1.mono hb0.size)
  have hx1 := hx0.below hb1
  have hq1 := hq0.below hb1
  have hl1 : w0.heap.size < w1.heap.size := hr1.lt
  go_wp2_with fail
  refine (l20Player_c _ 0 w1 hr1 (by omega)).mono ?_
  rintro e w2 ⟨r, A2, n2, c2, xs, rfl, hnx, hn10, hrb, ho2, hr2, h2⟩
  have hx2 := hx1.only h2 (by intro h; injection h with h; omega)
  have hq2 := hq1.only h2 (by intro h; injection h with h; omega)
  have hB2 := hB1.trans (h2.toBelow hB1.size (fun k hk => by injection hk with hk; omega))
  have hl2 : w1.heap.size ≤ w2.heap.size := h2.size
  have hnx' := hide hnx
  clear hnx
  have hA3 := (Below.refl w2.heap.size w2).alloc (Nat.le_refl _) (.cells #[.int .i64 r.1, .int .i64 r.2.1, .int .i64 r.2.2.1, .int .i64 r.2.2.2.1, .int .i64 r.2.2.2.2, .slice A2 n2 c2] 32)
  have hy3 := Box6.made w2 r.1 r.2.1 r.2.2.1 r.2.2.2.1 r.2.2.2.2 A2 n2 c2 32
  have hx3 := hx2.below hA3
  have hq3 := hq2.below hA3
  have hr3 := hr2.keep hA3
  have ho3 := ho2.alloc (.cells #[.int .i64 r.1, .int .i64 r.2.1, .int .i64 r.2.2.1, .int .i64 r.2.2.2.1, .int .i64 r.2.2.2.2, .slice A2 n2 c2] 32)
  have hB3 := hB2.trans (hA3.mono hB2.size)
  have hy3' := hy3
  obtain ⟨y0, y1, y2, y3, y4, y5, yf0, yf1, yf2, yf3, yf4, yf5⟩ := hy3'
  go_wp2_with fail
  generalize w2.alloc (.cells #[.int .i64 r.1, .int .i64 r.2.1, .int .i64 r.2.2.1, .int .i64 r.2.2.2.1, .int .i64 r.2.2.2.2, .slice A2 n2 c2] 32) = w3 at *
  have hl3 : w2.heap.size < w3.heap.size := hy3.lt
  have hst : Stays w2.heap.size w3.heap[w2.heap.size]? w3 := ⟨rfl⟩
  have hn30 : r.2.1 ≤ 1000 := by omega
  have hr3D : Rd w3.drew w0.heap.size _ := hr3
  have hx3D : Box6 w3.drew w.heap.size _ _ _ _ _ _ := hx3
  have hq3D : Box4 w3.drew (w.heap.size + 1) _ _ _ _ := hq3
  have ho3D : Own encReply 4 37 w3.drew w1.heap.size (.slice A2 n2 c2) xs := ho3
  have hB3D : Below w.heap.size w w3.drew := hB3.drew
  have hl3D : w2.heap.size < w3.drew.heap.size := hl3
  have hzl : w2.heap.size ≠ w0.heap.size := by omega
  have hz6 : w2.heap.size ≠ w.heap.size := by omega
  have hz4 : w2.heap.size ≠ w.heap.size + 1 := by omega
  clear hs hs0 hx0 hq0 hx1 hq1 hx2 hq2 hx3 hq3 hr3 ho3 hB1 hB2 hB3 hb0 hb1 h2 hA3 hr1 hr2 ho2 hn' hb' hy3
  refine wp_region_T (Stays _ _) [] [] [10] [0, 1, 2, 3, 4, 5, 6, 7] (by kernel_rfl) (by kernel_rfl) (by kernel_rfl) (Stays.drew hst) ?_; simp only [pickL, List.getElem?_cons_succ, List.getElem?_cons_zero]
  go_wp2_with (first
    | ((with_reducible refine Stays.and_ ?_ ?_); (focus (repeat (first | (with_reducible assumption) | ((with_reducible refine Stays.cell ?_ ?_); rotate_left; (focus (first | (with_reducible assumption) | (simp; done) | (simp; omega))))))); intro hS) | ((with_reducible refine wpT_q0 ?_ ?_ ?_ ?_); (focus rfl); (focus rfl); (focus rfl); intro K hK) | ((with_reducible apply wpT_k); (focus rfl); (focus rfl); (focus rfl); (focus rfl); (focus (first | assumption | exact Stays.drew (by assumption))); (focus rfl); (focus go_simp); intro K hK) | ((with_reducible refine wpT_xs0 ?_ ?_ ?_); (focus rfl); (focus rfl); intro K hK) | ((with_reducible refine wpT_noL ?_ ?_); (focus (first | exact wanted_no _ _ _ rfl rfl rfl | exact wanted_un _ _ _ rfl rfl rfl)); simp only [setO, List.set_cons_succ, List.set_cons_zero]) | ((with_reducible refine wpT_q1 ?_ ?_ ?_ ?_); (focus exact wanted_yes _ _ _ rfl rfl rfl); (focus rfl); (focus rfl); intro K hK) | ((with_reducible refine wpT_xs1 ?_ ?_ ?_); (focus exact wanted_yes _ _ _ rfl rfl rfl); (focus rfl); intro K hK) | ((with_reducible refine wpT_nil ?_); try dsimp only)
    | fail)
  refine (l20Reply_c _ _ r.2.1 w3.drew hr3D (by omega) hrb.1 hn30).mono ?_
  rintro e w4 ⟨t, rfl, hr4, h4⟩
  have hst4 : Stays w2.heap.size w3.heap[w2.heap.size]? w4 := ⟨h4.block _ hl3D (fun h => hzl ((Option.some.inj h).symm))⟩
  have hx4 := hx3D.only h4 (fun h => by injection h with h; omega)
  have hq4 := hq3D.only h4 (fun h => by injection h with h; omega)
  have ho4 := ho3D.only h4 (Nat.le_refl _) (fun k hk h => by injection h with h; have := (ho3D.lt k hk).1; omega)
  have hB4 := hB3D.trans (h4.toBelow hB3D.size (fun k hk => by injection hk with hk; omega))
  have hl4 := hx4.lt
  have hlq4 := hq4.lt
  obtain ⟨x0, x1, x2, x3, x4, x5, xf0, xf1, xf2, xf3, xf4, xf5⟩ := hx4
  obtain ⟨q0, q1, q2, q3, qf0, qf1, qf2, qf3⟩ := hq4
  go_wp2_with (first
    | ((with_reducible refine Stays.and_ ?_ ?_); (focus (repeat (first | (with_reducible assumption) | ((with_reducible refine Stays.cell ?_ ?_); rotate_left; (focus (first | (with_reducible assumption) | (simp; done) | (simp; omega))))))); intro hS) | ((with_reducible refine wpT_q0 ?_ ?_ ?_ ?_); (focus rfl); (focus rfl); (focus rfl); intro K hK) | ((with_reducible apply wpT_k); (focus rfl); (focus rfl); (focus rfl); (focus rfl); (focus (first | assumption | exact Stays.drew (by assumption))); (focus rfl); (focus go_simp); intro K hK) | ((with_reducible refine wpT_xs0 ?_ ?_ ?_); (focus rfl); (focus rfl); intro K hK) | ((with_reducible refine wpT_noL ?_ ?_); (focus (first | exact wanted_no _ _ _ rfl rfl rfl | exact wanted_un _ _ _ rfl rfl rfl)); simp only [setO, List.set_cons_succ, List.set_cons_zero]) | ((with_reducible refine wpT_q1 ?_ ?_ ?_ ?_); (focus exact wanted_yes _ _ _ rfl rfl rfl); (focus rfl); (focus rfl); intro K hK) | ((with_reducible refine wpT_xs1 ?_ ?_ ?_); (focus exact wanted_yes _ _ _ rfl rfl rfl); (focus rfl); intro K hK) | ((with_reducible refine wpT_nil ?_); try dsimp only)
    | fail)
  have hk4 : ∀ k, (Value.slice A2 n2 c2).ownBlock = some k → k ≠ w.heap.size + 1 := fun k hk => by have := (ho4.lt k hk).1; omega
  have hl0' : w.heap.size ≤ w.heap.size + 1 := Nat.le_succ _
  refine bodyPost_ret (v := .tuple #[.agg #[.int .i64 r.1, .int .i64 r.2.1, .int .i64 r.2.2.1, .int .i64 r.2.2.2.1, .int .i64 r.2.2.2.2, .slice A2 n2 c2], .agg #[.int .i64 t.1, .int .i64 t.2.1, .int .i64 t.2.2.1, .int .i64 t.2.2.2]]) (by simp [results, Try.results22, go_sem, x0, x1, x2, x3, x4, x5, q0, q1, q2, q3]) rfl ⟨r, A2, n2, c2, xs, t, rfl, hnx'.out, hn10, ?_, ?_⟩
  · exact ((ho4.mono (by omega)).set6 _ _ _ _ _ _ (fun k hk => by have := (ho4.lt k hk).1; omega)).keep (fun k hk => (Below.heap_setCell _ ⟨_, 3, none⟩ _ k (hk4 k hk)).trans ((Below.heap_setCell _ ⟨_, 2, none⟩ _ k (hk4 k hk)).trans ((Below.heap_setCell _ ⟨_, 1, none⟩ _ k (hk4 k hk)).trans (Below.heap_setCell _ ⟨_, 0, none⟩ _ k (hk4 k hk)))))
  · exact ((((set6_below _ _ _ _ _ _ (Nat.le_refl _) hB4).setCell hl0' _).setCell hl0' _).setCell hl0' _).setCell hl0' _
end Go.Proofs.Ytchofialljhojaa
