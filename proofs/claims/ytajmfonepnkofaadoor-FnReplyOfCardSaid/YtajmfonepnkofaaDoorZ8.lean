/-
  What 'IP' rests on, part 8 of 11 (texts of this seat put together: PJ MA RegS IC RegN HS HT).
  Conditions: none.
-/
import Derived.Test.YtajmfonepnkofaaDoorZ7
import Derived.Laws.BytesArg
import Derived.Lib.ItoaLen
import Derived.Lib.LaidTab
import Derived.Shelf.LaysM
import Derived.Shelf.Strconv.Itoa3
import Derived.Shelf.Strings.BuilderK
import Derived.Shelf.Strings.Prefix
import Derived.Test.YtajmfonepnkofaaDoorRows
namespace Go.Proofs.YtajmfonepnkofaaDoor
open Go.Shelf Go.Proofs
def lays169_ren : Go.Shelf.Ren := ⟨fun | 169 => 77 | n => n, fun | 70 => 107 | 9 => 9 | 0 => 0 | 72 => 109 | 37 => 42 | 127 => 123 | 3 => 3 | 5 => 5 | n => n, fun | n => n⟩
theorem lays169 : Go.Proofs.Lays.n169 Tryd.prog lays169_ren := {
  mixed := by kernel_rfl
  f169 := Tryd.func77.trans (congrArg some (by kernel_rfl))
  t0 := Tryd.underlying0
  a0 := Tryd.isAgg0
  z0 := Tryd.sizeOf0
  v0 := Tryd.zeroValue0
  t3 := Tryd.underlying3
  a3 := Tryd.isAgg3
  z3 := Tryd.sizeOf3
  v3 := Tryd.zeroValue3
  t9 := Tryd.underlying9
  a9 := Tryd.isAgg9
  z9 := Tryd.sizeOf9
  v9 := Tryd.zeroValue9
  t37 := Tryd.underlying42
  a37 := Tryd.isAgg42
  z37 := Tryd.sizeOf42
  v37 := Tryd.zeroValue42
  t70 := Tryd.underlying107
  a70 := Tryd.isAgg107
  z70 := Tryd.sizeOf107
  v70 := Tryd.zeroValue107
  t72 := Tryd.underlying109
  a72 := Tryd.isAgg109
  z72 := Tryd.sizeOf109
  v72 := Tryd.zeroValue109
  t127 := Tryd.underlying123
  a127 := Tryd.isAgg123
  z127 := Tryd.sizeOf123
  v127 := Tryd.zeroValue123 }
theorem Builder_Extra_169 : Builder.Extra Tryd.prog lays169_ren := {
  sizeBuilder := by kernel_rfl
  liesBuilder := by kernel_rfl
  t5 := Tryd.underlying5
  a5 := Tryd.isAgg5
  z5 := Tryd.sizeOf5
  v5 := Tryd.zeroValue5
  infoByte := by kernel_rfl
  cellsByte := by kernel_rfl
  sizeByte := by kernel_rfl
  neB5 := by decide }
def laysM171_ren : Go.Shelf.Ren := ⟨fun | 171 => 76 | 243 => 94 | 246 => 100 | 283 => 102 | 284 => 103 | 285 => 104 | 286 => 105 | 129 => 107 | 317 => 106 | 318 => 108 | 319 => 109 | 320 => 110 | 337 => 111 | 338 => 112 | n => n, fun | 3 => 3 | 9 => 9 | 2 => 2 | 4 => 4 | 171 => 129 | 0 => 0 | 53 => 130 | 37 => 42 | 5 => 5 | 173 => 133 | 212 => 136 | 51 => 78 | 20 => 20 | 213 => 137 | 46 => 79 | 232 => 140 | 233 => 141 | n => n, fun | 17 => 0 | 18 => 1 | 19 => 2 | n => n⟩
theorem laysM171 : Go.Proofs.LaysM.n171 Tryd.prog laysM171_ren := {
  mixed := by kernel_rfl
  f129 := Tryd.func107.trans (congrArg some (by kernel_rfl))
  f171 := Tryd.func76.trans (congrArg some (by kernel_rfl))
  f243 := Tryd.func94.trans (congrArg some (by kernel_rfl))
  f246 := Tryd.func100.trans (congrArg some (by kernel_rfl))
  f283 := Tryd.func102.trans (congrArg some (by kernel_rfl))
  f284 := Tryd.func103.trans (congrArg some (by kernel_rfl))
  f285 := Tryd.func104.trans (congrArg some (by kernel_rfl))
  f286 := Tryd.func105.trans (congrArg some (by kernel_rfl))
  f317 := Tryd.func106.trans (congrArg some (by kernel_rfl))
  f318 := Tryd.func108.trans (congrArg some (by kernel_rfl))
  f319 := Tryd.func109.trans (congrArg some (by kernel_rfl))
  f320 := Tryd.func110.trans (congrArg some (by kernel_rfl))
  f337 := Tryd.func111.trans (congrArg some (by kernel_rfl))
  f338 := Tryd.func112.trans (congrArg some (by kernel_rfl))
  t0 := Tryd.underlying0
  a0 := Tryd.isAgg0
  z0 := Tryd.sizeOf0
  v0 := Tryd.zeroValue0
  t2 := Tryd.underlying2
  a2 := Tryd.isAgg2
  z2 := Tryd.sizeOf2
  v2 := Tryd.zeroValue2
  t3 := Tryd.underlying3
  a3 := Tryd.isAgg3
  z3 := Tryd.sizeOf3
  v3 := Tryd.zeroValue3
  t4 := Tryd.underlying4
  a4 := Tryd.isAgg4
  z4 := Tryd.sizeOf4
  v4 := Tryd.zeroValue4
  t5 := Tryd.underlying5
  a5 := Tryd.isAgg5
  z5 := Tryd.sizeOf5
  v5 := Tryd.zeroValue5
  t9 := Tryd.underlying9
  a9 := Tryd.isAgg9
  z9 := Tryd.sizeOf9
  v9 := Tryd.zeroValue9
  t20 := Tryd.underlying20
  a20 := Tryd.isAgg20
  z20 := Tryd.sizeOf20
  v20 := Tryd.zeroValue20
  t37 := Tryd.underlying42
  a37 := Tryd.isAgg42
  z37 := Tryd.sizeOf42
  v37 := Tryd.zeroValue42
  t46 := Tryd.underlying79
  a46 := Tryd.isAgg79
  z46 := Tryd.sizeOf79
  v46 := Tryd.zeroValue79
  t51 := Tryd.underlying78
  a51 := Tryd.isAgg78
  z51 := Tryd.sizeOf78
  v51 := Tryd.zeroValue78
  t53 := Tryd.underlying130
  a53 := Tryd.isAgg130
  z53 := Tryd.sizeOf130
  v53 := Tryd.zeroValue130
  t171 := Tryd.underlying129
  a171 := Tryd.isAgg129
  z171 := Tryd.sizeOf129
  v171 := Tryd.zeroValue129
  t173 := Tryd.underlying133
  a173 := Tryd.isAgg133
  z173 := Tryd.sizeOf133
  v173 := Tryd.zeroValue133
  t212 := Tryd.underlying136
  a212 := Tryd.isAgg136
  z212 := Tryd.sizeOf136
  v212 := Tryd.zeroValue136
  t213 := Tryd.underlying137
  a213 := Tryd.isAgg137
  z213 := Tryd.sizeOf137
  t232 := Tryd.underlying140
  a232 := Tryd.isAgg140
  z232 := Tryd.sizeOf140
  v232 := Tryd.zeroValue140
  t233 := Tryd.underlying141
  a233 := Tryd.isAgg141
  z233 := Tryd.sizeOf141
  v233 := Tryd.zeroValue141
  g17 := by kernel_rfl
  g18 := by kernel_rfl
  g19 := by kernel_rfl
  i0 := by kernel_rfl
  i2 := by kernel_rfl
  i3 := by kernel_rfl
  i4 := by kernel_rfl
  i5 := by kernel_rfl
  i9 := by kernel_rfl
  i20 := by kernel_rfl
  i37 := by kernel_rfl
  i46 := by kernel_rfl
  i51 := by kernel_rfl
  i53 := by kernel_rfl
  i171 := by kernel_rfl
  i173 := by kernel_rfl
  i212 := by kernel_rfl
  i232 := by kernel_rfl
  i233 := by kernel_rfl
  m17 := by kernel_rfl
  m18 := by kernel_rfl
  m19 := by kernel_rfl }
open Go.RowKit Go.Sort Go.Lib in
theorem strconv_Itoa (n : Int) (h0 : -9223372036854775808 ≤ n) (h1 : n ≤ 9223372036854775807) (w : World) (htab : Lib.TabIs Tryd.prog w "internal/strconv.uint64pow10" .u64 Lib.pow10Tab) :
    Calls Tryd.prog 76 #[.int .i64 n] w fun e w' => e = .returned (.string ⟨(Lib.itoa n).toArray⟩) ∧ ∃ k os, w' = grow (w.drewN k) os := Any.strconv_Itoa laysM171 n h0 h1 w htab
def lays171_ren : Go.Shelf.Ren := ⟨fun | 171 => 76 | 243 => 94 | 246 => 100 | 283 => 102 | 284 => 103 | 285 => 104 | 286 => 105 | 129 => 107 | 317 => 106 | 318 => 108 | 319 => 109 | 320 => 110 | 337 => 111 | 338 => 112 | n => n, fun | 3 => 3 | 9 => 9 | 2 => 2 | 4 => 4 | 171 => 129 | 0 => 0 | 53 => 130 | 37 => 42 | 5 => 5 | 173 => 133 | 212 => 136 | 51 => 78 | 20 => 20 | 213 => 137 | 46 => 79 | 232 => 140 | 233 => 141 | n => n, fun | 17 => 0 | 18 => 1 | 19 => 2 | n => n⟩
theorem lays171 : Go.Proofs.Lays.n171 Tryd.prog lays171_ren := {
  mixed := by kernel_rfl
  f129 := Tryd.func107.trans (congrArg some (by kernel_rfl))
  f171 := Tryd.func76.trans (congrArg some (by kernel_rfl))
  f243 := Tryd.func94.trans (congrArg some (by kernel_rfl))
  f246 := Tryd.func100.trans (congrArg some (by kernel_rfl))
  f283 := Tryd.func102.trans (congrArg some (by kernel_rfl))
  f284 := Tryd.func103.trans (congrArg some (by kernel_rfl))
  f285 := Tryd.func104.trans (congrArg some (by kernel_rfl))
  f286 := Tryd.func105.trans (congrArg some (by kernel_rfl))
  f317 := Tryd.func106.trans (congrArg some (by kernel_rfl))
  f318 := Tryd.func108.trans (congrArg some (by kernel_rfl))
  f319 := Tryd.func109.trans (congrArg some (by kernel_rfl))
  f320 := Tryd.func110.trans (congrArg some (by kernel_rfl))
  f337 := Tryd.func111.trans (congrArg some (by kernel_rfl))
  f338 := Tryd.func112.trans (congrArg some (by kernel_rfl))
  t0 := Tryd.underlying0
  a0 := Tryd.isAgg0
  z0 := Tryd.sizeOf0
  v0 := Tryd.zeroValue0
  t2 := Tryd.underlying2
  a2 := Tryd.isAgg2
  z2 := Tryd.sizeOf2
  v2 := Tryd.zeroValue2
  t3 := Tryd.underlying3
  a3 := Tryd.isAgg3
  z3 := Tryd.sizeOf3
  v3 := Tryd.zeroValue3
  t4 := Tryd.underlying4
  a4 := Tryd.isAgg4
  z4 := Tryd.sizeOf4
  v4 := Tryd.zeroValue4
  t5 := Tryd.underlying5
  a5 := Tryd.isAgg5
  z5 := Tryd.sizeOf5
  v5 := Tryd.zeroValue5
  t9 := Tryd.underlying9
  a9 := Tryd.isAgg9
  z9 := Tryd.sizeOf9
  v9 := Tryd.zeroValue9
  t20 := Tryd.underlying20
  a20 := Tryd.isAgg20
  z20 := Tryd.sizeOf20
  v20 := Tryd.zeroValue20
  t37 := Tryd.underlying42
  a37 := Tryd.isAgg42
  z37 := Tryd.sizeOf42
  v37 := Tryd.zeroValue42
  t46 := Tryd.underlying79
  a46 := Tryd.isAgg79
  z46 := Tryd.sizeOf79
  v46 := Tryd.zeroValue79
  t51 := Tryd.underlying78
  a51 := Tryd.isAgg78
  z51 := Tryd.sizeOf78
  v51 := Tryd.zeroValue78
  t53 := Tryd.underlying130
  a53 := Tryd.isAgg130
  z53 := Tryd.sizeOf130
  v53 := Tryd.zeroValue130
  t171 := Tryd.underlying129
  a171 := Tryd.isAgg129
  z171 := Tryd.sizeOf129
  v171 := Tryd.zeroValue129
  t173 := Tryd.underlying133
  a173 := Tryd.isAgg133
  z173 := Tryd.sizeOf133
  v173 := Tryd.zeroValue133
  t212 := Tryd.underlying136
  a212 := Tryd.isAgg136
  z212 := Tryd.sizeOf136
  v212 := Tryd.zeroValue136
  t213 := Tryd.underlying137
  a213 := Tryd.isAgg137
  z213 := Tryd.sizeOf137
  t232 := Tryd.underlying140
  a232 := Tryd.isAgg140
  z232 := Tryd.sizeOf140
  v232 := Tryd.zeroValue140
  t233 := Tryd.underlying141
  a233 := Tryd.isAgg141
  z233 := Tryd.sizeOf141
  v233 := Tryd.zeroValue141
  g17 := by kernel_rfl
  g18 := by kernel_rfl
  g19 := by kernel_rfl }
open Go.RowKit Go.Sort Go.Lib in
theorem strconv_Itoa_small (i : Nat) (hi : i < 100) (w : World) :
    Calls Tryd.prog 76 #[.int .i64 i] w fun e w' => e = .returned (.string ⟨(Lib.decDigits i).toArray⟩) ∧ w' = w := Any.strconv_Itoa_small lays171 i hi w
def lays102_ren : Go.Shelf.Ren := ⟨fun | 102 => 46 | 209 => 78 | 207 => 95 | n => n, fun | 9 => 9 | 4 => 4 | 3 => 3 | n => n, fun | n => n⟩
theorem lays102 : Go.Proofs.Lays.n102 Tryd.prog lays102_ren := {
  mixed := by kernel_rfl
  f102 := Tryd.func46.trans (congrArg some (by kernel_rfl))
  f207 := Tryd.func95.trans (congrArg some (by kernel_rfl))
  f209 := Tryd.func78.trans (congrArg some (by kernel_rfl))
  t3 := Tryd.underlying3
  a3 := Tryd.isAgg3
  z3 := Tryd.sizeOf3
  v3 := Tryd.zeroValue3
  t4 := Tryd.underlying4
  a4 := Tryd.isAgg4
  z4 := Tryd.sizeOf4
  v4 := Tryd.zeroValue4
  t9 := Tryd.underlying9
  a9 := Tryd.isAgg9
  z9 := Tryd.sizeOf9
  v9 := Tryd.zeroValue9 }
open Go.RowKit Go.Lib in
theorem strings_TrimSuffix (s p : ByteArray) (w : World) (hs : s.size ≤ 9223372036854775807) :
    Calls Tryd.prog 46 #[.string s, .string p] w fun e w' => e = .returned (.string ⟨(Lib.trimSuffix s.data.toList p.data.toList).toArray⟩) ∧ w' = w := Any.strings_TrimSuffix lays102 s p w hs
def lays166_ren : Go.Shelf.Ren := ⟨fun | 166 => 75 | 240 => 93 | 276 => 99 | n => n, fun | 0 => 0 | 3 => 3 | 4 => 4 | 9 => 9 | 20 => 20 | 37 => 42 | 70 => 107 | 72 => 109 | 75 => 111 | 164 => 125 | 5 => 5 | 80 => 114 | n => n, fun | n => n⟩
theorem lays166 : Go.Proofs.Lays.n166 Tryd.prog lays166_ren := {
  mixed := by kernel_rfl
  f166 := Tryd.func75.trans (congrArg some (by kernel_rfl))
  f240 := Tryd.func93.trans (congrArg some (by kernel_rfl))
  f276 := Tryd.func99.trans (congrArg some (by kernel_rfl))
  t0 := Tryd.underlying0
  a0 := Tryd.isAgg0
  z0 := Tryd.sizeOf0
  v0 := Tryd.zeroValue0
  t3 := Tryd.underlying3
  a3 := Tryd.isAgg3
  z3 := Tryd.sizeOf3
  v3 := Tryd.zeroValue3
  t4 := Tryd.underlying4
  a4 := Tryd.isAgg4
  z4 := Tryd.sizeOf4
  v4 := Tryd.zeroValue4
  t9 := Tryd.underlying9
  a9 := Tryd.isAgg9
  z9 := Tryd.sizeOf9
  v9 := Tryd.zeroValue9
  t20 := Tryd.underlying20
  a20 := Tryd.isAgg20
  z20 := Tryd.sizeOf20
  v20 := Tryd.zeroValue20
  t37 := Tryd.underlying42
  a37 := Tryd.isAgg42
  z37 := Tryd.sizeOf42
  v37 := Tryd.zeroValue42
  t70 := Tryd.underlying107
  a70 := Tryd.isAgg107
  z70 := Tryd.sizeOf107
  v70 := Tryd.zeroValue107
  t72 := Tryd.underlying109
  a72 := Tryd.isAgg109
  z72 := Tryd.sizeOf109
  v72 := Tryd.zeroValue109
  t75 := Tryd.underlying111
  a75 := Tryd.isAgg111
  z75 := Tryd.sizeOf111
  v75 := Tryd.zeroValue111
  t164 := Tryd.underlying125
  a164 := Tryd.isAgg125
  z164 := Tryd.sizeOf125
  v164 := Tryd.zeroValue125 }
theorem Builder_Extra_166 : Builder.Extra Tryd.prog lays166_ren := {
  sizeBuilder := by kernel_rfl
  liesBuilder := by kernel_rfl
  t5 := Tryd.underlying5
  a5 := Tryd.isAgg5
  z5 := Tryd.sizeOf5
  v5 := Tryd.zeroValue5
  infoByte := by kernel_rfl
  cellsByte := by kernel_rfl
  sizeByte := by kernel_rfl
  neB5 := by decide }
open Go.RowKit in
theorem Builder_WriteString (B b : Nat) (bs : List Value) (s : ByteArray) (w : World) (h : Lib.IsBuilderF 109 5 B b bs w) (hlen : bs.length + s.size ≤ 140737488355328) (hBw : B ≤ w.heap.size) :
    Calls Tryd.prog 75 #[.pointer (some ⟨b, 0, none⟩), .string s] w fun e w' => e = .returned (.tuple #[.int .i64 s.size, .nilIface]) ∧ (Lib.BuilderAtF 109 5 B b (.pointer (some ⟨b, 0, none⟩)) (bs ++ Lib.strCells s) w' ∧ Below B w w' ∧ Lib.OthersKept 5 (some b) w w') := Any.Builder_WriteString_k lays166 Builder_Extra_166 B b bs s w h hlen hBw
open Go.RowKit in
theorem Builder_String_any (B b : Nat) (l : List UInt8) (w : World) (h : Lib.IsBuilderF 109 5 B b (Lib.byteCells l) w) (hBw : B ≤ w.heap.size) :
    Calls Tryd.prog 77 #[.pointer (some ⟨b, 0, none⟩)] w fun e w' => e = .returned (.string ⟨l.toArray⟩) ∧ (Lib.IsBuilderF 109 5 B b (Lib.byteCells l) w' ∧ Below B w w' ∧ Lib.OthersKept 5 (some b) w w') := Any.Builder_String_any_k lays169 Builder_Extra_169 B b l w h hBw
end Go.Proofs.YtajmfonepnkofaaDoor
namespace Go.Proofs.YtajmfonepnkofaaDoor
open Go.RowKit Rg Go.Lib
set_option linter.unusedVariables false
set_option linter.unusedSimpArgs false

theorem ba_ext {a b : ByteArray} (h : a.data = b.data) : a = b := by cases a; cases b; simp at h; rw [h]
theorem run_byte (w : World) (x : Int) : (convert 42 9 (.slice (some ⟨w.heap.size, 0, none⟩) 1 1)).run Tryd.prog (w.alloc (.cells #[.int .u8 x] 5)) = .ok (.string (strOfNums [x])) (w.alloc (.cells #[.int .u8 x] 5)) := by
  refine run_convert_bytes_arg (P := Tryd.prog) _ 42 5 Tryd.underlying42 Tryd.underlying5 w.heap.size 0 1 1 [x] rfl (fun i hi => ?_) 9 Tryd.underlying9
  have h0 : i = 0 := by omega
  subst h0
  simp

def asS (l : List UInt8) : ByteArray := ⟨l.toArray⟩
theorem asS_app (a b : List UInt8) : asS a ++ asS b = asS (a ++ b) := ba_ext (by simp [asS])
theorem asS_list (l : List UInt8) : (asS l).data.toList = l := by simp [asS]
theorem asS_size (l : List UInt8) : (asS l).size = l.length := by simp [asS, ByteArray.size]
theorem asS_of (s : ByteArray) : asS s.data.toList = s := ba_ext (by simp [asS])
theorem digit_text : ∀ d : Nat, d < 10 → strOfNums [48 + (d : Int)] = asS [UInt8.ofNat (48 + d)] := by decide
theorem run_byteAt (w : World) (b : Nat) (x : Int) (h : w.heap[b]? = some (.cells #[.int .u8 x] 5 (0, 0))) : (convert 42 9 (.slice (some ⟨b, 0, none⟩) 1 1)).run Tryd.prog w = .ok (.string (strOfNums [x])) w := by
  refine run_convert_bytes_arg (P := Tryd.prog) _ 42 5 Tryd.underlying42 Tryd.underlying5 b 0 1 1 [x] rfl (fun i hi => ?_) 9 Tryd.underlying9
  have h0 : i = 0 := by omega
  subst h0
  simp [World.cell?, h]
theorem dec_len (u : Nat) (h : u ≤ 9223372036854775807) : (decDigits u).length ≤ 21 := by
  have := itoa_length_le (u : Int) (by omega) (by omega)
  rwa [itoa_nonneg] at this

set_option maxRecDepth 100000 in
set_option maxHeartbeats 1000000 in
theorem l1DecN_c (u : Nat) : ∀ (hu : u ≤ 9223372036854775807) (w : World),
    Calls Tryd.prog 52 #[.int .i64 (u : Int)] w fun e w' => e = .returned (.string (asS (decDigits u))) ∧ Below w.heap.size w w' := by
  induction u using Nat.strongRecOn with
  | _ u ih =>
    intro hu w
    have d1 : decide ((u : Int) < -9223372036854775807) = false := by simp only [decide_eq_false_iff_not]; omega
    have d2 : decide ((u : Int) < 0) = false := by simp only [decide_eq_false_iff_not]; omega
    by_cases h10 : u < 10
    · have d3 : decide ((u : Int) < 10) = true := by simp; omega
      have hcv := run_byte w (48 + (u : Int))
      have hd : Hid (strOfNums [48 + (u : Int)] = asS (decDigits u)) := hide (by rw [decDigits, dif_pos h10]; exact digit_text u h10)
      go_enter Tryd.func52, Tryd.ntmps52
      go_wp2
      go_ret
      exact ⟨congrArg (fun v => Ending.returned (.string v)) hd.out, (Below.refl _ _).alloc (Nat.le_refl _) _⟩
    · have d3 : decide ((u : Int) < 10) = false := by simp; omega
      have hih : Hid (∀ W : World, Calls Tryd.prog 52 #[.int .i64 ((u : Int) / 10)] W fun e w' => e = .returned (.string (asS (decDigits (u / 10)))) ∧ Below W.heap.size W w') := hide (fun W => by
        have := ih (u / 10) (by omega) (by omega) W
        rwa [show (((u / 10 : Nat) : Int)) = (u : Int) / 10 by omega] at this)
      clear ih
      have hd : Hid (asS (decDigits (u / 10)) ++ strOfNums [48 + (u : Int) % 10] = asS (decDigits u)) := hide (by rw [show (u : Int) % 10 = ((u % 10 : Nat) : Int) by omega, decDigits.eq_1 u, dif_neg h10, digit_text (u % 10) (by omega), asS_app])
      have hsz : ¬ 9223372036854775807 < (asS (decDigits (u / 10))).size + (strOfNums [48 + (u : Int) % 10]).size := by
        have := dec_len (u / 10) (by omega)
        rw [asS_size, strOfNums_size]; simp; omega
      have hA : Below w.heap.size w (w.alloc (.cells #[.int .u8 (48 + (u : Int) % 10)] 5)) := (Below.refl _ _).alloc (Nat.le_refl _) _
      have hblk := heap_alloc_new w (.cells #[.int .u8 (48 + (u : Int) % 10)] 5)
      have hblk' := hide hblk
      have hcvA := run_byteAt (w.alloc (.cells #[.int .u8 (48 + (u : Int) % 10)] 5)).drew w.heap.size _ hblk
      clear hblk
      go_enter Tryd.func52, Tryd.ntmps52
      go_wp2
      refine wp_region_O (fun _ => True) [] [24, 26] [19, 22, 23] (Ord.seg [0, 1, 3, 4, 5] (Ord.both 2 6 (Ord.seg [6, 7, 8, 9, 10] Ord.done) (Ord.seg [] (Ord.both 2 7 (Ord.seg [7, 8, 9, 10] Ord.done) (Ord.seg [] (Ord.both 2 8 (Ord.seg [8, 9, 10] Ord.done) (Ord.seg [2, 9, 10] Ord.done))))))) (by kernel_rfl) (by kernel_rfl) (by kernel_rfl) trivial ?_
      go_wp2_with (first
        | (go_at_call 52; refine (hih.out _).mono ?_; rintro e w1 ⟨rfl, hb1⟩; have hcv1 := run_byte w1 (48 + (u : Int) % 10); (try have hcvB := run_byteAt w1 w.heap.size (48 + (u : Int) % 10) ((hb1.block _ (by simp)).trans hblk'.out)))
        | ((with_reducible refine wpO_seg ?_); simp only [pickL, List.toList_toArray, List.getElem?_cons_succ, List.getElem?_cons_zero]) | ((with_reducible refine wpO_both ?_ ?_) <;> simp only [pickL, List.toList_toArray, List.getElem?_cons_succ, List.getElem?_cons_zero]) | ((with_reducible refine wpO_three ?_ ?_ ?_) <;> simp only [pickL, List.toList_toArray, List.getElem?_cons_succ, List.getElem?_cons_zero]) | ((with_reducible refine wpO_done ?_); try dsimp only) | ((with_reducible refine wpT_q0 ?_ ?_ ?_ ?_); (focus rfl); (focus rfl); (focus rfl); intro K hK) | ((with_reducible refine wpT_b ?_ ?_); (focus (exact ⟨_, _, _, _, _, _, _, _, _, rfl, rfl, rfl, rfl, rfl, rfl⟩)); intro K hK) | ((with_reducible refine wpT_x0 ?_ ?_ ?_); (focus rfl); (focus rfl); intro K hK) | ((with_reducible refine wpT_noL ?_ ?_); (focus (first | exact wanted_no _ _ _ rfl rfl rfl | exact wanted_un _ _ _ rfl rfl rfl)); simp only [setO, List.set_cons_succ, List.set_cons_zero]) | ((with_reducible refine wpT_q1 ?_ ?_ ?_ ?_); (focus exact wanted_yes _ _ _ rfl rfl rfl); (focus rfl); (focus rfl); intro K hK) | ((with_reducible refine wpT_x1 ?_ ?_ ?_); (focus exact wanted_yes _ _ _ rfl rfl rfl); (focus rfl); intro K hK) | ((with_reducible refine wpT_nil ?_); try dsimp only)
        | fail)
      all_goals go_ret
      all_goals refine ⟨congrArg (fun v => Ending.returned (.string v)) hd.out, ?_⟩
      all_goals first
        | exact Below.alloc (Below.trans (Below.drew (Below.refl w.heap.size w)) hb1) hb1.size _
        | exact hA.drew.trans (hb1.mono (by simp))
theorem itoa_min : itoa (-9223372036854775808) = [45, 57, 50, 50, 51, 51, 55, 50, 48, 51, 54, 56, 53, 52, 55, 55, 53, 56, 48, 56] := by
  unfold itoa
  rw [if_pos (by decide)]
  repeat (rw [decDigits]; simp)
set_option maxRecDepth 100000 in
set_option maxHeartbeats 1000000 in
theorem l1Dec_c (n : Int) (h0 : -9223372036854775808 ≤ n) (h1 : n ≤ 9223372036854775807) (w : World) :
    Calls Tryd.prog 52 #[.int .i64 n] w fun e w' => e = .returned (.string (asS (itoa n))) ∧ Below w.heap.size w w' := by
  by_cases hneg : n < 0
  · by_cases hmin : n < -9223372036854775807
    · obtain rfl : n = -9223372036854775808 := by omega
      go_enter Tryd.func52, Tryd.ntmps52
      go_wp2
      go_ret
      exact ⟨by rw [itoa_min]; rfl, Below.refl _ _⟩
    · obtain ⟨u, rfl⟩ : ∃ u : Nat, n = -(u : Int) := ⟨n.natAbs, by omega⟩
      have hu : 1 ≤ u := by omega
      have d1 : decide (-(u : Int) < -9223372036854775807) = false := by simp only [decide_eq_false_iff_not]; omega
      have d2 : decide (-(u : Int) < 0) = true := by simp only [decide_eq_true_eq]; omega
      have hd : Hid (asS [45] ++ asS (decDigits u) = asS (itoa (-(u : Int)))) := hide (by rw [itoa_neg u hu, asS_app]; rfl)
      have hsz : ¬ 9223372036854775807 < 1 + (asS (decDigits u)).size := by
        have := dec_len u (by omega)
        rw [asS_size]; omega
      go_enter Tryd.func52, Tryd.ntmps52
      go_wp2_with fail
      refine (l1DecN_c u (by omega) w).mono ?_
      rintro e w1 ⟨rfl, hb1⟩
      go_wp2
      go_ret
      exact ⟨congrArg (fun v => Ending.returned (.string v)) hd.out, hb1⟩
  · obtain ⟨u, rfl⟩ : ∃ u : Nat, n = (u : Int) := ⟨n.toNat, by omega⟩
    rw [itoa_nonneg]
    exact l1DecN_c u (by omega) w
/-- The library's table lies as its text lays it. -/
def Tab (w : World) : Prop := TabIs Tryd.prog w "internal/strconv.uint64pow10" .u64 pow10Tab
theorem Tab.below {w w' : World} (h : Tab w) (hb : Below w.heap.size w w') : Tab w' := by
  unfold Tab TabIs World.var? at *
  cases hg : Tryd.prog.globalNamed "internal/strconv.uint64pow10" with
  | none => simp [hg] at h
  | some g =>
    simp only [hg, Option.bind_some] at h ⊢
    have hlt : g < w.heap.size := by
      rcases Nat.lt_or_ge g w.heap.size with h' | h'
      · exact h'
      · rw [Array.getElem?_eq_none h'] at h; simp at h
    rw [hb.block g hlt]
    exact h
theorem below_grow {w : World} (k : Nat) (os : Array Obj) : Below w.heap.size w (Go.Sort.grow (w.drewN k) os) :=
  ⟨rfl, rfl, rfl, by simp, fun j hj => Go.Sort.heap_grow_old (w.drewN k) os hj⟩
theorem Itoa_c (n : Int) (h0 : -9223372036854775808 ≤ n) (h1 : n ≤ 9223372036854775807) (w : World) (ht : Tab w) :
    Calls Tryd.prog 76 #[.int .i64 n] w fun e w' => e = .returned (.string (asS (itoa n))) ∧ Below w.heap.size w w' := by
  refine (strconv_Itoa n h0 h1 w ht).mono ?_
  rintro e w' ⟨rfl, k, os, rfl⟩
  exact ⟨rfl, below_grow k os⟩
theorem ItoaS_c (i : Nat) (hi : i < 100) (w : World) :
    Calls Tryd.prog 76 #[.int .i64 (i : Int)] w fun e w' => e = .returned (.string (asS (itoa (i : Int)))) ∧ w' = w := by
  rw [itoa_nonneg]
  exact strconv_Itoa_small i hi w

theorem lenI (i : Int) (h0 : -9223372036854775808 ≤ i) (h1 : i ≤ 9223372036854775807) : (asS (itoa i)).size ≤ 21 := by rw [asS_size]; exact itoa_length_le i h0 h1

end Go.Proofs.YtajmfonepnkofaaDoor
namespace Go.Proofs.YtajmfonepnkofaaDoor.Rg
open Go Go.RowKit
set_option linter.unusedVariables false
set_option linter.unusedSimpArgs false

theorem gives_str {P : Program} {o : Oper} {a : Act} {w : World} {v : Value} {t r : TypeId} {x y : Operand} {s u : ByteArray} (ho : o.op = .binOp .add t x y r) (hx : a.eval x = .string s) (hy : a.eval y = .string u) (hg : Gives P o a w v) :
    ∀ w2, Gives P o a w2 v := by
  intro w2
  unfold Gives at *
  obtain ⟨dst, op', type, pos, after, guard⟩ := o
  simp only at ho
  subst ho
  simp [execOp, hx, hy, binOp, eqGuard, Op.stringOp] at hg ⊢
  all_goals (split at hg <;> simp_all)
/-- Two texts put together. -/
def AtStr (et : List Tmp) (o : Oper) (a : Act) : Prop := ∃ t x y r s u, o.guard = none ∧ inT et o = false ∧ o.op = .binOp .add t x y r ∧ a.eval x = .string s ∧ a.eval y = .string u
theorem wpT_bs {P : Program} {ops : Array Oper} {S : World → Prop} {et sl : List Tmp} {QT : Act → World → Prop} {o : Oper} {rest : List Oper} {a : Act} {w : World} (h0 : AtStr et o a)
    (h : ∀ K : Act → World → Prop, (∀ a', wpT P ops S et sl QT rest a' w → K a' w) → o.wp P a w K Qf) : wpT P ops S et sl QT (o :: rest) a w := by
  obtain ⟨t, x, y, r, s, u, hg, het, ho, hx, hy⟩ := h0
  have h1 := h (fun a' w' => w' = w ∧ wpT P ops S et sl QT rest a' w') (fun a' h => ⟨rfl, h⟩)
  have he : isE et o = false := by simp [isE, isEop, ho, het]
  unfold Oper.wp at h1
  generalize hr : (execOp a.eval o).run P w = r at h1
  cases r with
  | ok n w' =>
    obtain ⟨v, rfl⟩ := exec_value he hr
    simp only [Oper.upon] at h1
    obtain ⟨rfl, h2⟩ := h1
    exact wpT_s v he hg hr (fun w2 _ => gives_str ho hx hy hr w2) h2
  | halt y w' =>
    exfalso
    cases y <;> simp only [Oper.upon] at h1
    exact h1
end Go.Proofs.YtajmfonepnkofaaDoor.Rg
namespace Go.Proofs.YtajmfonepnkofaaDoor
open Go.RowKit Rg
open Go.Lib hiding intOf
set_option linter.unusedVariables false
set_option linter.unusedSimpArgs false

theorem _root_.Go.Lib.BuilderAtF.below {T e : TypeId} {B b : Nat} {p : Value} {bs : List Value} {w w' : World} (h : BuilderAtF T e B b p bs w) (hb : Below w.heap.size w w') : BuilderAtF T e B b p bs w' := by
  obtain ⟨h1, v, h2, h3, h4⟩ := h
  exact ⟨h1, v, (hb.block b (lt_of_heap h2)).trans h2, h3.kept (row := none) ⟨hb.os, hb.tape, hb.output, hb.size, fun k hk _ => hb.block k hk⟩ (by cases h : v.ownBlock <;> simp), h4⟩
theorem _root_.Go.Lib.IsBuilderF.below {T e : TypeId} {B b : Nat} {bs : List Value} {w w' : World} (h : IsBuilderF T e B b bs w) (hb : Below w.heap.size w w') : IsBuilderF T e B b bs w' := h.imp (·.below hb) (·.below hb)
def commasB (xs : List Int) : List UInt8 := xs.flatMap fun x => itoa x ++ [44]
def entB (e : EntT) : List UInt8 := 47 :: (itoa e.1 ++ 44 :: (itoa e.2.1 ++ 44 :: (itoa e.2.2.1 ++ 44 :: (itoa e.2.2.2.1 ++ 44 :: itoa e.2.2.2.2))))
def putE (es : List EntT) : List UInt8 := es.flatMap entB
/-- The text of a game. -/
def putG (g : GameT) : List UInt8 := (commasB g.2.1 ++ 47 :: commasB g.2.2) ++ putE g.1
theorem commasB_take (xs : List Int) (k : Nat) (hk : k < xs.length) : commasB (xs.take (k + 1)) = commasB (xs.take k) ++ (itoa xs[k] ++ [44]) := by
  unfold commasB
  rw [List.take_succ_eq_append_getElem hk, List.flatMap_append]
  simp
theorem putE_take (es : List EntT) (k : Nat) (hk : k < es.length) : putE (es.take (k + 1)) = putE (es.take k) ++ entB es[k] := by
  unfold putE
  rw [List.take_succ_eq_append_getElem hk, List.flatMap_append]
  simp
theorem itoa_sm {n : Int} (h0 : 0 ≤ n) (h1 : n < 100) : (itoa n).length ≤ 21 := itoa_length_le n (by omega) (by omega)
theorem commasB_len : ∀ {xs : List Int}, (∀ x ∈ xs, 0 ≤ x ∧ x < 100) → (commasB xs).length ≤ 22 * xs.length
  | [], _ => by simp [commasB]
  | x :: xs, h => by
    have ih := commasB_len (xs := xs) (fun y hy => h y (List.mem_cons_of_mem _ hy))
    have h1 := itoa_sm (h x (by simp)).1 (h x (by simp)).2
    have : commasB (x :: xs) = (itoa x ++ [44]) ++ commasB xs := rfl
    rw [this]
    simp only [List.length_append, List.length_cons, List.length_nil]
    omega
theorem ent_nums {e : EntT} (h : entOk e) : ∀ x ∈ [e.1, e.2.1, e.2.2.1, e.2.2.2.1, e.2.2.2.2], 0 ≤ x ∧ x < 100 := by
  unfold entOk rng at h
  intro x hx
  simp only [List.mem_cons, List.not_mem_nil, or_false] at hx
  rcases hx with rfl | rfl | rfl | rfl | rfl <;> omega
theorem entB_len {e : EntT} (h : entOk e) : (entB e).length ≤ 120 := by
  have h' := ent_nums h
  have a := itoa_sm (h' e.1 (by simp)).1 (h' e.1 (by simp)).2
  have b := itoa_sm (h' e.2.1 (by simp)).1 (h' e.2.1 (by simp)).2
  have c := itoa_sm (h' e.2.2.1 (by simp)).1 (h' e.2.2.1 (by simp)).2
  have d := itoa_sm (h' e.2.2.2.1 (by simp)).1 (h' e.2.2.2.1 (by simp)).2
  have f := itoa_sm (h' e.2.2.2.2 (by simp)).1 (h' e.2.2.2.2 (by simp)).2
  unfold entB
  simp only [List.length_append, List.length_cons]
  omega
theorem putE_len : ∀ {es : List EntT}, (∀ e ∈ es, entOk e) → (putE es).length ≤ 120 * es.length
  | [], _ => by simp [putE]
  | e :: es, h => by
    have ih := putE_len (es := es) (fun y hy => h y (List.mem_cons_of_mem _ hy))
    have h1 := entB_len (h e (by simp))
    have : putE (e :: es) = entB e ++ putE es := rfl
    rw [this]
    simp only [List.length_append, List.length_cons]
    omega
theorem trim_entB (e : EntT) : trimSuffix (commasB [e.1, e.2.1, e.2.2.1, e.2.2.2.1, e.2.2.2.2]) [44] = itoa e.1 ++ 44 :: (itoa e.2.1 ++ 44 :: (itoa e.2.2.1 ++ 44 :: (itoa e.2.2.2.1 ++ 44 :: itoa e.2.2.2.2))) := by
  have h : commasB [e.1, e.2.1, e.2.2.1, e.2.2.2.1, e.2.2.2.2] = (itoa e.1 ++ 44 :: (itoa e.2.1 ++ 44 :: (itoa e.2.2.1 ++ 44 :: (itoa e.2.2.2.1 ++ 44 :: itoa e.2.2.2.2)))) ++ [44] := by
    unfold commasB; simp
  rw [h]
  generalize itoa e.1 ++ 44 :: (itoa e.2.1 ++ 44 :: (itoa e.2.2.1 ++ 44 :: (itoa e.2.2.2.1 ++ 44 :: itoa e.2.2.2.2))) = l
  have hs : hasSuffix (l ++ [44]) [44] = true := by unfold hasSuffix; simp [List.isSuffixOf_iff_suffix]
  unfold trimSuffix
  rw [if_pos hs]
  simp
theorem ok_flo_nums {g : GameT} (h : okG g) : ∀ x ∈ g.2.1, 0 ≤ x ∧ x < 100 := fun x hx => by have := h.flo x hx; unfold rng at this; omega
theorem ok_las_nums {g : GameT} (h : okG g) : ∀ x ∈ g.2.2, 0 ≤ x ∧ x < 100 := fun x hx => by have := h.las x hx; unfold rng at this; omega
theorem ok_n4 {g : GameT} (h : okG g) : g.1.length ≤ 4 := inc_len h.inc (fun e he => (h.ent e he).1)
theorem putHead_len {g : GameT} (h : okG g) (k : Nat) : ((commasB g.2.1 ++ 47 :: commasB g.2.2) ++ putE (g.1.take k)).length ≤ 1500 := by
  have h1 := commasB_len (ok_flo_nums h)
  have h2 := commasB_len (ok_las_nums h)
  have h3 := putE_len (es := g.1.take k) (fun e he => h.ent e (List.mem_of_mem_take he))
  have h4 := ok_n4 h
  have h5 := h.n16
  have h6 := h.n4
  have h7 : (g.1.take k).length ≤ 4 := by rw [List.length_take]; omega
  rw [List.length_append, List.length_append, List.length_cons]
  omega
theorem putG_len {g : GameT} (h : okG g) : (putG g).length ≤ 1500 := by
  have := putHead_len h g.1.length
  rw [List.take_of_length_le (Nat.le_refl _)] at this
  exact this
theorem ItoaZ_c (x : Int) (h : 0 ≤ x ∧ x < 100) (w : World) : Calls Tryd.prog 76 #[.int .i64 x] w fun e w' => e = .returned (.string (asS (itoa x))) ∧ w' = w := by
  obtain ⟨i, rfl⟩ : ∃ i : Nat, x = (i : Int) := ⟨x.toNat, by omega⟩
  exact ItoaS_c i (by omega) w
theorem Sl.i64o {w : World} {lo hi b off k : Nat} {xs : List Int} (h : Sl encI 1 w lo hi (some ⟨b, off, none⟩) xs) (hk : k < xs.length) : w.cell? ⟨b, off + k, none⟩ = some (.int .i64 xs[k]) := by
  have := h.at_ hk 0 _ rfl
  simpa using this
set_option maxRecDepth 100000 in
set_option maxHeartbeats 2000000 in
theorem commas_c (A : Option Addr) (n c lo hi : Nat) (xs : List Int) (w : World) (hn : n = xs.length) (hb : n ≤ 100) (hs : Sl encI 1 w lo hi A xs) (hhi : hi ≤ w.heap.size) (hx : ∀ x ∈ xs, 0 ≤ x ∧ x < 100) :
    Calls Tryd.prog 45 #[.slice A n c] w fun e w' => e = .returned (.string (asS (commasB xs))) ∧ Below w.heap.size w w' := by
  have hn' := hide hn
  clear hn
  have hA := (Below.refl w.heap.size w).alloc (Nat.le_refl _) (.cells #[.pointer none, .slice none 0 0] 109)
  have hF : IsBuilderF 109 5 w.heap.size w.heap.size (Go.Lib.byteCells (commasB (xs.take 0))) (w.alloc (.cells #[.pointer none, .slice none 0 0] 109)) := IsBuilderF.of (fresh_isBuilder _ _ w)
  have hlw : w.heap.size < (w.alloc (.cells #[.pointer none, .slice none 0 0] 109)).heap.size := by simp
  go_enter Tryd.func45, Tryd.ntmps45
  go_wp2
  generalize w.alloc (.cells #[.pointer none, .slice none 0 0] 109) = wa at *
  go_loopw [8] (fun i wr => ∃ k : Nat, k ≤ n ∧ i = .int .i64 k ∧ IsBuilderF 109 5 w.heap.size w.heap.size (Go.Lib.byteCells (commasB (xs.take k))) wr ∧ w.heap.size < wr.heap.size ∧ Below w.heap.size w wr) (fun i _ => n - (intOf i).toNat)
  case atStart => exact ⟨0, Nat.zero_le _, rfl, hF, hlw, hA⟩
  case round =>
    obtain ⟨k, hk, rfl, hbu, hzb, hbr⟩ := hrel
    have hzr := hbr.size
    by_cases hlt : k < n
    · have hlx : k < xs.length := by have := hn'.out; omega
      obtain ⟨b, off, rfl, hlo, hbh⟩ := hs.addr hlx
      have a0 := (hs.below hbr hhi).i64o hlx
      have hxk := hx _ (List.getElem_mem hlx)
      have hI := itoa_sm hxk.1 hxk.2
      rw [← asS_size] at hI
      have z1 : ¬ 9223372036854775807 < (asS (itoa xs[k])).size + 1 := by omega
      have hcells : Hid (Go.Lib.byteCells (commasB (xs.take k)) ++ strCells (asS (itoa xs[k]) ++ asS [44]) = Go.Lib.byteCells (commasB (xs.take (k + 1)))) := hide (by
        rw [asS_app, commasB_take xs k hlx, Go.Lib.byteCells_append]
        rfl)
      have hW := hide (fun (W : World) (h : IsBuilderF 109 5 w.heap.size w.heap.size (Go.Lib.byteCells (commasB (xs.take k))) W) (hle : w.heap.size ≤ W.heap.size) => Builder_WriteString w.heap.size w.heap.size _ (asS (itoa xs[k]) ++ asS [44]) W h (by
        rw [asS_app, Go.Lib.byteCells_length, asS_size]
        have h1 := commasB_len (xs := xs.take k) (fun x hx' => hx x (List.mem_of_mem_take hx'))
        rw [asS_size] at hI
        rw [List.length_take] at h1
        simp only [List.length_append, List.length_cons, List.length_nil]
        omega) hle)
      clear hI
      go_wp2_with fail
      refine (ItoaZ_c xs[k] hxk wr).mono ?_
      rintro e w1 ⟨rfl, rfl⟩
      go_wp2_with fail
      refine (hW.out w1 hbu hzr).mono ?_
      rintro e w5 ⟨rfl, hbu5, hb5, hk5⟩
      rw [hcells.out] at hbu5
      go_wp2
      go_roundw
      case rel => exact ⟨k + 1, by omega, by go_num, .inr hbu5, hbu5.lt, hbr.trans hb5⟩
      case measure => simp [intOf]; omega
    · obtain rfl : k = n := by omega
      have hq : Hid (asS (commasB (xs.take k)) = asS (commasB xs)) := hide (by rw [List.take_of_length_le (by have := hn'.out; omega)])
      go_wp2_with fail
      refine (Builder_String_any w.heap.size w.heap.size _ _ hbu hzr).mono ?_
      rintro e w5 ⟨rfl, _, hb5, _⟩
      go_wp2
      go_ret
      exact ⟨congrArg (fun v => Ending.returned (.string v)) hq.out, hbr.trans hb5⟩
/-- What is behind the slash in a figure's text. -/
def tailB (e : EntT) : List UInt8 := itoa e.1 ++ 44 :: (itoa e.2.1 ++ 44 :: (itoa e.2.2.1 ++ 44 :: (itoa e.2.2.2.1 ++ 44 :: itoa e.2.2.2.2)))
theorem tailB_len {e : EntT} (h : entOk e) : (tailB e).length ≤ 120 := by have := entB_len h; unfold entB at this; unfold tailB; simp only [List.length_cons] at this; omega
theorem commasE_len {e : EntT} (h : entOk e) : (commasB [e.1, e.2.1, e.2.2.1, e.2.2.2.1, e.2.2.2.2]).length ≤ 110 := by have := commasB_len (ent_nums h); simpa using this
theorem Trim_c (e : EntT) (h : entOk e) (w : World) : Calls Tryd.prog 46 #[.string (asS (commasB [e.1, e.2.1, e.2.2.1, e.2.2.2.1, e.2.2.2.2])), .string (asS [44])] w fun r w' => r = .returned (.string (asS (tailB e))) ∧ w' = w := by
  refine (strings_TrimSuffix _ _ w (by rw [asS_size]; have := commasE_len h; omega)).mono ?_
  rintro r w' ⟨rfl, rfl⟩
  rw [asS_list, asS_list, trim_entB]
  exact ⟨rfl, rfl⟩
theorem impl_ent (O : List UInt8) (e : EntT) : asS O ++ (asS [47] ++ asS (tailB e)) = asS (O ++ entB e) := by
  rw [asS_app, asS_app]; rfl
theorem head_text (F L : List UInt8) : (asS F ++ asS [47]) ++ asS L = asS (F ++ 47 :: L) := by
  rw [asS_app, asS_app, List.append_assoc]; rfl
theorem spec_ent (O : List UInt8) (e : EntT) : (((((((((asS O ++ asS [47]) ++ asS (itoa e.1)) ++ asS [44]) ++ asS (itoa e.2.1)) ++ asS [44]) ++ asS (itoa e.2.2.1)) ++ asS [44]) ++ asS (itoa e.2.2.2.1)) ++ asS [44]) ++ asS (itoa e.2.2.2.2) = asS (O ++ entB e) := by
  simp only [asS_app]
  unfold entB
  simp
theorem spec_num (O : List UInt8) (x : Int) : (asS O ++ asS (itoa x)) ++ asS [44] = asS (O ++ (itoa x ++ [44])) := by
  rw [asS_app, asS_app, List.append_assoc]
set_option maxRecDepth 100000 in
set_option maxHeartbeats 4000000 in
theorem GamePut_c (A : Option Addr) (n c : Nat) (B : Option Addr) (p d : Nat) (E : Option Addr) (q f : Nat) (D : Nat → Prop) (g : GameT) (w : World) (hg : GmD w D A n c B p d E q f g) (hD : ∀ b, D b → b < w.heap.size) (hok : okG g) :
    Calls Tryd.prog 17 #[.agg #[.slice A n c, .slice B p d, .slice E q f]] w fun e w' => e = .returned (.string (asS (putG g))) ∧ Below w.heap.size w w' := by
  have hA0 := (Below.refl w.heap.size w).alloc (Nat.le_refl _) (.cells #[.slice A n c, .slice B p d, .slice E q f] 35)
  have hx0 := Bx3.made w (.slice A n c) (.slice B p d) (.slice E q f) 35
  have hx0h := hide hx0
  have hgh := hide hg
  have hokh := hide hok
  have hn' := hide hg.en.len
  have hp' : Hid (p = 16) := hide (by have h1 := hg.fl.len; have h2 := hok.n16; omega)
  have hq' : Hid (q = 4) := hide (by have h1 := hg.la.len; have h2 := hok.n4; omega)
  have hn4 : n ≤ 4 := by have h3 := ok_n4 hok; have := hn'.out; omega
  have hp16 : p ≤ 16 := by have := hp'.out; omega
  have hq4 : q ≤ 4 := by have := hq'.out; omega
  have hfn := hide (ok_flo_nums hok)
  have hln := hide (ok_las_nums hok)
  clear hx0 hg hok
  go_enter Tryd.func17, Tryd.ntmps17
  go_wp2_with fail
  generalize w.alloc (.cells #[.slice A n c, .slice B p d, .slice E q f] 35) = w1 at *
  refine (GameOk_c A n c B p d E q f D g w1 (hgh.out.below hA0 hD) (fun b hb => Nat.lt_of_lt_of_le (hD b hb) hA0.size) hokh.out).mono ?_
  rintro e w2 ⟨rfl, hb2⟩
  have hz1 := hA0.size
  have hz2 := hb2.size
  have hg2 := hide ((hgh.out.below hA0 hD).below hb2 (fun b hb => by have := hD b hb; omega))
  have hx2 := hx0h.out.below hb2 hx0h.out.lt
  have hB2 := hA0.trans (hb2.mono hz1)
  obtain ⟨xx0, xx1, xx2, -, -, -⟩ := hx2.cells
  have hlx2 := hx2.lt
  have hsF : (asS (commasB g.2.1)).size ≤ 500 := by rw [asS_size]; have := commasB_len hfn.out; have := hokh.out.n16; omega
  have hsL : (asS (commasB g.2.2)).size ≤ 100 := by rw [asS_size]; have := commasB_len hln.out; have := hokh.out.n4; omega
  have z1 : ¬ 9223372036854775807 < (asS (commasB g.2.1)).size + 1 := by omega
  have z2 : ¬ 9223372036854775807 < (asS (commasB g.2.1)).size + 1 + (asS (commasB g.2.2)).size := by omega
  clear hsF hsL
  go_wp2
  refine wp_region_T (SinceB (w2.heap.size) _) [35] [] [14, 12] [0, 1, 4, 5, 2, 3, 6, 7, 8] (by kernel_rfl) (by kernel_rfl) (by kernel_rfl) (SinceB.drew _ _) ?_; simp only [pickL, List.getElem?_cons_succ, List.getElem?_cons_zero]
  go_wp2_with (first
    | (go_at_call 45; have hq := hb3; refine (commas_c E q f 0 w.heap.size g.2.2 _ hg2.out.la.len (by have := hq'.out; omega) ((hg2.out.la.sl hD).below (B := w2.heap.size) hb3 (by omega)) (by omega) hln.out).mono ?_; rintro e w4 ⟨rfl, hb4'⟩; have hb4 : Below w2.heap.size w2 w4 := Below.appR hb3 hb4'; have hz4 := hb4.size; have hS4 : SinceB (w2.heap.size) w2 w4 := (SinceB.refl _ _).below hb4 (Nat.le_refl _); have hx4 := hx2.below hb4 hlx2; clear xx0 xx1 xx2; obtain ⟨xx0, xx1, xx2, -, -, -⟩ := hx4.cells; have hK := hK)
    | (go_at_call 45; refine (commas_c B p d 0 w.heap.size g.2.1 _ hg2.out.fl.len (by have := hp'.out; omega) ((hg2.out.fl.sl hD).below (B := w2.heap.size) (Below.drew (Below.refl _ _)) (by omega)) (by simp only [World.size_drew]; omega) hfn.out).mono ?_; rintro e w3 ⟨rfl, hb3'⟩; have hb3 : Below w2.heap.size w2 w3 := Below.appR (Below.drew (Below.refl _ _)) hb3'; have hz3 := hb3.size; have hS3 : SinceB (w2.heap.size) w2 w3 := (SinceB.refl _ _).below hb3 (Nat.le_refl _); have hK := hK)
    | (with_reducible refine SinceB.and_ ?_ ?_; (focus (repeat (first | (with_reducible exact SinceB.refl _ _) | (with_reducible assumption) | (with_reducible refine SinceB.drewR ?_) | ((with_reducible refine SinceB.alloc ?_ ?_ _); rotate_left; (focus (first | (with_reducible assumption) | (simp; done) | (simp; omega) | omega))) | ((with_reducible refine SinceB.set ?_ ?_ _); rotate_left; (focus (first | omega | (simp; done) | (simp; omega))))))); intro hS) | ((with_reducible refine wpT_noL ?_ ?_); (focus (first | exact wanted_no _ _ _ rfl rfl rfl | exact wanted_un _ _ _ rfl rfl rfl)); simp only [setO, List.set_cons_succ, List.set_cons_zero]) | ((with_reducible refine wpT_q0 ?_ ?_ ?_ ?_); (focus rfl); (focus rfl); (focus rfl); intro K hK) | ((with_reducible refine wpT_i ?_ ?_); (focus (refine ⟨_, _, _, _, _, _, _, _, rfl, rfl, rfl, rfl, rfl, ?_⟩; omega)); intro K hK) | ((with_reducible refine wpT_bs ?_ ?_); (focus (exact ⟨_, _, _, _, _, _, rfl, rfl, rfl, rfl, rfl⟩)); intro K hK) | ((with_reducible apply wpT_lB); (focus rfl); (focus rfl); (focus rfl); (focus rfl); (focus (first | exact SinceB.drew _ _ | (with_reducible assumption))); (focus (simp <;> omega)); (focus go_simp); intro K hK) | ((with_reducible apply wpT_lwB); (focus exact wanted_yes _ _ _ rfl rfl rfl); (focus rfl); (focus rfl); (focus rfl); (focus (first | exact SinceB.drew _ _ | (with_reducible assumption))); (focus (simp <;> omega)); (focus go_simp); intro K hK) | ((with_reducible refine wpT_xs0 ?_ ?_ ?_); (focus rfl); (focus rfl); intro K hK) | ((with_reducible refine wpT_q1 ?_ ?_ ?_ ?_); (focus exact wanted_yes _ _ _ rfl rfl rfl); (focus rfl); (focus rfl); intro K hK) | ((with_reducible refine wpT_xs1 ?_ ?_ ?_); (focus exact wanted_yes _ _ _ rfl rfl rfl); (focus rfl); intro K hK) | ((with_reducible refine wpT_nil ?_); try dsimp only)
    | fail)
  have hB4 := hB2.trans (hb4.mono (by omega))
  have hg4 := hide (hg2.out.below hb4 (fun b hb => by have := hD b hb; omega))
  have hT0 := hide (head_text (commasB g.2.1) (commasB g.2.2))
  go_loopw [20, 3] (fun i sv wr => ∃ k : Nat, k ≤ n ∧ i = .int .i64 (k : Int) ∧ sv = .string (asS ((commasB g.2.1 ++ 47 :: commasB g.2.2) ++ putE (g.1.take k))) ∧ Below w4.heap.size w4 wr) (fun i _ _ => n - (intOf i).toNat)
  case atStart => exact ⟨0, Nat.zero_le _, rfl, congrArg Value.string (by rw [List.take_zero]; show (asS (commasB g.2.1) ++ asS [47]) ++ asS (commasB g.2.2) = _; rw [hT0.out]; simp [putE]), Below.refl _ _⟩
  case round =>
    obtain ⟨k, hk, rfl, rfl, hbr⟩ := hrel
    have hzr := hbr.size
    by_cases hlt : k < n
    · have hlx : k < g.1.length := by have := hn'.out; omega
      have hgr := hg4.out.below hbr (fun b hb => by have := hD b hb; omega)
      obtain ⟨b, off, rfl, hDb⟩ := hgr.en.addr hlx
      obtain ⟨a0, a1, a2, a3, a4⟩ := hgr.en.ent hlx
      have hbw := hD b hDb
      have hbr' : b < wr.heap.size := by omega
      have hent := hide (hokh.out.ent _ (List.getElem_mem hlx))
      have hsO : (asS ((commasB g.2.1 ++ 47 :: commasB g.2.2) ++ putE (g.1.take k))).size ≤ 1500 := by rw [asS_size]; exact putHead_len hokh.out k
      have hsT : (asS (tailB g.1[k])).size ≤ 120 := by rw [asS_size]; exact tailB_len hent.out
      have z3 : ¬ 9223372036854775807 < 1 + (asS (tailB g.1[k])).size := by omega
      have z4 : ¬ 9223372036854775807 < (asS ((commasB g.2.1 ++ 47 :: commasB g.2.2) ++ putE (g.1.take k))).size + (1 + (asS (tailB g.1[k])).size) := by omega
      have hnx : Hid (asS ((commasB g.2.1 ++ 47 :: commasB g.2.2) ++ putE (g.1.take k)) ++ (asS [47] ++ asS (tailB g.1[k])) = asS ((commasB g.2.1 ++ 47 :: commasB g.2.2) ++ putE (g.1.take (k + 1)))) := hide (by rw [impl_ent, putE_take _ _ hlx, ← List.append_assoc])
      clear hgr hsO hsT
      generalize (commasB g.2.1 ++ 47 :: commasB g.2.2) ++ putE (g.1.take k) = O at *
      have hsl := sl_arr encI_len (wr.alloc (.cells #[.int .i64 g.1[k].1, .int .i64 g.1[k].2.1, .int .i64 g.1[k].2.2.1, .int .i64 g.1[k].2.2.2.1, .int .i64 g.1[k].2.2.2.2] 82)) #[.int .i64 g.1[k].1, .int .i64 g.1[k].2.1, .int .i64 g.1[k].2.2.1, .int .i64 g.1[k].2.2.2.1, .int .i64 g.1[k].2.2.2.2] 3 [g.1[k].1, g.1[k].2.1, g.1[k].2.2.1, g.1[k].2.2.2.1, g.1[k].2.2.2.2] rfl
      rw [World.size_alloc] at hsl
      have hslh := hide hsl
      clear hsl
      go_wp2_with fail
      refine (commas_c (some ⟨wr.heap.size + 1, 0, none⟩) 5 5 _ _ [g.1[k].1, g.1[k].2.1, g.1[k].2.2.1, g.1[k].2.2.2.1, g.1[k].2.2.2.2] ((wr.alloc (.cells #[.int .i64 g.1[k].1, .int .i64 g.1[k].2.1, .int .i64 g.1[k].2.2.1, .int .i64 g.1[k].2.2.2.1, .int .i64 g.1[k].2.2.2.2] 82)).alloc (.cells #[.int .i64 g.1[k].1, .int .i64 g.1[k].2.1, .int .i64 g.1[k].2.2.1, .int .i64 g.1[k].2.2.2.1, .int .i64 g.1[k].2.2.2.2] 3)) rfl (by omega) hslh.out (by simp) (ent_nums hent.out)).mono ?_
      rintro e w5 ⟨rfl, hb5⟩
      have hw5 : Below wr.heap.size wr w5 := Below.appR (((Below.refl _ _).alloc (Nat.le_refl _) _).alloc (by simp) _) hb5
      clear hb5
      go_wp2_with fail
      refine (Trim_c g.1[k] hent.out w5).mono ?_
      rintro e w6 ⟨rfl, rfl⟩
      go_wp2
      go_roundw
      case rel => exact ⟨k + 1, by omega, by go_num, congrArg Value.string hnx.out, hbr.trans (hw5.mono hzr)⟩
      case measure => simp [intOf]; omega
    · obtain rfl : k = n := by omega
      have hq : Hid (asS ((commasB g.2.1 ++ 47 :: commasB g.2.2) ++ putE (g.1.take k)) = asS (putG g)) := hide (by rw [List.take_of_length_le (by have := hn'.out; omega)]; rfl)
      go_wp2
      go_ret
      exact ⟨congrArg (fun v => Ending.returned (.string v)) hq.out, hB4.trans (hbr.mono (by omega))⟩
set_option maxRecDepth 100000 in
set_option maxHeartbeats 4000000 in
theorem l2Put_c (A : Option Addr) (n c : Nat) (B : Option Addr) (p d : Nat) (E : Option Addr) (q f : Nat) (D : Nat → Prop) (g : GameT) (w : World) (hg : GmD w D A n c B p d E q f g) (hD : ∀ b, D b → b < w.heap.size) (hok : okG g) :
    Calls Tryd.prog 26 #[.agg #[.slice A n c, .slice B p d, .slice E q f]] w fun e w' => e = .returned (.string (asS (putG g))) ∧ Below w.heap.size w w' := by
  have hA0 := (Below.refl w.heap.size w).alloc (Nat.le_refl _) (.cells #[.slice A n c, .slice B p d, .slice E q f] 35)
  have hx0 := Bx3.made w (.slice A n c) (.slice B p d) (.slice E q f) 35
  have hx0h := hide hx0
  have hgh := hide hg
  have hokh := hide hok
  have hn' := hide hg.en.len
  have hp' : Hid (p = 16) := hide (by have h1 := hg.fl.len; have h2 := hok.n16; omega)
  have hq' : Hid (q = 4) := hide (by have h1 := hg.la.len; have h2 := hok.n4; omega)
  have hn4 : n ≤ 4 := by have h3 := ok_n4 hok; have := hn'.out; omega
  have hp16 : p ≤ 16 := by have := hp'.out; omega
  have hq4 : q ≤ 4 := by have := hq'.out; omega
  have hfn := hide (ok_flo_nums hok)
  have hln := hide (ok_las_nums hok)
  clear hx0 hg hok
  go_enter Tryd.func26, Tryd.ntmps26
  go_wp2
  generalize w.alloc (.cells #[.slice A n c, .slice B p d, .slice E q f] 35) = w1 at *
  have hz1 := hA0.size
  have hg1 := hide (hgh.out.below hA0 hD)
  have hlx1 := hx0h.out.lt
  go_loopw [4, 3] (fun i sv wr => ∃ k : Nat, k ≤ p ∧ i = .int .i64 (k : Int) ∧ sv = .string (asS (commasB (g.2.1.take k))) ∧ Below w1.heap.size w1 wr) (fun i _ _ => p - (intOf i).toNat)
  case atStart => exact ⟨0, Nat.zero_le _, rfl, rfl, Below.refl _ _⟩
  case round =>
    obtain ⟨k, hk, rfl, rfl, hbr⟩ := hrel
    have hzr := hbr.size
    have hxr := hx0h.out.below hbr hx0h.out.lt
    obtain ⟨xx0, xx1, xx2, -, -, -⟩ := hxr.cells
    have hlxr := hxr.lt
    have hgr := hg1.out.below hbr (fun b hb => by have := hD b hb; omega)
    by_cases hlt : k < p
    · have hlx : k < g.2.1.length := by rw [hokh.out.n16]; have := hp'.out; omega
      obtain ⟨b, off, rfl, hDb⟩ := hgr.fl.addr hlx
      have a0 := hgr.fl.i64 hlx
      have hxk := hfn.out _ (List.getElem_mem hlx)
      have hI := itoa_sm hxk.1 hxk.2
      rw [← asS_size] at hI
      have hO : (asS (commasB (g.2.1.take k))).size ≤ 500 := by
        rw [asS_size]
        have h1 := commasB_len (xs := g.2.1.take k) (fun x hx' => hfn.out x (List.mem_of_mem_take hx'))
        rw [List.length_take] at h1
        have := hp'.out; omega
      have z1 : ¬ 9223372036854775807 < (asS (commasB (g.2.1.take k))).size + (asS (itoa g.2.1[k])).size := by omega
      have z2 : ¬ 9223372036854775807 < (asS (commasB (g.2.1.take k))).size + (asS (itoa g.2.1[k])).size + 1 := by omega
      have hnx : Hid ((asS (commasB (g.2.1.take k)) ++ asS (itoa g.2.1[k])) ++ asS [44] = asS (commasB (g.2.1.take (k + 1)))) := hide (by rw [spec_num, commasB_take _ _ hlx])
      clear hI hO hgr
      generalize commasB (g.2.1.take k) = O at *
      go_wp2_with fail
      refine (l1Dec_c g.2.1[k] (by omega) (by omega) wr).mono ?_
      rintro e w5 ⟨rfl, hb5⟩
      go_wp2
      go_roundw
      case rel => exact ⟨k + 1, by omega, by go_num, congrArg Value.string hnx.out, hbr.trans (hb5.mono hzr)⟩
      case measure => simp [intOf]; omega
    · obtain rfl : k = p := by omega
      have hF : Hid (commasB (g.2.1.take k) = commasB g.2.1) := hide (by rw [List.take_of_length_le (by rw [hokh.out.n16]; have := hp'.out; omega)])
      rw [hF.out]
      have hsF : (asS (commasB g.2.1)).size ≤ 500 := by rw [asS_size]; have := commasB_len hfn.out; have := hokh.out.n16; omega
      have z1 : ¬ 9223372036854775807 < (asS (commasB g.2.1)).size + 1 := by omega
      clear hgr
      go_wp2
      have hB1 := hA0.trans (hbr.mono hz1)
      have hg2 := hide (hg1.out.below hbr (fun b hb => by have := hD b hb; omega))
      have hx2 := hide hxr
      clear xx0 xx1 xx2 hxr
      generalize wr = v0 at *
      go_loopw [5, 3] (fun i sv ws => ∃ j : Nat, j ≤ q ∧ i = .int .i64 (j : Int) ∧ sv = .string (asS (commasB g.2.1 ++ 47 :: commasB (g.2.2.take j))) ∧ Below v0.heap.size v0 ws) (fun i _ _ => q - (intOf i).toNat)
      case atStart => exact ⟨0, Nat.zero_le _, rfl, congrArg Value.string (by rw [List.take_zero]; show asS (commasB g.2.1) ++ asS [47] = _; rw [asS_app]; rfl), Below.refl _ _⟩
      case round =>
        obtain ⟨j, hj, rfl, rfl, hbs⟩ := hrel
        have hzs := hbs.size
        have hxs := hx2.out.below hbs hx2.out.lt
        obtain ⟨xx0, xx1, xx2, -, -, -⟩ := hxs.cells
        have hlxs := hxs.lt
        have hgs := hg2.out.below hbs (fun b hb => by have := hD b hb; omega)
        by_cases hlt2 : j < q
        · have hlx : j < g.2.2.length := by rw [hokh.out.n4]; have := hq'.out; omega
          obtain ⟨b, off, rfl, hDb⟩ := hgs.la.addr hlx
          have a0 := hgs.la.i64 hlx
          have hxk := hln.out _ (List.getElem_mem hlx)
          have hI := itoa_sm hxk.1 hxk.2
          rw [← asS_size] at hI
          have hO : (asS (commasB g.2.1 ++ 47 :: commasB (g.2.2.take j))).size ≤ 1500 := by
            rw [asS_size, List.length_append, List.length_cons]
            have h0 := commasB_len hfn.out
            have h1 := commasB_len (xs := g.2.2.take j) (fun x hx' => hln.out x (List.mem_of_mem_take hx'))
            rw [List.length_take] at h1
            have := hokh.out.n16
            have := hq'.out; omega
          have z3 : ¬ 9223372036854775807 < (asS (commasB g.2.1 ++ 47 :: commasB (g.2.2.take j))).size + (asS (itoa g.2.2[j])).size := by omega
          have z4 : ¬ 9223372036854775807 < (asS (commasB g.2.1 ++ 47 :: commasB (g.2.2.take j))).size + (asS (itoa g.2.2[j])).size + 1 := by omega
          have hnx : Hid ((asS (commasB g.2.1 ++ 47 :: commasB (g.2.2.take j)) ++ asS (itoa g.2.2[j])) ++ asS [44] = asS (commasB g.2.1 ++ 47 :: commasB (g.2.2.take (j + 1)))) := hide (by rw [spec_num, commasB_take _ _ hlx, List.append_assoc]; rfl)
          clear hI hO hgs
          generalize commasB g.2.1 ++ 47 :: commasB (g.2.2.take j) = O at *
          go_wp2_with fail
          refine (l1Dec_c g.2.2[j] (by omega) (by omega) wr).mono ?_
          rintro e w5 ⟨rfl, hb5⟩
          go_wp2
          go_roundw
          case rel => exact ⟨j + 1, by omega, by go_num, congrArg Value.string hnx.out, hbs.trans (hb5.mono hzs)⟩
          case measure => simp [intOf]; omega
        · obtain rfl : j = q := by omega
          have hL : Hid (commasB (g.2.2.take j) = commasB g.2.2) := hide (by rw [List.take_of_length_le (by rw [hokh.out.n4]; have := hq'.out; omega)])
          rw [hL.out]
          go_wp2
          have hB3 := hB1.trans (hbs.mono (by omega))
          have hg3 := hide hgs
          have hx3 := hide hxs
          clear xx0 xx1 xx2 hgs hxs z1
          generalize wr = v2 at *
          go_loopw [6, 3] (fun i sv ws => ∃ k : Nat, k ≤ n ∧ i = .int .i64 (k : Int) ∧ sv = .string (asS ((commasB g.2.1 ++ 47 :: commasB g.2.2) ++ putE (g.1.take k))) ∧ Below v2.heap.size v2 ws) (fun i _ _ => n - (intOf i).toNat)
          case atStart => exact ⟨0, Nat.zero_le _, rfl, by rw [List.take_zero]; simp [putE], Below.refl _ _⟩
          case round =>
            obtain ⟨k, hk, rfl, rfl, hbt⟩ := hrel
            have hzt := hbt.size
            have hxt := hx3.out.below hbt hx3.out.lt
            obtain ⟨xx0, xx1, xx2, -, -, -⟩ := hxt.cells
            have hlxt := hxt.lt
            have hgt := hg3.out.below hbt (fun b hb => by have := hD b hb; omega)
            by_cases hlt3 : k < n
            · have hlx : k < g.1.length := by have := hn'.out; omega
              obtain ⟨b, off, rfl, hDb⟩ := hgt.en.addr hlx
              obtain ⟨a0, a1, a2, a3, a4⟩ := hgt.en.ent hlx
              have hbw := hD b hDb
              have hbr' : b < wr.heap.size := by omega
              have hent := hokh.out.ent _ (List.getElem_mem hlx)
              have hnm := ent_nums hent
              have s0 := itoa_sm (hnm g.1[k].1 (by simp)).1 (hnm g.1[k].1 (by simp)).2
              have s1 := itoa_sm (hnm g.1[k].2.1 (by simp)).1 (hnm g.1[k].2.1 (by simp)).2
              have s2 := itoa_sm (hnm g.1[k].2.2.1 (by simp)).1 (hnm g.1[k].2.2.1 (by simp)).2
              have s3 := itoa_sm (hnm g.1[k].2.2.2.1 (by simp)).1 (hnm g.1[k].2.2.2.1 (by simp)).2
              have s4 := itoa_sm (hnm g.1[k].2.2.2.2 (by simp)).1 (hnm g.1[k].2.2.2.2 (by simp)).2
              rw [← asS_size] at s0 s1 s2 s3 s4
              unfold entOk rng at hent
              have hsO : (asS ((commasB g.2.1 ++ 47 :: commasB g.2.2) ++ putE (g.1.take k))).size ≤ 1500 := by rw [asS_size]; exact putHead_len hokh.out k
              have hnx : Hid ((((((((((asS ((commasB g.2.1 ++ 47 :: commasB g.2.2) ++ putE (g.1.take k)) ++ asS [47]) ++ asS (itoa g.1[k].1)) ++ asS [44]) ++ asS (itoa g.1[k].2.1)) ++ asS [44]) ++ asS (itoa g.1[k].2.2.1)) ++ asS [44]) ++ asS (itoa g.1[k].2.2.2.1)) ++ asS [44]) ++ asS (itoa g.1[k].2.2.2.2) = asS ((commasB g.2.1 ++ 47 :: commasB g.2.2) ++ putE (g.1.take (k + 1)))) := hide (by rw [spec_ent, putE_take _ _ hlx, ← List.append_assoc])
              clear hgt hnm
              generalize (commasB g.2.1 ++ 47 :: commasB g.2.2) ++ putE (g.1.take k) = O at *
              have y0_ : ¬ 9223372036854775807 < (asS O).size + 1 := by omega
              have y1_ : ¬ 9223372036854775807 < (asS O).size + 1 + (asS (itoa g.1[k].1)).size := by omega
              have y2_ : ¬ 9223372036854775807 < (asS O).size + 1 + (asS (itoa g.1[k].1)).size + 1 := by omega
              have y3_ : ¬ 9223372036854775807 < (asS O).size + 1 + (asS (itoa g.1[k].1)).size + 1 + (asS (itoa g.1[k].2.1)).size := by omega
              have y4_ : ¬ 9223372036854775807 < (asS O).size + 1 + (asS (itoa g.1[k].1)).size + 1 + (asS (itoa g.1[k].2.1)).size + 1 := by omega
              have y5_ : ¬ 9223372036854775807 < (asS O).size + 1 + (asS (itoa g.1[k].1)).size + 1 + (asS (itoa g.1[k].2.1)).size + 1 + (asS (itoa g.1[k].2.2.1)).size := by omega
              have y6_ : ¬ 9223372036854775807 < (asS O).size + 1 + (asS (itoa g.1[k].1)).size + 1 + (asS (itoa g.1[k].2.1)).size + 1 + (asS (itoa g.1[k].2.2.1)).size + 1 := by omega
              have y7_ : ¬ 9223372036854775807 < (asS O).size + 1 + (asS (itoa g.1[k].1)).size + 1 + (asS (itoa g.1[k].2.1)).size + 1 + (asS (itoa g.1[k].2.2.1)).size + 1 + (asS (itoa g.1[k].2.2.2.1)).size := by omega
              have y8_ : ¬ 9223372036854775807 < (asS O).size + 1 + (asS (itoa g.1[k].1)).size + 1 + (asS (itoa g.1[k].2.1)).size + 1 + (asS (itoa g.1[k].2.2.1)).size + 1 + (asS (itoa g.1[k].2.2.2.1)).size + 1 := by omega
              have y9_ : ¬ 9223372036854775807 < (asS O).size + 1 + (asS (itoa g.1[k].1)).size + 1 + (asS (itoa g.1[k].2.1)).size + 1 + (asS (itoa g.1[k].2.2.1)).size + 1 + (asS (itoa g.1[k].2.2.2.1)).size + 1 + (asS (itoa g.1[k].2.2.2.2)).size := by omega
              clear s0 s1 s2 s3 s4 hsO
              have hAe := (Below.refl wr.heap.size wr).alloc (Nat.le_refl _) (.cells #[.int .i64 g.1[k].1, .int .i64 g.1[k].2.1, .int .i64 g.1[k].2.2.1, .int .i64 g.1[k].2.2.2.1, .int .i64 g.1[k].2.2.2.2] 82)
              have y0 : (wr.alloc (.cells #[.int .i64 g.1[k].1, .int .i64 g.1[k].2.1, .int .i64 g.1[k].2.2.1, .int .i64 g.1[k].2.2.2.1, .int .i64 g.1[k].2.2.2.2] 82)).cell? ⟨wr.heap.size, 0, none⟩ = some (.int .i64 g.1[k].1) := by simp
              have y1 : (wr.alloc (.cells #[.int .i64 g.1[k].1, .int .i64 g.1[k].2.1, .int .i64 g.1[k].2.2.1, .int .i64 g.1[k].2.2.2.1, .int .i64 g.1[k].2.2.2.2] 82)).cell? ⟨wr.heap.size, 1, none⟩ = some (.int .i64 g.1[k].2.1) := by simp
              have y2 : (wr.alloc (.cells #[.int .i64 g.1[k].1, .int .i64 g.1[k].2.1, .int .i64 g.1[k].2.2.1, .int .i64 g.1[k].2.2.2.1, .int .i64 g.1[k].2.2.2.2] 82)).cell? ⟨wr.heap.size, 2, none⟩ = some (.int .i64 g.1[k].2.2.1) := by simp
              have y3 : (wr.alloc (.cells #[.int .i64 g.1[k].1, .int .i64 g.1[k].2.1, .int .i64 g.1[k].2.2.1, .int .i64 g.1[k].2.2.2.1, .int .i64 g.1[k].2.2.2.2] 82)).cell? ⟨wr.heap.size, 3, none⟩ = some (.int .i64 g.1[k].2.2.2.1) := by simp
              have y4 : (wr.alloc (.cells #[.int .i64 g.1[k].1, .int .i64 g.1[k].2.1, .int .i64 g.1[k].2.2.1, .int .i64 g.1[k].2.2.2.1, .int .i64 g.1[k].2.2.2.2] 82)).cell? ⟨wr.heap.size, 4, none⟩ = some (.int .i64 g.1[k].2.2.2.2) := by simp
              have hlb : wr.heap.size < (wr.alloc (.cells #[.int .i64 g.1[k].1, .int .i64 g.1[k].2.1, .int .i64 g.1[k].2.2.1, .int .i64 g.1[k].2.2.2.1, .int .i64 g.1[k].2.2.2.2] 82)).heap.size := by simp
              go_wp2
              clear a0 a1 a2 a3 a4
              generalize wr.alloc (.cells #[.int .i64 g.1[k].1, .int .i64 g.1[k].2.1, .int .i64 g.1[k].2.2.1, .int .i64 g.1[k].2.2.2.1, .int .i64 g.1[k].2.2.2.2] 82) = v1 at *
              have hb10 : Below v1.heap.size v1 v1.drew := (Below.refl _ _).drew
              refine wp_region_T (SinceB (v1.heap.size) _) [82] [] [55, 62, 67, 72, 77, 59, 60, 64, 65, 69, 70, 74, 75] [0, 1, 2, 3, 7, 8, 12, 13, 17, 18, 22, 23, 4, 5, 6, 9, 10, 11, 14, 15, 16, 19, 20, 21, 24, 25, 26] (by kernel_rfl) (by kernel_rfl) (by kernel_rfl) (SinceB.drew _ _) ?_; simp only [pickL, List.getElem?_cons_succ, List.getElem?_cons_zero]
              go_wp2_with (first
                | (go_at_call 52; have hq := hb14; refine (l1Dec_c g.1[k].2.2.2.2 (by omega) (by omega) _).mono ?_; rintro e w15 ⟨rfl, hc15⟩; have hb15 : Below v1.heap.size v1 w15 := Below.appR hb14 hc15; have hz15 := hb15.size; have hS15 : SinceB (v1.heap.size) v1 w15 := (SinceB.refl _ _).below hb15 (Nat.le_refl _); have hK := hK)
                | (go_at_call 52; have hq := hb13; refine (l1Dec_c g.1[k].2.2.2.1 (by omega) (by omega) _).mono ?_; rintro e w14 ⟨rfl, hc14⟩; have hb14 : Below v1.heap.size v1 w14 := Below.appR hb13 hc14; have hz14 := hb14.size; have hS14 : SinceB (v1.heap.size) v1 w14 := (SinceB.refl _ _).below hb14 (Nat.le_refl _); have hK := hK)
                | (go_at_call 52; have hq := hb12; refine (l1Dec_c g.1[k].2.2.1 (by omega) (by omega) _).mono ?_; rintro e w13 ⟨rfl, hc13⟩; have hb13 : Below v1.heap.size v1 w13 := Below.appR hb12 hc13; have hz13 := hb13.size; have hS13 : SinceB (v1.heap.size) v1 w13 := (SinceB.refl _ _).below hb13 (Nat.le_refl _); have hK := hK)
                | (go_at_call 52; have hq := hb11; refine (l1Dec_c g.1[k].2.1 (by omega) (by omega) _).mono ?_; rintro e w12 ⟨rfl, hc12⟩; have hb12 : Below v1.heap.size v1 w12 := Below.appR hb11 hc12; have hz12 := hb12.size; have hS12 : SinceB (v1.heap.size) v1 w12 := (SinceB.refl _ _).below hb12 (Nat.le_refl _); have hK := hK)
                | (go_at_call 52; have hq := hb10; refine (l1Dec_c g.1[k].1 (by omega) (by omega) _).mono ?_; rintro e w11 ⟨rfl, hc11⟩; have hb11 : Below v1.heap.size v1 w11 := Below.appR hb10 hc11; have hz11 := hb11.size; have hS11 : SinceB (v1.heap.size) v1 w11 := (SinceB.refl _ _).below hb11 (Nat.le_refl _); have hK := hK)
                | (with_reducible refine SinceB.and_ ?_ ?_; (focus (repeat (first | (with_reducible exact SinceB.refl _ _) | (with_reducible assumption) | (with_reducible refine SinceB.drewR ?_) | ((with_reducible refine SinceB.alloc ?_ ?_ _); rotate_left; (focus (first | (with_reducible assumption) | (simp; done) | (simp; omega) | omega))) | ((with_reducible refine SinceB.set ?_ ?_ _); rotate_left; (focus (first | omega | (simp; done) | (simp; omega))))))); intro hS) | ((with_reducible refine wpT_noL ?_ ?_); (focus (first | exact wanted_no _ _ _ rfl rfl rfl | exact wanted_un _ _ _ rfl rfl rfl)); simp only [setO, List.set_cons_succ, List.set_cons_zero]) | ((with_reducible refine wpT_q0 ?_ ?_ ?_ ?_); (focus rfl); (focus rfl); (focus rfl); intro K hK) | ((with_reducible refine wpT_i ?_ ?_); (focus (refine ⟨_, _, _, _, _, _, _, _, rfl, rfl, rfl, rfl, rfl, ?_⟩; omega)); intro K hK) | ((with_reducible refine wpT_bs ?_ ?_); (focus (exact ⟨_, _, _, _, _, _, rfl, rfl, rfl, rfl, rfl⟩)); intro K hK) | ((with_reducible apply wpT_lB); (focus rfl); (focus rfl); (focus rfl); (focus rfl); (focus (first | exact SinceB.drew _ _ | (with_reducible assumption))); (focus (simp <;> omega)); (focus go_simp); intro K hK) | ((with_reducible apply wpT_lwB); (focus exact wanted_yes _ _ _ rfl rfl rfl); (focus rfl); (focus rfl); (focus rfl); (focus (first | exact SinceB.drew _ _ | (with_reducible assumption))); (focus (simp <;> omega)); (focus go_simp); intro K hK) | ((with_reducible refine wpT_xs0 ?_ ?_ ?_); (focus rfl); (focus rfl); intro K hK) | ((with_reducible refine wpT_q1 ?_ ?_ ?_ ?_); (focus exact wanted_yes _ _ _ rfl rfl rfl); (focus rfl); (focus rfl); intro K hK) | ((with_reducible refine wpT_xs1 ?_ ?_ ?_); (focus exact wanted_yes _ _ _ rfl rfl rfl); (focus rfl); intro K hK) | ((with_reducible refine wpT_nil ?_); try dsimp only)
                | fail)
              go_roundw
              case rel => exact ⟨k + 1, by omega, by go_num, congrArg Value.string hnx.out, hbt.trans ((hAe.trans (hb15.mono (by omega))).mono hzt)⟩
              case measure => simp [intOf]; omega
            · obtain rfl : k = n := by omega
              have hq : Hid (asS ((commasB g.2.1 ++ 47 :: commasB g.2.2) ++ putE (g.1.take k)) = asS (putG g)) := hide (by rw [List.take_of_length_le (by have := hn'.out; omega)]; rfl)
              go_wp2
              go_ret
              exact ⟨congrArg (fun v => Ending.returned (.string v)) hq.out, hB3.trans (hbt.mono (by omega))⟩
end Go.Proofs.YtajmfonepnkofaaDoor
namespace Go.Proofs.YtajmfonepnkofaaDoor
open Go.RowKit Rg
set_option linter.unusedVariables false
set_option linter.unusedSimpArgs false

namespace Rg
theorem gives_nc {P : Program} {o : Oper} {a : Act} {x : Operand} {p : Addr} (ho : o.op = .nilCheck x) (hx : a.eval x = .pointer (some p)) (w : World) : Gives P o a w (.pointer (some p)) := by
  unfold Gives
  obtain ⟨dst, op', type, pos, after, guard⟩ := o
  simp only at ho
  subst ho
  simp [execOp, hx]
/-- A check of a pointer that is not nil. -/
def AtNil (et : List Tmp) (o : Oper) (a : Act) : Prop := ∃ x p, inT et o = false ∧ o.op = .nilCheck x ∧ a.eval x = .pointer (some p)
theorem wpT_ncw {P : Program} {ops : Array Oper} {S : World → Prop} {et sl : List Tmp} {QT : Act → World → Prop} {o : Oper} {rest : List Oper} {a : Act} {w : World} (hw : o.guard = none ∨ Region.wanted o (yielded ops a.tmps) = true) (h0 : AtNil et o a)
    (h : ∀ K : Act → World → Prop, (∀ a', wpT P ops S et sl QT rest a' w → K a' w) → o.wp P a w K Qf) : wpT P ops S et sl QT (o :: rest) a w := by
  obtain ⟨x, p, het, ho, hx⟩ := h0
  have hw' : Region.wanted o (yielded ops a.tmps) = true := by
    rcases hw with hg | hg
    · simp [Region.wanted, hg]
    · exact hg
  have h1 := h (fun a' w' => w' = w ∧ wpT P ops S et sl QT rest a' w') (fun a' h => ⟨rfl, h⟩)
  have he : isE et o = false := by simp [isE, isEop, ho, het]
  have hr : (execOp a.eval o).run P w = .ok (.value (.pointer (some p))) w := gives_nc ho hx w
  unfold Oper.wp at h1
  rw [hr] at h1
  simp only [Oper.upon] at h1
  exact wpT_sw _ he hw' hr (fun w2 _ => gives_nc ho hx w2) h1.2
end Rg
end Go.Proofs.YtajmfonepnkofaaDoor
namespace Go.Proofs.YtajmfonepnkofaaDoor
open Go.RowKit Rg
set_option linter.unusedVariables false
set_option linter.unusedSimpArgs false

/-- What 'act' leaves: the game in its box, changed in place. -/
def ActPost (bx lo gB gE : Nat) (w : World) (gc : GameT × Int) (e : Ending) (w' : World) : Prop := ∃ (A : Option Addr) (n : Nat),
  e = .returned (.int .i64 gc.2) ∧ Bx3 w' bx (.slice A n n) (.slice (some ⟨gB, 0, none⟩) 16 16) (.slice (some ⟨gE, 0, none⟩) 4 4) 35 ∧ GmO w' lo A n n (some ⟨gB, 0, none⟩) 16 16 (some ⟨gE, 0, none⟩) 4 4 gc.1 ∧ (∀ k, (Value.slice A n n).ownBlock = some k → k ≠ bx) ∧ Below lo w w'
theorem figure_none (A : Option Addr) (n c : Nat) (B : Option Addr) (p d : Nat) (E : Option Addr) (q f lo hi : Nat) (cl : Int) (es : List EntT) (w : World) (hs : RdN 5 (flatR encEnt) w lo hi A n c es) (hhi : hi ≤ w.heap.size) (h : figI es cl = none) :
    Calls Tryd.prog 70 #[.agg #[.slice A n c, .slice B p d, .slice E q f], .int .i64 cl] w fun e w' => e = .returned (.int .i64 (-1)) ∧ Below w.heap.size w w' := by
  have h2 := figure_c A n c B p d E q f (fun _ => True) ([], [], []) cl lo hi es w hs hhi
  rw [h] at h2
  exact h2
theorem figure_some (A : Option Addr) (n c : Nat) (B : Option Addr) (p d : Nat) (E : Option Addr) (q f lo hi : Nat) (cl : Int) (es : List EntT) (w : World) (hs : RdN 5 (flatR encEnt) w lo hi A n c es) (hhi : hi ≤ w.heap.size) (i : Nat) (h : figI es cl = some i) :
    Calls Tryd.prog 70 #[.agg #[.slice A n c, .slice B p d, .slice E q f], .int .i64 cl] w fun e w' => e = .returned (.int .i64 (i : Int)) ∧ Below w.heap.size w w' := by
  have h2 := figure_c A n c B p d E q f (fun _ => True) ([], [], []) cl lo hi es w hs hhi
  rw [h] at h2
  exact h2
theorem GmO.drew {w : World} {lo n gB gE : Nat} {g : GameT} {A : Option Addr} (h : GmO w lo A n n (some ⟨gB, 0, none⟩) 16 16 (some ⟨gE, 0, none⟩) 4 4 g) : GmO w.drew lo A n n (some ⟨gB, 0, none⟩) 16 16 (some ⟨gE, 0, none⟩) 4 4 g := ⟨h.en, h.fl, h.la, h.ab, h.ae, h.be⟩
theorem ActPost.dr {bx lo gB gE : Nat} {w w' : World} {gc : GameT × Int} {e : Ending} (h : ActPost bx lo gB gE w gc e w') : ActPost bx lo gB gE w gc e w'.drew := by
  obtain ⟨A, n, h1, h2, h3, h4, h5⟩ := h
  exact ⟨A, n, h1, h2, h3.drew, h4, h5.drew⟩
theorem ActPost.same {bx lo gB gE n : Nat} {A : Option Addr} {w w' : World} {g : GameT} (code : Int) (h2 : Bx3 w' bx (.slice A n n) (.slice (some ⟨gB, 0, none⟩) 16 16) (.slice (some ⟨gE, 0, none⟩) 4 4) 35) (h3 : GmO w' lo A n n (some ⟨gB, 0, none⟩) 16 16 (some ⟨gE, 0, none⟩) 4 4 g) (h4 : ∀ k, (Value.slice A n n).ownBlock = some k → k ≠ bx) (h5 : Below lo w w') :
    ActPost bx lo gB gE w (g, code) (.returned (.int .i64 code)) w' := ⟨A, n, rfl, h2, h3, h4, h5⟩

set_option maxRecDepth 100000 in
set_option maxHeartbeats 2000000 in
theorem actThere (bx lo gB gE : Nat) (A : Option Addr) (n : Nat) (g : GameT) (r : AskT) (w : World) (hbx : Bx3 w bx (.slice A n n) (.slice (some ⟨gB, 0, none⟩) 16 16) (.slice (some ⟨gE, 0, none⟩) 4 4) 35) (ho : GmO w lo A n n (some ⟨gB, 0, none⟩) 16 16 (some ⟨gE, 0, none⟩) 4 4 g)
    (hlo : lo ≤ bx) (hnA : ∀ k, (Value.slice A n n).ownBlock = some k → k ≠ bx) (hnB : gB ≠ bx) (hnE : gE ≠ bx) (hok : okG' g) (hr : okA r) (k : Nat) (hfi : figI g.1 r.1 = some k) (hop : r.2.2.1 = 1) :
    Calls Tryd.prog 44 #[.pointer (some ⟨bx, 0, none⟩), .agg #[.int .i64 r.1, .int .i64 r.2.1, .int .i64 r.2.2.1, .int .i64 r.2.2.2.1, .int .i64 r.2.2.2.2]] w fun e w' => ActPost bx lo gB gE w (behG g r) e w' := by
  have hA1 := (Below.refl w.heap.size w).alloc (Nat.le_refl _) (.cells #[.int .i64 r.1, .int .i64 r.2.1, .int .i64 r.2.2.1, .int .i64 r.2.2.2.1, .int .i64 r.2.2.2.2] 37)
  have hbr1 := Bx5.made w r 37
  have hbx1 := hbx.below hA1 hbx.lt
  have ho1 := hide (ho.below hA1)
  have hz1 : w.heap.size + 1 ≤ (w.alloc (.cells #[.int .i64 r.1, .int .i64 r.2.1, .int .i64 r.2.2.1, .int .i64 r.2.2.2.1, .int .i64 r.2.2.2.2] 37)).heap.size := by simp only [World.size_alloc]; omega
  have hbl := hbx.lt
  obtain ⟨xx0, xx1, xx2, xf0, xf1, xf2⟩ := hbx1.cells
  obtain ⟨rr0, rr1, rr2, rr3, rr4, -⟩ := hbr1.cells
  have hlx := hbx1.lt
  have hlr := hbr1.lt
  have hn' := hide ho.en.lenEq
  have hn4 : n ≤ 4 := by
    have h3 := inc_len hok.inc (fun e he => (hok.ent e he).1)
    have := hn'.out
    omega
  have hok' := hide hok
  have hrH := hide hr
  have hnA' := hide hnA
  have hoH := hide ho
  clear hok hr ho hbx hnA
  have hh := hide (show behG g r = (g, 4) by unfold behG; rw [hfi]; dsimp only; rw [if_pos hop])
  have hq1 : (r.2.2.1 == 1) = true := by simp [hop]
  clear hop
  go_enter Tryd.func44, Tryd.ntmps44
  go_wp2
  generalize w.alloc (.cells #[.int .i64 r.1, .int .i64 r.2.1, .int .i64 r.2.2.1, .int .i64 r.2.2.2.1, .int .i64 r.2.2.2.2] 37) = w1 at *
  refine wp_region_T (fun _ => True) [] [] [] [0, 1, 2, 3, 4, 5, 6] (by kernel_rfl) (by kernel_rfl) (by kernel_rfl) trivial ?_; simp only [pickL, List.getElem?_cons_succ, List.getElem?_cons_zero]
  go_wp2_with (first
    | (go_at_call 70; refine (figure_some _ n n (some ⟨gB, 0, none⟩) 16 16 (some ⟨gE, 0, none⟩) 4 4 lo w1.heap.size r.1 g.1 w1.drew (show RdN 5 (flatR encEnt) w1.drew lo w1.heap.size _ n n g.1 from Own.rdn (w := w1.drew) encEnt_len ho1.out.en.drew) (Nat.le_refl _) k hfi).mono ?_; rintro e w2 ⟨rfl, hb2⟩; have hb12 : Below w1.heap.size w1 w2 := Below.appR (Below.drew (Below.refl _ _)) hb2; have hbx2 := hbx1.below hb12 hlx; have hbr2 := hbr1.below hb12 hlr; have ho2 := hide (ho1.out.below hb12); have hz2 := hb12.size; have hB2 : Below lo w w2 := (hA1.mono (by omega)).trans (hb12.mono (by omega)); clear xx0 xx1 xx2 xf0 xf1 xf2 rr0 rr1 rr2 rr3 rr4; obtain ⟨xx0, xx1, xx2, xf0, xf1, xf2⟩ := hbx2.cells; obtain ⟨rr0, rr1, rr2, rr3, rr4, -⟩ := hbr2.cells; have hlx2 := hbx2.lt; have hlr2 := hbr2.lt)
    | ((with_reducible refine wpT_noL ?_ ?_); (focus (first | exact wanted_no _ _ _ rfl rfl rfl | exact wanted_un _ _ _ rfl rfl rfl)); simp only [setO, List.set_cons_succ, List.set_cons_zero]) | ((with_reducible refine wpT_q0 ?_ ?_ ?_ ?_); (focus rfl); (focus rfl); (focus rfl); intro K hK) | ((with_reducible refine wpT_i ?_ ?_); (focus (refine ⟨_, _, _, _, _, _, _, _, rfl, rfl, rfl, rfl, rfl, ?_⟩; omega)); intro K hK) | ((with_reducible refine wpT_ncw ?_ ?_ ?_); (focus (first | exact .inl rfl | exact .inr (wanted_yes _ _ _ rfl rfl rfl))); (focus exact ⟨_, _, rfl, rfl, rfl⟩); intro K hK) | ((with_reducible refine wpT_x0 ?_ ?_ ?_); (focus rfl); (focus rfl); intro K hK) | ((with_reducible refine wpT_q1 ?_ ?_ ?_ ?_); (focus exact wanted_yes _ _ _ rfl rfl rfl); (focus rfl); (focus rfl); intro K hK) | ((with_reducible refine wpT_x1 ?_ ?_ ?_); (focus exact wanted_yes _ _ _ rfl rfl rfl); (focus rfl); intro K hK) | ((with_reducible refine wpT_nil ?_); try dsimp only)
    | fail)
  go_ret
  rw [hh.out]
  have hP := ActPost.same 4 hbx2 ho2.out hnA'.out hB2
  (repeat (first | exact hP | refine ActPost.dr ?_))

set_option maxRecDepth 100000 in
set_option maxHeartbeats 2000000 in
theorem actOff (bx lo gB gE : Nat) (A : Option Addr) (n : Nat) (g : GameT) (r : AskT) (w : World) (hbx : Bx3 w bx (.slice A n n) (.slice (some ⟨gB, 0, none⟩) 16 16) (.slice (some ⟨gE, 0, none⟩) 4 4) 35) (ho : GmO w lo A n n (some ⟨gB, 0, none⟩) 16 16 (some ⟨gE, 0, none⟩) 4 4 g)
    (hlo : lo ≤ bx) (hnA : ∀ k, (Value.slice A n n).ownBlock = some k → k ≠ bx) (hnB : gB ≠ bx) (hnE : gE ≠ bx) (hok : okG' g) (hr : okA r) (hfi : figI g.1 r.1 = none) (hop : r.2.2.1 ≠ 1) :
    Calls Tryd.prog 44 #[.pointer (some ⟨bx, 0, none⟩), .agg #[.int .i64 r.1, .int .i64 r.2.1, .int .i64 r.2.2.1, .int .i64 r.2.2.2.1, .int .i64 r.2.2.2.2]] w fun e w' => ActPost bx lo gB gE w (behG g r) e w' := by
  have hA1 := (Below.refl w.heap.size w).alloc (Nat.le_refl _) (.cells #[.int .i64 r.1, .int .i64 r.2.1, .int .i64 r.2.2.1, .int .i64 r.2.2.2.1, .int .i64 r.2.2.2.2] 37)
  have hbr1 := Bx5.made w r 37
  have hbx1 := hbx.below hA1 hbx.lt
  have ho1 := hide (ho.below hA1)
  have hz1 : w.heap.size + 1 ≤ (w.alloc (.cells #[.int .i64 r.1, .int .i64 r.2.1, .int .i64 r.2.2.1, .int .i64 r.2.2.2.1, .int .i64 r.2.2.2.2] 37)).heap.size := by simp only [World.size_alloc]; omega
  have hbl := hbx.lt
  obtain ⟨xx0, xx1, xx2, xf0, xf1, xf2⟩ := hbx1.cells
  obtain ⟨rr0, rr1, rr2, rr3, rr4, -⟩ := hbr1.cells
  have hlx := hbx1.lt
  have hlr := hbr1.lt
  have hn' := hide ho.en.lenEq
  have hn4 : n ≤ 4 := by
    have h3 := inc_len hok.inc (fun e he => (hok.ent e he).1)
    have := hn'.out
    omega
  have hok' := hide hok
  have hrH := hide hr
  have hnA' := hide hnA
  have hoH := hide ho
  clear hok hr ho hbx hnA
  have hh := hide (show behG g r = (g, 5) by unfold behG; rw [hfi]; dsimp only; rw [if_neg hop])
  have hq1 : (r.2.2.1 == 1) = false := by simp [hop]
  clear hop
  go_enter Tryd.func44, Tryd.ntmps44
  go_wp2
  generalize w.alloc (.cells #[.int .i64 r.1, .int .i64 r.2.1, .int .i64 r.2.2.1, .int .i64 r.2.2.2.1, .int .i64 r.2.2.2.2] 37) = w1 at *
  refine wp_region_T (fun _ => True) [] [] [] [0, 1, 2, 3, 4, 5, 6] (by kernel_rfl) (by kernel_rfl) (by kernel_rfl) trivial ?_; simp only [pickL, List.getElem?_cons_succ, List.getElem?_cons_zero]
  go_wp2_with (first
    | (go_at_call 70; refine (figure_none _ n n (some ⟨gB, 0, none⟩) 16 16 (some ⟨gE, 0, none⟩) 4 4 lo w1.heap.size r.1 g.1 w1.drew (show RdN 5 (flatR encEnt) w1.drew lo w1.heap.size _ n n g.1 from Own.rdn (w := w1.drew) encEnt_len ho1.out.en.drew) (Nat.le_refl _) hfi).mono ?_; rintro e w2 ⟨rfl, hb2⟩; have hb12 : Below w1.heap.size w1 w2 := Below.appR (Below.drew (Below.refl _ _)) hb2; have hbx2 := hbx1.below hb12 hlx; have hbr2 := hbr1.below hb12 hlr; have ho2 := hide (ho1.out.below hb12); have hz2 := hb12.size; have hB2 : Below lo w w2 := (hA1.mono (by omega)).trans (hb12.mono (by omega)); clear xx0 xx1 xx2 xf0 xf1 xf2 rr0 rr1 rr2 rr3 rr4; obtain ⟨xx0, xx1, xx2, xf0, xf1, xf2⟩ := hbx2.cells; obtain ⟨rr0, rr1, rr2, rr3, rr4, -⟩ := hbr2.cells; have hlx2 := hbx2.lt; have hlr2 := hbr2.lt)
    | ((with_reducible refine wpT_noL ?_ ?_); (focus (first | exact wanted_no _ _ _ rfl rfl rfl | exact wanted_un _ _ _ rfl rfl rfl)); simp only [setO, List.set_cons_succ, List.set_cons_zero]) | ((with_reducible refine wpT_q0 ?_ ?_ ?_ ?_); (focus rfl); (focus rfl); (focus rfl); intro K hK) | ((with_reducible refine wpT_i ?_ ?_); (focus (refine ⟨_, _, _, _, _, _, _, _, rfl, rfl, rfl, rfl, rfl, ?_⟩; omega)); intro K hK) | ((with_reducible refine wpT_ncw ?_ ?_ ?_); (focus (first | exact .inl rfl | exact .inr (wanted_yes _ _ _ rfl rfl rfl))); (focus exact ⟨_, _, rfl, rfl, rfl⟩); intro K hK) | ((with_reducible refine wpT_x0 ?_ ?_ ?_); (focus rfl); (focus rfl); intro K hK) | ((with_reducible refine wpT_q1 ?_ ?_ ?_ ?_); (focus exact wanted_yes _ _ _ rfl rfl rfl); (focus rfl); (focus rfl); intro K hK) | ((with_reducible refine wpT_x1 ?_ ?_ ?_); (focus exact wanted_yes _ _ _ rfl rfl rfl); (focus rfl); intro K hK) | ((with_reducible refine wpT_nil ?_); try dsimp only)
    | fail)
  go_ret
  rw [hh.out]
  have hP := ActPost.same 5 hbx2 ho2.out hnA'.out hB2
  (repeat (first | exact hP | refine ActPost.dr ?_))
end Go.Proofs.YtajmfonepnkofaaDoor
namespace Go.Proofs.YtajmfonepnkofaaDoor
open Go.RowKit Rg
set_option linter.unusedVariables false
set_option linter.unusedSimpArgs false

section
variable {w : World} {lo gA gB gE n : Nat} {g : GameT}
theorem GmO.sep (h : GmO w lo (some ⟨gA, 0, none⟩) n n (some ⟨gB, 0, none⟩) 16 16 (some ⟨gE, 0, none⟩) 4 4 g) : gA ≠ gB ∧ gA ≠ gE ∧ gB ≠ gE :=
  ⟨fun e => h.ab gA rfl (by simp [Value.ownBlock, e]), fun e => h.ae gA rfl (by simp [Value.ownBlock, e]), fun e => h.be gB rfl (by simp [Value.ownBlock, e])⟩
theorem GmO.putE (h : GmO w lo (some ⟨gA, 0, none⟩) n n (some ⟨gB, 0, none⟩) 16 16 (some ⟨gE, 0, none⟩) 4 4 g) {k : Nat} (hk : k < g.1.length) (x : EntT) (j : Nat) (hj : j < 5) (u : Value) (hx : encEnt x = (encEnt g.1[k]).set j u) :
    GmO (w.setCell ⟨gA, k * 5 + j, none⟩ u) lo (some ⟨gA, 0, none⟩) n n (some ⟨gB, 0, none⟩) 16 16 (some ⟨gE, 0, none⟩) 4 4 (g.1.set k x, g.2.1, g.2.2) :=
  ⟨h.en.put1 encEnt_len hk x j hj u hx, h.fl.keep (fun b hb => ne_set _ (by simp [Value.ownBlock] at hb; have := h.sep; omega)), h.la.keep (fun b hb => ne_set _ (by simp [Value.ownBlock] at hb; have := h.sep; omega)), h.ab, h.ae, h.be⟩
theorem GmO.putF {A : Option Addr} (h : GmO w lo A n n (some ⟨gB, 0, none⟩) 16 16 (some ⟨gE, 0, none⟩) 4 4 g) {s : Nat} (hs : s < g.2.1.length) (u : Int) :
    GmO (w.setCell ⟨gB, s, none⟩ (.int .i64 u)) lo A n n (some ⟨gB, 0, none⟩) 16 16 (some ⟨gE, 0, none⟩) 4 4 (g.1, g.2.1.set s u, g.2.2) := by
  have h1 := h.fl.put1 encI_len hs u 0 (by omega) (.int .i64 u) rfl
  rw [Nat.mul_one, Nat.add_zero] at h1
  have hbe : gB ≠ gE := fun e => h.be gB rfl (by simp [Value.ownBlock, e])
  exact ⟨h.en.keep (fun b hb => ne_set _ (fun e => h.ab b hb (by simp [Value.ownBlock, e]))), h1, h.la.keep (fun b hb => ne_set _ (by simp [Value.ownBlock] at hb; omega)), h.ab, h.ae, h.be⟩
end
theorem floor0_c (A : Option Addr) (n c : Nat) (g1 d : Nat) (E : Option Addr) (q f : Nat) (t : EntT) (w : World) (ht : smallE t) (s : Nat) (hs : sqr t = s) :
    Calls Tryd.prog 72 #[.agg #[.slice A n c, .slice (some ⟨g1, 0, none⟩) 16 d, .slice E q f], .agg #[.int .i64 t.1, .int .i64 t.2.1, .int .i64 t.2.2.1, .int .i64 t.2.2.2.1, .int .i64 t.2.2.2.2]] w fun e w' => e = .returned (.pointer (some ⟨g1, s, none⟩)) ∧ Below w.heap.size w w' := by
  have h := floor_c A n c g1 0 d E q f t w ht
  rw [Nat.zero_add, hs] at h
  exact h

set_option maxRecDepth 100000 in
set_option maxHeartbeats 2000000 in
theorem actMove (bx lo gB gE : Nat) (A : Option Addr) (n : Nat) (g : GameT) (r : AskT) (w : World) (hbx : Bx3 w bx (.slice A n n) (.slice (some ⟨gB, 0, none⟩) 16 16) (.slice (some ⟨gE, 0, none⟩) 4 4) 35) (ho : GmO w lo A n n (some ⟨gB, 0, none⟩) 16 16 (some ⟨gE, 0, none⟩) 4 4 g)
    (hlo : lo ≤ bx) (hnA : ∀ k, (Value.slice A n n).ownBlock = some k → k ≠ bx) (hnB : gB ≠ bx) (hnE : gE ≠ bx) (hok : okG' g) (hr : okA r) (k : Nat) (hfi : figI g.1 r.1 = some k) (hop : r.2.2.1 = 2) :
    Calls Tryd.prog 44 #[.pointer (some ⟨bx, 0, none⟩), .agg #[.int .i64 r.1, .int .i64 r.2.1, .int .i64 r.2.2.1, .int .i64 r.2.2.2.1, .int .i64 r.2.2.2.2]] w fun e w' => ActPost bx lo gB gE w (behG g r) e w' := by
  have hA1 := (Below.refl w.heap.size w).alloc (Nat.le_refl _) (.cells #[.int .i64 r.1, .int .i64 r.2.1, .int .i64 r.2.2.1, .int .i64 r.2.2.2.1, .int .i64 r.2.2.2.2] 37)
  have hbr1 := Bx5.made w r 37
  have hbx1 := hbx.below hA1 hbx.lt
  have ho1 := hide (ho.below hA1)
  have hz1 : w.heap.size + 1 ≤ (w.alloc (.cells #[.int .i64 r.1, .int .i64 r.2.1, .int .i64 r.2.2.1, .int .i64 r.2.2.2.1, .int .i64 r.2.2.2.2] 37)).heap.size := by simp only [World.size_alloc]; omega
  have hbl := hbx.lt
  obtain ⟨xx0, xx1, xx2, xf0, xf1, xf2⟩ := hbx1.cells
  obtain ⟨rr0, rr1, rr2, rr3, rr4, -⟩ := hbr1.cells
  have hlx := hbx1.lt
  have hlr := hbr1.lt
  have hn' := hide ho.en.lenEq
  have hn4 : n ≤ 4 := by
    have h3 := inc_len hok.inc (fun e he => (hok.ent e he).1)
    have := hn'.out
    omega
  have hok' := hide hok
  have hrH := hide hr
  have hnA' := hide hnA
  have hoH := hide ho
  clear hok hr ho hbx hnA
  have hq1 : (r.2.2.1 == 1) = false := by simp [hop]
  have hq2 : (r.2.2.1 == 2) = true := by simp [hop]
  have hrx : -1 ≤ r.2.2.2.1 ∧ r.2.2.2.1 ≤ 1 ∧ -1 ≤ r.2.2.2.2 ∧ r.2.2.2.2 ≤ 1 := by have := hrH.out; unfold okA rng at this; omega
  have hopp := hide hop
  clear hop
  have hk := figI_lt hfi
  have hkn : k < n := by have := hn'.out; omega
  obtain ⟨gA, rfl, hgA1, hgA2⟩ := ho1.out.en.addrAt (show 0 < n by omega)
  have hAx : gA ≠ bx := hnA'.out gA rfl
  obtain ⟨hAB, hAE, hBE⟩ := ho1.out.sep
  have hAw := (hoH.out.en.lt gA rfl).2
  have hBw := (hoH.out.fl.lt gB rfl).2
  have hAw1 : ¬ w.heap.size = gA := by omega
  have hAw2 : ¬ gA = w.heap.size := by omega
  have hBw1 : ¬ w.heap.size = gB := by omega
  have hBw2 : ¬ gB = w.heap.size := by omega
  have hek := (okG'.full hok'.out).ent _ (List.getElem_mem hk)
  unfold entOk rng at hek
  have hk0 : decide ((k : Int) < 0) = false := by simp <;> omega
  cases hq6 : (inB (g.1[k].2.1 + r.2.2.2.1) 0 3 && inB (g.1[k].2.2.1 + r.2.2.2.2) 0 3)
  · have hh := hide (show behG g r = (g, 6) by
      unfold behG actG; rw [hfi]; simp only [hopp.out, getD_at hk]; simp only [show ¬ (2 : Int) = 1 by decide, if_false, if_true]
      rw [if_neg]; rintro ⟨h1, h2⟩; unfold rng at h1 h2; simp [inB] at hq6; omega)
    go_enter Tryd.func44, Tryd.ntmps44
    go_wp2
    generalize w.alloc (.cells #[.int .i64 r.1, .int .i64 r.2.1, .int .i64 r.2.2.1, .int .i64 r.2.2.2.1, .int .i64 r.2.2.2.2] 37) = w1 at *
    refine wp_region_T (fun _ => True) [] [] [] [0, 1, 2, 3, 4, 5, 6] (by kernel_rfl) (by kernel_rfl) (by kernel_rfl) trivial ?_; simp only [pickL, List.getElem?_cons_succ, List.getElem?_cons_zero]
    go_wp2_with (first
      | (go_at_call 70; refine (figure_some _ n n (some ⟨gB, 0, none⟩) 16 16 (some ⟨gE, 0, none⟩) 4 4 lo w1.heap.size r.1 g.1 w1.drew (show RdN 5 (flatR encEnt) w1.drew lo w1.heap.size _ n n g.1 from Own.rdn (w := w1.drew) encEnt_len ho1.out.en.drew) (Nat.le_refl _) k hfi).mono ?_; rintro e w2 ⟨rfl, hb2⟩; have hb12 : Below w1.heap.size w1 w2 := Below.appR (Below.drew (Below.refl _ _)) hb2; have hbx2 := hbx1.below hb12 hlx; have hbr2 := hbr1.below hb12 hlr; have ho2 := hide (ho1.out.below hb12); have hz2 := hb12.size; have hB2 : Below lo w w2 := (hA1.mono (by omega)).trans (hb12.mono (by omega)); clear xx0 xx1 xx2 xf0 xf1 xf2 rr0 rr1 rr2 rr3 rr4; obtain ⟨xx0, xx1, xx2, xf0, xf1, xf2⟩ := hbx2.cells; obtain ⟨rr0, rr1, rr2, rr3, rr4, -⟩ := hbr2.cells; have hlx2 := hbx2.lt; have hlr2 := hbr2.lt)
      | ((with_reducible refine wpT_noL ?_ ?_); (focus (first | exact wanted_no _ _ _ rfl rfl rfl | exact wanted_un _ _ _ rfl rfl rfl)); simp only [setO, List.set_cons_succ, List.set_cons_zero]) | ((with_reducible refine wpT_q0 ?_ ?_ ?_ ?_); (focus rfl); (focus rfl); (focus rfl); intro K hK) | ((with_reducible refine wpT_i ?_ ?_); (focus (refine ⟨_, _, _, _, _, _, _, _, rfl, rfl, rfl, rfl, rfl, ?_⟩; omega)); intro K hK) | ((with_reducible refine wpT_ncw ?_ ?_ ?_); (focus (first | exact .inl rfl | exact .inr (wanted_yes _ _ _ rfl rfl rfl))); (focus exact ⟨_, _, rfl, rfl, rfl⟩); intro K hK) | ((with_reducible refine wpT_x0 ?_ ?_ ?_); (focus rfl); (focus rfl); intro K hK) | ((with_reducible refine wpT_q1 ?_ ?_ ?_ ?_); (focus exact wanted_yes _ _ _ rfl rfl rfl); (focus rfl); (focus rfl); intro K hK) | ((with_reducible refine wpT_x1 ?_ ?_ ?_); (focus exact wanted_yes _ _ _ rfl rfl rfl); (focus rfl); intro K hK) | ((with_reducible refine wpT_nil ?_); try dsimp only)
      | fail)
    obtain ⟨d0, d1, d2, d3, d4⟩ := (ho2.out.en.slAt encEnt_len).2.2.getEnt hk
    simp only [Nat.zero_add] at d0 d1 d2 d3 d4
    have df0 := ho2.out.en.frozen (k * 5)
    have df1 := ho2.out.en.frozen (k * 5 + 1)
    have df2 := ho2.out.en.frozen (k * 5 + 2)
    have df3 := ho2.out.en.frozen (k * 5 + 3)
    have df4 := ho2.out.en.frozen (k * 5 + 4)
    have hgA3 := (ho2.out.en.lt gA rfl).2
    go_wp2
    refine wp_region_T (fun _ => True) [] [] [] [0, 1, 2, 3, 4, 5, 6, 7, 8, 9, 10, 11, 12, 13, 14, 15] (by kernel_rfl) (by kernel_rfl) (by kernel_rfl) trivial ?_; simp only [pickL, List.getElem?_cons_succ, List.getElem?_cons_zero]
    go_wp2_with (first
      | (go_at_call 55; refine (onBoard_c _ _ _).mono ?_; rintro e _ ⟨rfl, rfl⟩; simp only [hq6])
      | ((with_reducible refine wpT_noL ?_ ?_); (focus (first | exact wanted_no _ _ _ rfl rfl rfl | exact wanted_un _ _ _ rfl rfl rfl)); simp only [setO, List.set_cons_succ, List.set_cons_zero]) | ((with_reducible refine wpT_q0 ?_ ?_ ?_ ?_); (focus rfl); (focus rfl); (focus rfl); intro K hK) | ((with_reducible refine wpT_i ?_ ?_); (focus (refine ⟨_, _, _, _, _, _, _, _, rfl, rfl, rfl, rfl, rfl, ?_⟩; omega)); intro K hK) | ((with_reducible refine wpT_ncw ?_ ?_ ?_); (focus (first | exact .inl rfl | exact .inr (wanted_yes _ _ _ rfl rfl rfl))); (focus exact ⟨_, _, rfl, rfl, rfl⟩); intro K hK) | ((with_reducible refine wpT_x0 ?_ ?_ ?_); (focus rfl); (focus rfl); intro K hK) | ((with_reducible refine wpT_q1 ?_ ?_ ?_ ?_); (focus exact wanted_yes _ _ _ rfl rfl rfl); (focus rfl); (focus rfl); intro K hK) | ((with_reducible refine wpT_x1 ?_ ?_ ?_); (focus exact wanted_yes _ _ _ rfl rfl rfl); (focus rfl); intro K hK) | ((with_reducible refine wpT_nil ?_); try dsimp only)
      | fail)
    go_ret
    rw [hh.out]
    have hP := ActPost.same 6 hbx2 ho2.out hnA'.out hB2
    (repeat (first | exact hP | refine ActPost.dr ?_))
  · have hh := hide (show behG g r = ((g.1.set k (g.1[k].1, g.1[k].2.1 + r.2.2.2.1, g.1[k].2.2.1 + r.2.2.2.2, g.1[k].2.2.2.1, g.1[k].2.2.2.2), g.2.1, g.2.2), 0) by
      unfold behG actG; rw [hfi]; simp only [hopp.out, getD_at hk]; simp only [show ¬ (2 : Int) = 1 by decide, if_false, if_true]
      rw [if_pos]
      · rfl
      · simp [inB] at hq6; unfold rng; omega)
    go_enter Tryd.func44, Tryd.ntmps44
    go_wp2
    generalize w.alloc (.cells #[.int .i64 r.1, .int .i64 r.2.1, .int .i64 r.2.2.1, .int .i64 r.2.2.2.1, .int .i64 r.2.2.2.2] 37) = w1 at *
    refine wp_region_T (fun _ => True) [] [] [] [0, 1, 2, 3, 4, 5, 6] (by kernel_rfl) (by kernel_rfl) (by kernel_rfl) trivial ?_; simp only [pickL, List.getElem?_cons_succ, List.getElem?_cons_zero]
    go_wp2_with (first
      | (go_at_call 70; refine (figure_some _ n n (some ⟨gB, 0, none⟩) 16 16 (some ⟨gE, 0, none⟩) 4 4 lo w1.heap.size r.1 g.1 w1.drew (show RdN 5 (flatR encEnt) w1.drew lo w1.heap.size _ n n g.1 from Own.rdn (w := w1.drew) encEnt_len ho1.out.en.drew) (Nat.le_refl _) k hfi).mono ?_; rintro e w2 ⟨rfl, hb2⟩; have hb12 : Below w1.heap.size w1 w2 := Below.appR (Below.drew (Below.refl _ _)) hb2; have hbx2 := hbx1.below hb12 hlx; have hbr2 := hbr1.below hb12 hlr; have ho2 := hide (ho1.out.below hb12); have hz2 := hb12.size; have hB2 : Below lo w w2 := (hA1.mono (by omega)).trans (hb12.mono (by omega)); clear xx0 xx1 xx2 xf0 xf1 xf2 rr0 rr1 rr2 rr3 rr4; obtain ⟨xx0, xx1, xx2, xf0, xf1, xf2⟩ := hbx2.cells; obtain ⟨rr0, rr1, rr2, rr3, rr4, -⟩ := hbr2.cells; have hlx2 := hbx2.lt; have hlr2 := hbr2.lt)
      | ((with_reducible refine wpT_noL ?_ ?_); (focus (first | exact wanted_no _ _ _ rfl rfl rfl | exact wanted_un _ _ _ rfl rfl rfl)); simp only [setO, List.set_cons_succ, List.set_cons_zero]) | ((with_reducible refine wpT_q0 ?_ ?_ ?_ ?_); (focus rfl); (focus rfl); (focus rfl); intro K hK) | ((with_reducible refine wpT_i ?_ ?_); (focus (refine ⟨_, _, _, _, _, _, _, _, rfl, rfl, rfl, rfl, rfl, ?_⟩; omega)); intro K hK) | ((with_reducible refine wpT_ncw ?_ ?_ ?_); (focus (first | exact .inl rfl | exact .inr (wanted_yes _ _ _ rfl rfl rfl))); (focus exact ⟨_, _, rfl, rfl, rfl⟩); intro K hK) | ((with_reducible refine wpT_x0 ?_ ?_ ?_); (focus rfl); (focus rfl); intro K hK) | ((with_reducible refine wpT_q1 ?_ ?_ ?_ ?_); (focus exact wanted_yes _ _ _ rfl rfl rfl); (focus rfl); (focus rfl); intro K hK) | ((with_reducible refine wpT_x1 ?_ ?_ ?_); (focus exact wanted_yes _ _ _ rfl rfl rfl); (focus rfl); intro K hK) | ((with_reducible refine wpT_nil ?_); try dsimp only)
      | fail)
    obtain ⟨d0, d1, d2, d3, d4⟩ := (ho2.out.en.slAt encEnt_len).2.2.getEnt hk
    simp only [Nat.zero_add] at d0 d1 d2 d3 d4
    have df0 := ho2.out.en.frozen (k * 5)
    have df1 := ho2.out.en.frozen (k * 5 + 1)
    have df2 := ho2.out.en.frozen (k * 5 + 2)
    have df3 := ho2.out.en.frozen (k * 5 + 3)
    have df4 := ho2.out.en.frozen (k * 5 + 4)
    have hgA3 := (ho2.out.en.lt gA rfl).2
    go_wp2
    refine wp_region_T (fun _ => True) [] [] [] [0, 1, 2, 3, 4, 5, 6, 7, 8, 9, 10, 11, 12, 13, 14, 15] (by kernel_rfl) (by kernel_rfl) (by kernel_rfl) trivial ?_; simp only [pickL, List.getElem?_cons_succ, List.getElem?_cons_zero]
    go_wp2_with (first
      | (go_at_call 55; refine (onBoard_c _ _ _).mono ?_; rintro e _ ⟨rfl, rfl⟩; simp only [hq6])
      | ((with_reducible refine wpT_noL ?_ ?_); (focus (first | exact wanted_no _ _ _ rfl rfl rfl | exact wanted_un _ _ _ rfl rfl rfl)); simp only [setO, List.set_cons_succ, List.set_cons_zero]) | ((with_reducible refine wpT_q0 ?_ ?_ ?_ ?_); (focus rfl); (focus rfl); (focus rfl); intro K hK) | ((with_reducible refine wpT_i ?_ ?_); (focus (refine ⟨_, _, _, _, _, _, _, _, rfl, rfl, rfl, rfl, rfl, ?_⟩; omega)); intro K hK) | ((with_reducible refine wpT_ncw ?_ ?_ ?_); (focus (first | exact .inl rfl | exact .inr (wanted_yes _ _ _ rfl rfl rfl))); (focus exact ⟨_, _, rfl, rfl, rfl⟩); intro K hK) | ((with_reducible refine wpT_x0 ?_ ?_ ?_); (focus rfl); (focus rfl); intro K hK) | ((with_reducible refine wpT_q1 ?_ ?_ ?_ ?_); (focus exact wanted_yes _ _ _ rfl rfl rfl); (focus rfl); (focus rfl); intro K hK) | ((with_reducible refine wpT_x1 ?_ ?_ ?_); (focus exact wanted_yes _ _ _ rfl rfl rfl); (focus rfl); intro K hK) | ((with_reducible refine wpT_nil ?_); try dsimp only)
      | fail)
    refine wp_region_T (fun _ => True) [] [] [] [0, 1, 2, 3, 4, 5, 6, 7, 8, 9] (by kernel_rfl) (by kernel_rfl) (by kernel_rfl) trivial ?_; simp only [pickL, List.getElem?_cons_succ, List.getElem?_cons_zero]
    go_wp2_with (first
      | ((with_reducible refine wpT_noL ?_ ?_); (focus (first | exact wanted_no _ _ _ rfl rfl rfl | exact wanted_un _ _ _ rfl rfl rfl)); simp only [setO, List.set_cons_succ, List.set_cons_zero]) | ((with_reducible refine wpT_q0 ?_ ?_ ?_ ?_); (focus rfl); (focus rfl); (focus rfl); intro K hK) | ((with_reducible refine wpT_i ?_ ?_); (focus (refine ⟨_, _, _, _, _, _, _, _, rfl, rfl, rfl, rfl, rfl, ?_⟩; omega)); intro K hK) | ((with_reducible refine wpT_ncw ?_ ?_ ?_); (focus (first | exact .inl rfl | exact .inr (wanted_yes _ _ _ rfl rfl rfl))); (focus exact ⟨_, _, rfl, rfl, rfl⟩); intro K hK) | ((with_reducible refine wpT_x0 ?_ ?_ ?_); (focus rfl); (focus rfl); intro K hK) | ((with_reducible refine wpT_q1 ?_ ?_ ?_ ?_); (focus exact wanted_yes _ _ _ rfl rfl rfl); (focus rfl); (focus rfl); intro K hK) | ((with_reducible refine wpT_x1 ?_ ?_ ?_); (focus exact wanted_yes _ _ _ rfl rfl rfl); (focus rfl); intro K hK) | ((with_reducible refine wpT_nil ?_); try dsimp only)
      | fail)
    refine wp_region_T (fun _ => True) [] [] [] [0, 1, 2, 3, 4, 5, 6, 7, 8, 9] (by kernel_rfl) (by kernel_rfl) (by kernel_rfl) trivial ?_; simp only [pickL, List.getElem?_cons_succ, List.getElem?_cons_zero]
    go_wp2_with (first
      | ((with_reducible refine wpT_noL ?_ ?_); (focus (first | exact wanted_no _ _ _ rfl rfl rfl | exact wanted_un _ _ _ rfl rfl rfl)); simp only [setO, List.set_cons_succ, List.set_cons_zero]) | ((with_reducible refine wpT_q0 ?_ ?_ ?_ ?_); (focus rfl); (focus rfl); (focus rfl); intro K hK) | ((with_reducible refine wpT_i ?_ ?_); (focus (refine ⟨_, _, _, _, _, _, _, _, rfl, rfl, rfl, rfl, rfl, ?_⟩; omega)); intro K hK) | ((with_reducible refine wpT_ncw ?_ ?_ ?_); (focus (first | exact .inl rfl | exact .inr (wanted_yes _ _ _ rfl rfl rfl))); (focus exact ⟨_, _, rfl, rfl, rfl⟩); intro K hK) | ((with_reducible refine wpT_x0 ?_ ?_ ?_); (focus rfl); (focus rfl); intro K hK) | ((with_reducible refine wpT_q1 ?_ ?_ ?_ ?_); (focus exact wanted_yes _ _ _ rfl rfl rfl); (focus rfl); (focus rfl); intro K hK) | ((with_reducible refine wpT_x1 ?_ ?_ ?_); (focus exact wanted_yes _ _ _ rfl rfl rfl); (focus rfl); intro K hK) | ((with_reducible refine wpT_nil ?_); try dsimp only)
      | fail)
    go_ret
    rw [hh.out]
    have hp1 := ho2.out.putE hk (g.1[k].1, g.1[k].2.1 + r.2.2.2.1, g.1[k].2.2.1, g.1[k].2.2.2.1, g.1[k].2.2.2.2) 1 (by omega) (.int .i64 (g.1[k].2.1 + r.2.2.2.1)) rfl
    have hp2 := hp1.putE (k := k) (by simpa using hk) (g.1[k].1, g.1[k].2.1 + r.2.2.2.1, g.1[k].2.2.1 + r.2.2.2.2, g.1[k].2.2.2.1, g.1[k].2.2.2.2) 2 (by omega) (.int .i64 (g.1[k].2.2.1 + r.2.2.2.2)) (by simp only [List.getElem_set_self]; rfl)
    simp only [List.set_set] at hp2
    have hb9 := (hbx2.keep (ne_set (i := k * 5 + 1) (.int .i64 (g.1[k].2.1 + r.2.2.2.1)) (Ne.symm hAx))).keep (ne_set (i := k * 5 + 2) (.int .i64 (g.1[k].2.2.1 + r.2.2.2.2)) (Ne.symm hAx))
    have hP : ActPost bx lo gB gE w ((g.1.set k (g.1[k].1, g.1[k].2.1 + r.2.2.2.1, g.1[k].2.2.1 + r.2.2.2.2, g.1[k].2.2.2.1, g.1[k].2.2.2.2), g.2.1, g.2.2), 0) (.returned (.int .i64 0)) ((w2.setCell ⟨gA, k * 5 + 1, none⟩ (.int .i64 (g.1[k].2.1 + r.2.2.2.1))).setCell ⟨gA, k * 5 + 2, none⟩ (.int .i64 (g.1[k].2.2.1 + r.2.2.2.2))) :=
      ⟨some ⟨gA, 0, none⟩, n, rfl, hb9, hp2, hnA'.out, (hB2.setCell (p := ⟨gA, k * 5 + 1, none⟩) hgA1 _).setCell (p := ⟨gA, k * 5 + 2, none⟩) hgA1 _⟩
    (repeat (first | exact hP | refine ActPost.dr ?_))
end Go.Proofs.YtajmfonepnkofaaDoor
