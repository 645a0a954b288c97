/-
  CRC-32 in both packages: 'l7Crc', 'Crc'.
-/
import Derived.Test.YtajmfonepnkofaaDoorPW
import Derived.Test.YtajmfonepnkofaaDoorDR
namespace Go.Proofs.YtajmfonepnkofaaDoor
open Go.RowKit Rg
set_option linter.unusedVariables false
set_option linter.unusedSimpArgs false

theorem str_get (s : ByteArray) (k : Nat) (h : k < s.size) : s.data.toList.take (k + 1) = s.data.toList.take k ++ [s[k]] := by
  have hl : k < s.data.toList.length := by simpa using h
  rw [List.take_succ_eq_append_getElem hl]
  rfl
theorem crc_snoc (c : Nat) (s : ByteArray) (k : Nat) (h : k < s.size) : crcF c (s.data.toList.take (k + 1)) = crcB (crcF c (s.data.toList.take k)) s[k].toNat := by
  rw [str_get s k h, crcF_append]
  rfl
theorem wrap_u32_small (n : Nat) (h : n < 4294967296) : IntKind.u32.wrap (n : Int) = (n : Int) := by
  have e : (n : Int) % 4294967296 = (n : Int) := by omega
  show (if false && decide ((n : Int) % 4294967296 ≥ 2147483648) then (n : Int) % 4294967296 - 4294967296 else (n : Int) % 4294967296) = (n : Int)
  rw [e]; simp
theorem bv32 (a : Nat) (h : a < 4294967296) : (BitVec.ofInt 32 (a : Int)).toNat = a := by
  rw [BitVec.ofInt_natCast, BitVec.toNat_ofNat]; exact Nat.mod_eq_of_lt (by omega)
theorem xor_u32 (a b : Nat) (ha : a < 4294967296) (hb : b < 4294967296) : bits .xor .u32 (a : Int) (b : Int) = ((a ^^^ b : Nat) : Int) := by
  have hx : a ^^^ b < 2 ^ 32 := Nat.xor_lt_two_pow (by omega) (by omega)
  show IntKind.u32.wrap ((BitVec.ofInt 32 (a : Int) ^^^ BitVec.ofInt 32 (b : Int)).toNat : Int) = _
  rw [BitVec.toNat_xor, bv32 a ha, bv32 b hb, wrap_u32_small _ (by omega)]
theorem and_u32 (a : Nat) (ha : a < 4294967296) : bits .and .u32 (a : Int) 1 = ((a % 2 : Nat) : Int) := by
  show IntKind.u32.wrap ((BitVec.ofInt 32 (a : Int) &&& BitVec.ofInt 32 ((1 : Nat) : Int)).toNat : Int) = _
  rw [BitVec.toNat_and, bv32 a ha, bv32 1 (by omega), Nat.and_one_is_mod, wrap_u32_small _ (by omega)]
set_option maxHeartbeats 1000000 in
theorem l7Crc_c (s : ByteArray) (w : World) (hs : s.size ≤ 1048576) :
    Calls Tryd.prog 25 #[.string s] w fun e w' => e = .returned (.int .i64 (crcN s.data.toList : Int)) ∧ w = w' := by
  go_enter Tryd.func25, Tryd.ntmps25
  go_wp2
  go_loop [3, 4] (fun cv i => ∃ k : Nat, k ≤ s.size ∧ i = .int .i64 k ∧ cv = .int .i64 (crcF 4294967295 (s.data.toList.take k) : Int)) (fun _ i => s.size - (intOf i).toNat)
  case atStart => exact ⟨0, Nat.zero_le _, rfl, rfl⟩
  case round =>
    obtain ⟨k, hk, rfl, rfl⟩ := hrel
    by_cases hlt : k < s.size
    · have hc := crc_snoc 4294967295 s k hlt
      have hC : crcF 4294967295 (s.data.toList.take k) < 4294967296 := crcF_lt _ (by omega)
      generalize crcF 4294967295 (s.data.toList.take k) = C at *
      have hb : s[k].toNat < 256 := s[k].toNat_lt
      have hx0 := hide (xor_i64 (C : Int) (s[k].toNat : Int) (by omega) (by omega) (by omega) (by omega))
      have hD : C ^^^ s[k].toNat < 4294967296 := Nat.xor_lt_two_pow (n := 32) hC (by omega)
      have hc' := hide hc
      clear hc
      go_wp2
      go_loop [3, 5] (fun cv i => ∃ j E : Nat, j ≤ 8 ∧ i = .int .i64 j ∧ cv = .int .i64 (E : Int) ∧ E < 4294967296 ∧ Hid (crcK (8 - j) E = crcB C s[k].toNat)) (fun _ i => 8 - (intOf i).toNat)
      case atStart => exact ⟨0, C ^^^ s[k].toNat, by omega, rfl, congrArg (Value.int .i64) hx0.out, hD, hide rfl⟩
      case round =>
        obtain ⟨j, E, hj, rfl, rfl, hE, hk8⟩ := hrel
        by_cases hj8 : j < 8
        · have e8 : 8 - j = (8 - (j + 1)) + 1 := by omega
          have hk9 := hk8.out
          rw [e8] at hk9
          have hk9' := hide hk9
          clear hk9 e8
          by_cases hodd : E % 2 = 1
          · have hx1 := hide (xor_i64 ((E / 2 : Nat) : Int) 3988292384 (by omega) (by omega) (by omega) (by omega))
            have hc1 : Hid (crc1 E = (E / 2) ^^^ 3988292384) := hide (by rw [crc1, if_pos hodd])
            go_wp2
            go_round
            case rel => exact ⟨j + 1, crc1 E, by omega, by go_num, congrArg (Value.int .i64) (hx1.out.trans (by rw [hc1.out]; rfl)), crc1_lt hE, hide hk9'.out⟩
            case measure => simp [intOf]; omega
          · have hc1 : Hid (crc1 E = E / 2) := hide (by rw [crc1, if_neg hodd])
            go_wp2
            go_round
            case rel => exact ⟨j + 1, crc1 E, by omega, by go_num, by rw [hc1.out]; rfl, crc1_lt hE, hide hk9'.out⟩
            case measure => simp [intOf]; omega
        · obtain rfl : j = 8 := by omega
          go_wp2
          go_round
          case rel => exact ⟨k + 1, by omega, by go_num, by rw [hc'.out, ← hk8.out]; rfl⟩
          case measure => simp [intOf]; omega
    · obtain rfl : k = s.size := by omega
      have hf : Hid (s.data.toList.take s.size = s.data.toList) := hide (List.take_of_length_le (by simp))
      have hC := crcF_lt s.data.toList (c := 4294967295) (by omega)
      have hx := hide (xor_i64 (crcF 4294967295 s.data.toList : Int) 4294967295 (by omega) (by omega) (by omega) (by omega))
      rw [hf.out]
      go_wp2
      go_ret
      exact ⟨congrArg (fun v => Ending.returned (.int .i64 v)) hx.out, rfl⟩

set_option maxHeartbeats 1000000 in
theorem Crc_c (s : ByteArray) (w : World) (hs : s.size ≤ 1048576) :
    Calls Tryd.prog 16 #[.string s] w fun e w' => e = .returned (.int .i64 (crcN s.data.toList : Int)) ∧ w = w' := by
  go_enter Tryd.func16, Tryd.ntmps16
  go_wp2
  go_loop [3, 4] (fun cv i => ∃ k : Nat, k ≤ s.size ∧ i = .int .i64 k ∧ cv = .int .u32 (crcF 4294967295 (s.data.toList.take k) : Int)) (fun _ i => s.size - (intOf i).toNat)
  case atStart => exact ⟨0, Nat.zero_le _, rfl, rfl⟩
  case round =>
    obtain ⟨k, hk, rfl, rfl⟩ := hrel
    by_cases hlt : k < s.size
    · have hc := crc_snoc 4294967295 s k hlt
      have hC : crcF 4294967295 (s.data.toList.take k) < 4294967296 := crcF_lt _ (by omega)
      generalize crcF 4294967295 (s.data.toList.take k) = C at *
      have hb : s[k].toNat < 256 := s[k].toNat_lt
      have hD : C ^^^ s[k].toNat < 4294967296 := Nat.xor_lt_two_pow (n := 32) hC (by omega)
      have hc' := hide hc
      clear hc
      go_wp2
      go_loop [3, 18] (fun cv i => ∃ j E : Nat, j ≤ 8 ∧ i = .int .i64 j ∧ cv = .int .u32 (E : Int) ∧ E < 4294967296 ∧ Hid (crcK (8 - j) E = crcB C s[k].toNat)) (fun _ i => 8 - (intOf i).toNat)
      case atStart => exact ⟨0, C ^^^ s[k].toNat, by omega, rfl, congrArg (Value.int .u32) (xor_u32 C s[k].toNat hC (by omega)), hD, hide rfl⟩
      case round =>
        obtain ⟨j, E, hj, rfl, rfl, hE, hk8⟩ := hrel
        by_cases hj8 : j < 8
        · have e8 : 8 - j = (8 - (j + 1)) + 1 := by omega
          have hk9 := hk8.out
          rw [e8] at hk9
          have hk9' := hide hk9
          clear hk9 e8
          by_cases hodd : E % 2 = 1
          · have hc1 : Hid (crc1 E = (E / 2) ^^^ 3988292384) := hide (by rw [crc1, if_pos hodd])
            have d1 : (bits BinOp.and IntKind.u32 (E : Int) 1 == 1) = true := by rw [and_u32 E hE, hodd]; rfl
            go_wp2
            go_round
            case rel => exact ⟨j + 1, crc1 E, by omega, by go_num, congrArg (Value.int .u32) ((xor_u32 (E / 2) 3988292384 (by omega) (by omega)).trans (by rw [hc1.out])), crc1_lt hE, hide hk9'.out⟩
            case measure => simp [intOf]; omega
          · have hc1 : Hid (crc1 E = E / 2) := hide (by rw [crc1, if_neg hodd])
            have d1 : (bits BinOp.and IntKind.u32 (E : Int) 1 == 1) = false := by rw [and_u32 E hE, show E % 2 = 0 by omega]; rfl
            go_wp2
            go_round
            case rel => exact ⟨j + 1, crc1 E, by omega, by go_num, by rw [hc1.out]; rfl, crc1_lt hE, hide hk9'.out⟩
            case measure => simp [intOf]; omega
        · obtain rfl : j = 8 := by omega
          go_wp2
          go_round
          case rel => exact ⟨k + 1, by omega, by go_num, by rw [hc'.out, ← hk8.out]; rfl⟩
          case measure => simp [intOf]; omega
    · obtain rfl : k = s.size := by omega
      have hf : Hid (s.data.toList.take s.size = s.data.toList) := hide (List.take_of_length_le (by simp))
      have hC := crcF_lt s.data.toList (c := 4294967295) (by omega)
      rw [hf.out]
      have hx := xor_u32 4294967295 (crcF 4294967295 s.data.toList) (by omega) hC
      have hx2 : Hid (wrap64 (bits BinOp.xor IntKind.u32 IntKind.u32.max (crcF 4294967295 s.data.toList : Int)) = (crcN s.data.toList : Int)) := hide (by
        have e1 : IntKind.u32.max = ((4294967295 : Nat) : Int) := rfl
        have h2 := crcN_lt s.data.toList
        rw [e1, hx, Nat.xor_comm 4294967295]
        show wrap64 ((crcN s.data.toList : Nat) : Int) = _
        unfold wrap64
        omega)
      clear hx
      go_wp2
      go_ret
      exact ⟨congrArg (fun v => Ending.returned (.int .i64 v)) hx2.out, rfl⟩
end Go.Proofs.YtajmfonepnkofaaDoor
