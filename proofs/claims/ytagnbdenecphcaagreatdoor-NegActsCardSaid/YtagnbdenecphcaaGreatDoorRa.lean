/- The reference's policy: number, bytes, right, better, without, taught. -/
import Derived.Test.YtagnbdenecphcaaGreatDoorMe
namespace Go.Proofs.YtagnbdenecphcaaGreatDoor
open Go.RowKit
set_option linter.unusedVariables false
set_option linter.unusedSimpArgs false
set_option maxHeartbeats 2000000 in
theorem rnumber_any (s : ByteArray) (w : World) (hs : s.size ≤ 9223372036854775807) : Calls Tryz.prog 68 #[.string s] w fun e w' => e = .returned (.int .i64 (valueM s.data.toList)) ∧ w = w' := by
  go_enter Tryz.func68, Tryz.ntmps68
  go_wp2_with fail
  go_loop [3, 4] (fun x i => ∃ k : Nat, k ≤ s.size ∧ i = .int .i64 k ∧ x = .int .i64 (valueM (s.data.toList.take k))) (fun _ i => s.size - (intOf i).toNat)
  case atStart => exact ⟨0, Nat.zero_le _, rfl, rfl⟩
  case round =>
    obtain ⟨k, hk, rfl, rfl⟩ := hrel
    obtain ⟨v, hv⟩ : ∃ v, valueM (s.data.toList.take k) = v := ⟨_, rfl⟩
    by_cases hlt : k < s.size
    · rw [hv]
      have HV := Lib.hid hv
      clear hv
      go_wp2_with fail
      go_round
      case rel =>
        refine ⟨k + 1, by omega, by go_num, ?_⟩
        have hb := s[k].toNat_lt
        rw [valueM_succ s k hlt, HV.out, IntWalk.wrap64_in (s[k].toNat : Int) ⟨by omega, by omega⟩]
        rfl
      case measure => simp [intOf]; omega
    · obtain rfl : k = s.size := by omega
      have hv2 : valueM s.data.toList = v := by rw [← hv, List.take_of_length_le (by simp)]
      rw [hv]
      have HV := Lib.hid hv2
      clear hv hv2
      go_wp2_with fail
      go_ret
      exact ⟨by rw [HV.out]; rfl, rfl⟩
theorem own_new (w : World) (l : List UInt8) (h : l.length ≤ maxLen) : Own (w.alloc (.cells (Lib.byteCells l).toArray 5)) w.heap.size (.slice (some ⟨w.heap.size, 0, none⟩) l.length l.length) l :=
  ⟨by rw [Lib.byteCells_length, Nat.mul_one], .inr ⟨w.heap.size, l.length, _, rfl, Nat.le_refl _, heap_alloc_last w _, Nat.le_refl _, h, by simp [Lib.byteCells], by simp only [Array.toList_extract, List.toList_toArray, List.extract_eq_take_drop, List.drop_zero, Nat.sub_zero, Nat.zero_add, Nat.add_zero]; exact List.take_of_length_le (by simp [Lib.byteCells])⟩⟩
theorem low8 (x : Int) : bits BinOp.and IntKind.i64 x 255 = x % 256 := i64_low x 8 (by decide)
theorem byteT (x : Int) (h : 0 ≤ x) : ((UInt8.ofNat (x % 256).toNat).toNat : Int) = x % 256 := byte_of x h
theorem make2 (w : World) : (Instr.makeSlice 97 (.int .i64 2) (.int .i64 2)).run Tryz.prog w = .ok (.slice (some ⟨w.heap.size, 0, none⟩) 2 2) (w.alloc (.cells #[.int .u8 0, .int .u8 0] 5)) := by kernel_rfl
theorem make4 (w : World) : (Instr.makeSlice 97 (.int .i64 4) (.int .i64 4)).run Tryz.prog w = .ok (.slice (some ⟨w.heap.size, 0, none⟩) 4 4) (w.alloc (.cells #[.int .u8 0, .int .u8 0, .int .u8 0, .int .u8 0] 5)) := by kernel_rfl
set_option maxRecDepth 100000 in
set_option maxHeartbeats 4000000 in
theorem rbytes2_any (x : Int) (w : World) (h0 : 0 ≤ x) (h1 : x ≤ 4294967295) : Calls Tryz.prog 67 #[.int .i64 x, .int .i64 2] w fun e w' => e = .returned (.string (bytesOf (numB x 2))) ∧ Below w.heap.size w w' := by
  have hmk := make2
  have a1 := low8 x
  have a2 := low8 (x / 256)
  have hcells : w.alloc (.cells #[.int .u8 (x / 256 % 256), .int .u8 (x % 256)] 5) = w.alloc (.cells (Lib.byteCells (numB x 2)).toArray 5) := by
    rw [numB2]
    simp only [Lib.byteCells, List.map_cons, List.map_nil]
    rw [byteT (x / 256) (by omega), byteT x h0]
  have hown := own_new w (numB x 2) (by rw [numB2]; simp [maxLen])
  rw [← hcells] at hown
  have hcv := hown.conv
  rw [show (numB x 2).length = 2 by rw [numB2]; rfl] at hcv
  have HCV := Lib.hid hcv
  clear hown hcells hcv
  go_enter Tryz.func67, Tryz.ntmps67
  go_wp2_with fail
  go_loopw [0, 6] (fun u i wr => (u = .int .i64 x ∧ i = .int .i64 1 ∧ wr = w.alloc (.cells #[.int .u8 0, .int .u8 0] 5)) ∨ (u = .int .i64 (x / 256) ∧ i = .int .i64 0 ∧ wr = w.alloc (.cells #[.int .u8 0, .int .u8 (x % 256)] 5)) ∨ (u = .int .i64 (x / 256 / 256) ∧ i = .int .i64 (-1) ∧ wr = w.alloc (.cells #[.int .u8 (x / 256 % 256), .int .u8 (x % 256)] 5))) (fun _ i _ => (intOf i + 1).toNat)
  case atStart => exact .inl ⟨rfl, rfl, rfl⟩
  case round =>
    rcases hrel with ⟨rfl, rfl, rfl⟩ | ⟨rfl, rfl, rfl⟩ | ⟨rfl, rfl, rfl⟩
    · go_wp2_with fail
      go_roundw
      case rel => exact .inr (.inl ⟨rfl, rfl, trivial⟩)
      case measure => simp [intOf]
    · go_wp2_with fail
      go_roundw
      case rel => exact .inr (.inr ⟨rfl, rfl, trivial⟩)
      case measure => simp [intOf]
    · have hcv := HCV.out
      go_wp2_with fail
      go_ret
      exact ⟨rfl, allocB (Below.refl _ _) _⟩
set_option maxRecDepth 100000 in
set_option maxHeartbeats 4000000 in
theorem rbytes4_any (x : Int) (w : World) (h0 : 0 ≤ x) (h1 : x ≤ 4294967295) : Calls Tryz.prog 67 #[.int .i64 x, .int .i64 4] w fun e w' => e = .returned (.string (bytesOf (numB x 4))) ∧ Below w.heap.size w w' := by
  have hmk := make4
  have a1 := low8 x
  have a2 := low8 (x / 256)
  have a3 := low8 (x / 256 / 256)
  have a4 := low8 (x / 256 / 256 / 256)
  have e2 : x / 65536 = x / 256 / 256 := by omega
  have e3 : x / 16777216 = x / 256 / 256 / 256 := by omega
  have hcells : w.alloc (.cells #[.int .u8 (x / 256 / 256 / 256 % 256), .int .u8 (x / 256 / 256 % 256), .int .u8 (x / 256 % 256), .int .u8 (x % 256)] 5) = w.alloc (.cells (Lib.byteCells (numB x 4)).toArray 5) := by
    rw [numB4]
    simp only [Lib.byteCells, List.map_cons, List.map_nil]
    rw [byteT (x / 16777216) (by omega), byteT (x / 65536) (by omega), byteT (x / 256) (by omega), byteT x h0, e2, e3]
  have hown := own_new w (numB x 4) (by rw [numB4]; simp [maxLen])
  rw [← hcells] at hown
  have hcv := hown.conv
  rw [show (numB x 4).length = 4 by rw [numB4]; rfl] at hcv
  have HCV := Lib.hid hcv
  clear hown hcells hcv e2 e3
  obtain ⟨y1, hy1⟩ : ∃ y, x / 256 = y := ⟨_, rfl⟩
  obtain ⟨y2, hy2⟩ : ∃ y, y1 / 256 = y := ⟨_, rfl⟩
  obtain ⟨y3, hy3⟩ : ∃ y, y2 / 256 = y := ⟨_, rfl⟩
  have u1 : 0 ≤ y1 := by omega
  have u2 : 0 ≤ y2 := by omega
  have u3 : 0 ≤ y3 := by omega
  have v1 : y1 ≤ 4294967295 := by omega
  have v2 : y2 ≤ 4294967295 := by omega
  have v3 : y3 ≤ 255 := by omega
  rw [hy1] at a2 a3 a4 HCV
  rw [hy2] at a3 a4 HCV
  rw [hy3] at a4 HCV
  have H1 := Lib.hid hy1
  have H2 := Lib.hid hy2
  have H3 := Lib.hid hy3
  clear hy1 hy2 hy3
  go_enter Tryz.func67, Tryz.ntmps67
  go_wp2_with fail
  go_loopw [0, 6] (fun u i wr => (u = .int .i64 x ∧ i = .int .i64 3 ∧ wr = w.alloc (.cells #[.int .u8 0, .int .u8 0, .int .u8 0, .int .u8 0] 5)) ∨ (u = .int .i64 y1 ∧ i = .int .i64 2 ∧ wr = w.alloc (.cells #[.int .u8 0, .int .u8 0, .int .u8 0, .int .u8 (x % 256)] 5)) ∨ (u = .int .i64 y2 ∧ i = .int .i64 1 ∧ wr = w.alloc (.cells #[.int .u8 0, .int .u8 0, .int .u8 (y1 % 256), .int .u8 (x % 256)] 5)) ∨ (u = .int .i64 y3 ∧ i = .int .i64 0 ∧ wr = w.alloc (.cells #[.int .u8 0, .int .u8 (y2 % 256), .int .u8 (y1 % 256), .int .u8 (x % 256)] 5)) ∨ (i = .int .i64 (-1) ∧ wr = w.alloc (.cells #[.int .u8 (y3 % 256), .int .u8 (y2 % 256), .int .u8 (y1 % 256), .int .u8 (x % 256)] 5))) (fun _ i _ => (intOf i + 1).toNat)
  case atStart => exact .inl ⟨rfl, rfl, rfl⟩
  case round =>
    rcases hrel with ⟨rfl, rfl, rfl⟩ | ⟨rfl, rfl, rfl⟩ | ⟨rfl, rfl, rfl⟩ | ⟨rfl, rfl, rfl⟩ | ⟨rfl, rfl⟩
    · go_wp2_with fail
      go_roundw
      case rel => exact .inr (.inl ⟨by rw [← H1.out], rfl, trivial⟩)
      case measure => simp [intOf]
    · go_wp2_with fail
      go_roundw
      case rel => exact .inr (.inr (.inl ⟨by rw [← H2.out], rfl, trivial⟩))
      case measure => simp [intOf]
    · go_wp2_with fail
      go_roundw
      case rel => exact .inr (.inr (.inr (.inl ⟨by rw [← H3.out], rfl, trivial⟩)))
      case measure => simp [intOf]
    · go_wp2_with fail
      go_roundw
      case rel => exact .inr (.inr (.inr (.inr ⟨rfl, trivial⟩)))
      case measure => simp [intOf]
    · have hcv := HCV.out
      go_wp2_with fail
      go_ret
      exact ⟨rfl, allocB (Below.refl _ _) _⟩
set_option maxHeartbeats 1000000 in
theorem rright_any (o : OptM) (w : World) : Calls Tryz.prog 55 #[.agg #[.int .i64 o.1, .string o.2]] w fun e w' => e = .returned (.bool (rightM o)) ∧ Below w.heap.size w w' := by
  obtain ⟨k, d⟩ := o
  have hd0 : (d.toList == []) = decide (d.size = 0) := by
    rw [ba_toList, Bool.eq_iff_iff, beq_iff_eq, decide_eq_true_eq, ← len_toList]
    exact ⟨fun h => by rw [h]; rfl, List.eq_nil_of_length_eq_zero⟩
  have HD := Lib.hid hd0
  clear hd0
  go_enter Tryz.func55, Tryz.ntmps55
  go_wp2_with fail
  all_goals
    go_ret
    refine ⟨?_, allocB (Below.refl _ _) _⟩
    show Ending.returned (Value.bool _) = Ending.returned (Value.bool _)
    congr 2
    symm
    unfold rightM sizeM
    have hd0 := HD.out
    rw [Bool.eq_iff_iff]
    have hz : (0 = (d.size : Int)) ↔ d = ByteArray.empty := ⟨fun h => ByteArray.size_eq_zero_iff.mp (by omega), fun h => by rw [h]; rfl⟩
    simp_all
    try omega

theorem rwithout_any (l : LinkM) (k : Int) (w : World) (hk : k = 1 ∨ k = 5 ∨ k = 17 ∨ k = 18 ∨ k = 19 ∨ k = 23) : Calls Tryz.prog 57 #[.agg (linkCells l), .int .i64 k] w fun e w' => e = .returned (.agg (linkCells (clearM l k))) ∧ Below w.heap.size w w' := by
  obtain ⟨l0, l1, l2, l3, l4, l5⟩ := l
  unfold linkCells
  rcases hk with rfl | rfl | rfl | rfl | rfl | rfl
  all_goals
    go_enter Tryz.func57, Tryz.ntmps57
    go_wp2_with fail
    refine bodyPost_ret (v := .agg #[_, _, _, _, _, _]) (by simp [results, Tryz.results57, go_sem, clearM, putF]) rfl ⟨rfl, allocB (allocB (Below.refl _ _) _) _⟩
end Go.Proofs.YtagnbdenecphcaaGreatDoor
