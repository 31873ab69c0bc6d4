/- Package digest: turns, mix, RotateLeft32: walked. -/
import Derived.Test.YteigigepmoicaaaGreatDoorRows
import Derived.Test.YteigigepmoicaaaGreatDoorMg2
import Derived.Test.YteigigepmoicaaaGreatDoorHeldL
import Derived.Laws.BitsAllLaws
namespace Go.Proofs.YteigigepmoicaaaGreatDoor
open Go.RowKit
set_option linter.unusedVariables false
set_option linter.unusedSimpArgs false
theorem and_lt32 {x y : Nat} (h : x < 4294967296) : x &&& y < 4294967296 := Nat.lt_of_le_of_lt Nat.and_le_left h
theorem or_lt32 {x y : Nat} (h : x < 4294967296) (h2 : y < 4294967296) : x ||| y < 4294967296 := Nat.or_lt_two_pow (n := 32) h h2
theorem xor_lt32 {x y : Nat} (h : x < 4294967296) (h2 : y < 4294967296) : x ^^^ y < 4294967296 := Nat.xor_lt_two_pow (n := 32) h h2
theorem not_lt32 {x : Nat} (h : x < 4294967296) : 4294967295 ^^^ x < 4294967296 := xor_lt32 (by decide) h
theorem not32 {x : Nat} (h : x < 4294967296) : bits BinOp.xor IntKind.u32 IntKind.u32.max (x : Int) = ((4294967295 ^^^ x : Nat) : Int) := u32_xor_nat 4294967295 x (by decide) h
theorem mixF_lt (i b c d : Nat) (hb : b < 4294967296) (hc : c < 4294967296) (hd : d < 4294967296) : mixF i b c d < 4294967296 := by
  unfold mixF
  split
  · exact or_lt32 (and_lt32 hb) (and_lt32 (not_lt32 hb))
  · split
    · exact or_lt32 (and_lt32 hd) (and_lt32 (not_lt32 hd))
    · split
      · exact xor_lt32 (xor_lt32 hb hc) hd
      · exact xor_lt32 hc (or_lt32 hb (not_lt32 hd))
set_option maxRecDepth 100000 in
theorem dturns00 (i : Nat) (w : World) (hd : (i : Int).tdiv 16 = 0) (hm : (i : Int).tmod 4 = 0) : Calls Tryz.prog 104 #[.int .i64 i] w fun e w' => e = .returned (.int .i64 7) ∧ w' = w := by
  have i1 : (Instr.index 154 (.agg #[.int .i64 7, .int .i64 12, .int .i64 17, .int .i64 22, .int .i64 5, .int .i64 9, .int .i64 14, .int .i64 20, .int .i64 4, .int .i64 11, .int .i64 16, .int .i64 23, .int .i64 6, .int .i64 10, .int .i64 15, .int .i64 21]) (.int .i64 0)).run Tryz.prog w = .ok (.agg #[.int .i64 7, .int .i64 12, .int .i64 17, .int .i64 22]) w := by kernel_rfl
  have i2 : (Instr.index 153 (.agg #[.int .i64 7, .int .i64 12, .int .i64 17, .int .i64 22]) (.int .i64 0)).run Tryz.prog w = .ok (.int .i64 7) w := by kernel_rfl
  go_enter Tryz.func104, Tryz.ntmps104
  go_wp2_with fail
  go_ret
  exact ⟨rfl, rfl⟩
set_option maxRecDepth 100000 in
theorem dturns01 (i : Nat) (w : World) (hd : (i : Int).tdiv 16 = 0) (hm : (i : Int).tmod 4 = 1) : Calls Tryz.prog 104 #[.int .i64 i] w fun e w' => e = .returned (.int .i64 12) ∧ w' = w := by
  have i1 : (Instr.index 154 (.agg #[.int .i64 7, .int .i64 12, .int .i64 17, .int .i64 22, .int .i64 5, .int .i64 9, .int .i64 14, .int .i64 20, .int .i64 4, .int .i64 11, .int .i64 16, .int .i64 23, .int .i64 6, .int .i64 10, .int .i64 15, .int .i64 21]) (.int .i64 0)).run Tryz.prog w = .ok (.agg #[.int .i64 7, .int .i64 12, .int .i64 17, .int .i64 22]) w := by kernel_rfl
  have i2 : (Instr.index 153 (.agg #[.int .i64 7, .int .i64 12, .int .i64 17, .int .i64 22]) (.int .i64 1)).run Tryz.prog w = .ok (.int .i64 12) w := by kernel_rfl
  go_enter Tryz.func104, Tryz.ntmps104
  go_wp2_with fail
  go_ret
  exact ⟨rfl, rfl⟩
set_option maxRecDepth 100000 in
theorem dturns02 (i : Nat) (w : World) (hd : (i : Int).tdiv 16 = 0) (hm : (i : Int).tmod 4 = 2) : Calls Tryz.prog 104 #[.int .i64 i] w fun e w' => e = .returned (.int .i64 17) ∧ w' = w := by
  have i1 : (Instr.index 154 (.agg #[.int .i64 7, .int .i64 12, .int .i64 17, .int .i64 22, .int .i64 5, .int .i64 9, .int .i64 14, .int .i64 20, .int .i64 4, .int .i64 11, .int .i64 16, .int .i64 23, .int .i64 6, .int .i64 10, .int .i64 15, .int .i64 21]) (.int .i64 0)).run Tryz.prog w = .ok (.agg #[.int .i64 7, .int .i64 12, .int .i64 17, .int .i64 22]) w := by kernel_rfl
  have i2 : (Instr.index 153 (.agg #[.int .i64 7, .int .i64 12, .int .i64 17, .int .i64 22]) (.int .i64 2)).run Tryz.prog w = .ok (.int .i64 17) w := by kernel_rfl
  go_enter Tryz.func104, Tryz.ntmps104
  go_wp2_with fail
  go_ret
  exact ⟨rfl, rfl⟩
set_option maxRecDepth 100000 in
theorem dturns03 (i : Nat) (w : World) (hd : (i : Int).tdiv 16 = 0) (hm : (i : Int).tmod 4 = 3) : Calls Tryz.prog 104 #[.int .i64 i] w fun e w' => e = .returned (.int .i64 22) ∧ w' = w := by
  have i1 : (Instr.index 154 (.agg #[.int .i64 7, .int .i64 12, .int .i64 17, .int .i64 22, .int .i64 5, .int .i64 9, .int .i64 14, .int .i64 20, .int .i64 4, .int .i64 11, .int .i64 16, .int .i64 23, .int .i64 6, .int .i64 10, .int .i64 15, .int .i64 21]) (.int .i64 0)).run Tryz.prog w = .ok (.agg #[.int .i64 7, .int .i64 12, .int .i64 17, .int .i64 22]) w := by kernel_rfl
  have i2 : (Instr.index 153 (.agg #[.int .i64 7, .int .i64 12, .int .i64 17, .int .i64 22]) (.int .i64 3)).run Tryz.prog w = .ok (.int .i64 22) w := by kernel_rfl
  go_enter Tryz.func104, Tryz.ntmps104
  go_wp2_with fail
  go_ret
  exact ⟨rfl, rfl⟩
set_option maxRecDepth 100000 in
theorem dturns10 (i : Nat) (w : World) (hd : (i : Int).tdiv 16 = 1) (hm : (i : Int).tmod 4 = 0) : Calls Tryz.prog 104 #[.int .i64 i] w fun e w' => e = .returned (.int .i64 5) ∧ w' = w := by
  have i1 : (Instr.index 154 (.agg #[.int .i64 7, .int .i64 12, .int .i64 17, .int .i64 22, .int .i64 5, .int .i64 9, .int .i64 14, .int .i64 20, .int .i64 4, .int .i64 11, .int .i64 16, .int .i64 23, .int .i64 6, .int .i64 10, .int .i64 15, .int .i64 21]) (.int .i64 1)).run Tryz.prog w = .ok (.agg #[.int .i64 5, .int .i64 9, .int .i64 14, .int .i64 20]) w := by kernel_rfl
  have i2 : (Instr.index 153 (.agg #[.int .i64 5, .int .i64 9, .int .i64 14, .int .i64 20]) (.int .i64 0)).run Tryz.prog w = .ok (.int .i64 5) w := by kernel_rfl
  go_enter Tryz.func104, Tryz.ntmps104
  go_wp2_with fail
  go_ret
  exact ⟨rfl, rfl⟩
set_option maxRecDepth 100000 in
theorem dturns11 (i : Nat) (w : World) (hd : (i : Int).tdiv 16 = 1) (hm : (i : Int).tmod 4 = 1) : Calls Tryz.prog 104 #[.int .i64 i] w fun e w' => e = .returned (.int .i64 9) ∧ w' = w := by
  have i1 : (Instr.index 154 (.agg #[.int .i64 7, .int .i64 12, .int .i64 17, .int .i64 22, .int .i64 5, .int .i64 9, .int .i64 14, .int .i64 20, .int .i64 4, .int .i64 11, .int .i64 16, .int .i64 23, .int .i64 6, .int .i64 10, .int .i64 15, .int .i64 21]) (.int .i64 1)).run Tryz.prog w = .ok (.agg #[.int .i64 5, .int .i64 9, .int .i64 14, .int .i64 20]) w := by kernel_rfl
  have i2 : (Instr.index 153 (.agg #[.int .i64 5, .int .i64 9, .int .i64 14, .int .i64 20]) (.int .i64 1)).run Tryz.prog w = .ok (.int .i64 9) w := by kernel_rfl
  go_enter Tryz.func104, Tryz.ntmps104
  go_wp2_with fail
  go_ret
  exact ⟨rfl, rfl⟩
set_option maxRecDepth 100000 in
theorem dturns12 (i : Nat) (w : World) (hd : (i : Int).tdiv 16 = 1) (hm : (i : Int).tmod 4 = 2) : Calls Tryz.prog 104 #[.int .i64 i] w fun e w' => e = .returned (.int .i64 14) ∧ w' = w := by
  have i1 : (Instr.index 154 (.agg #[.int .i64 7, .int .i64 12, .int .i64 17, .int .i64 22, .int .i64 5, .int .i64 9, .int .i64 14, .int .i64 20, .int .i64 4, .int .i64 11, .int .i64 16, .int .i64 23, .int .i64 6, .int .i64 10, .int .i64 15, .int .i64 21]) (.int .i64 1)).run Tryz.prog w = .ok (.agg #[.int .i64 5, .int .i64 9, .int .i64 14, .int .i64 20]) w := by kernel_rfl
  have i2 : (Instr.index 153 (.agg #[.int .i64 5, .int .i64 9, .int .i64 14, .int .i64 20]) (.int .i64 2)).run Tryz.prog w = .ok (.int .i64 14) w := by kernel_rfl
  go_enter Tryz.func104, Tryz.ntmps104
  go_wp2_with fail
  go_ret
  exact ⟨rfl, rfl⟩
set_option maxRecDepth 100000 in
theorem dturns13 (i : Nat) (w : World) (hd : (i : Int).tdiv 16 = 1) (hm : (i : Int).tmod 4 = 3) : Calls Tryz.prog 104 #[.int .i64 i] w fun e w' => e = .returned (.int .i64 20) ∧ w' = w := by
  have i1 : (Instr.index 154 (.agg #[.int .i64 7, .int .i64 12, .int .i64 17, .int .i64 22, .int .i64 5, .int .i64 9, .int .i64 14, .int .i64 20, .int .i64 4, .int .i64 11, .int .i64 16, .int .i64 23, .int .i64 6, .int .i64 10, .int .i64 15, .int .i64 21]) (.int .i64 1)).run Tryz.prog w = .ok (.agg #[.int .i64 5, .int .i64 9, .int .i64 14, .int .i64 20]) w := by kernel_rfl
  have i2 : (Instr.index 153 (.agg #[.int .i64 5, .int .i64 9, .int .i64 14, .int .i64 20]) (.int .i64 3)).run Tryz.prog w = .ok (.int .i64 20) w := by kernel_rfl
  go_enter Tryz.func104, Tryz.ntmps104
  go_wp2_with fail
  go_ret
  exact ⟨rfl, rfl⟩
set_option maxRecDepth 100000 in
theorem dturns20 (i : Nat) (w : World) (hd : (i : Int).tdiv 16 = 2) (hm : (i : Int).tmod 4 = 0) : Calls Tryz.prog 104 #[.int .i64 i] w fun e w' => e = .returned (.int .i64 4) ∧ w' = w := by
  have i1 : (Instr.index 154 (.agg #[.int .i64 7, .int .i64 12, .int .i64 17, .int .i64 22, .int .i64 5, .int .i64 9, .int .i64 14, .int .i64 20, .int .i64 4, .int .i64 11, .int .i64 16, .int .i64 23, .int .i64 6, .int .i64 10, .int .i64 15, .int .i64 21]) (.int .i64 2)).run Tryz.prog w = .ok (.agg #[.int .i64 4, .int .i64 11, .int .i64 16, .int .i64 23]) w := by kernel_rfl
  have i2 : (Instr.index 153 (.agg #[.int .i64 4, .int .i64 11, .int .i64 16, .int .i64 23]) (.int .i64 0)).run Tryz.prog w = .ok (.int .i64 4) w := by kernel_rfl
  go_enter Tryz.func104, Tryz.ntmps104
  go_wp2_with fail
  go_ret
  exact ⟨rfl, rfl⟩
set_option maxRecDepth 100000 in
theorem dturns21 (i : Nat) (w : World) (hd : (i : Int).tdiv 16 = 2) (hm : (i : Int).tmod 4 = 1) : Calls Tryz.prog 104 #[.int .i64 i] w fun e w' => e = .returned (.int .i64 11) ∧ w' = w := by
  have i1 : (Instr.index 154 (.agg #[.int .i64 7, .int .i64 12, .int .i64 17, .int .i64 22, .int .i64 5, .int .i64 9, .int .i64 14, .int .i64 20, .int .i64 4, .int .i64 11, .int .i64 16, .int .i64 23, .int .i64 6, .int .i64 10, .int .i64 15, .int .i64 21]) (.int .i64 2)).run Tryz.prog w = .ok (.agg #[.int .i64 4, .int .i64 11, .int .i64 16, .int .i64 23]) w := by kernel_rfl
  have i2 : (Instr.index 153 (.agg #[.int .i64 4, .int .i64 11, .int .i64 16, .int .i64 23]) (.int .i64 1)).run Tryz.prog w = .ok (.int .i64 11) w := by kernel_rfl
  go_enter Tryz.func104, Tryz.ntmps104
  go_wp2_with fail
  go_ret
  exact ⟨rfl, rfl⟩
set_option maxRecDepth 100000 in
theorem dturns22 (i : Nat) (w : World) (hd : (i : Int).tdiv 16 = 2) (hm : (i : Int).tmod 4 = 2) : Calls Tryz.prog 104 #[.int .i64 i] w fun e w' => e = .returned (.int .i64 16) ∧ w' = w := by
  have i1 : (Instr.index 154 (.agg #[.int .i64 7, .int .i64 12, .int .i64 17, .int .i64 22, .int .i64 5, .int .i64 9, .int .i64 14, .int .i64 20, .int .i64 4, .int .i64 11, .int .i64 16, .int .i64 23, .int .i64 6, .int .i64 10, .int .i64 15, .int .i64 21]) (.int .i64 2)).run Tryz.prog w = .ok (.agg #[.int .i64 4, .int .i64 11, .int .i64 16, .int .i64 23]) w := by kernel_rfl
  have i2 : (Instr.index 153 (.agg #[.int .i64 4, .int .i64 11, .int .i64 16, .int .i64 23]) (.int .i64 2)).run Tryz.prog w = .ok (.int .i64 16) w := by kernel_rfl
  go_enter Tryz.func104, Tryz.ntmps104
  go_wp2_with fail
  go_ret
  exact ⟨rfl, rfl⟩
set_option maxRecDepth 100000 in
theorem dturns23 (i : Nat) (w : World) (hd : (i : Int).tdiv 16 = 2) (hm : (i : Int).tmod 4 = 3) : Calls Tryz.prog 104 #[.int .i64 i] w fun e w' => e = .returned (.int .i64 23) ∧ w' = w := by
  have i1 : (Instr.index 154 (.agg #[.int .i64 7, .int .i64 12, .int .i64 17, .int .i64 22, .int .i64 5, .int .i64 9, .int .i64 14, .int .i64 20, .int .i64 4, .int .i64 11, .int .i64 16, .int .i64 23, .int .i64 6, .int .i64 10, .int .i64 15, .int .i64 21]) (.int .i64 2)).run Tryz.prog w = .ok (.agg #[.int .i64 4, .int .i64 11, .int .i64 16, .int .i64 23]) w := by kernel_rfl
  have i2 : (Instr.index 153 (.agg #[.int .i64 4, .int .i64 11, .int .i64 16, .int .i64 23]) (.int .i64 3)).run Tryz.prog w = .ok (.int .i64 23) w := by kernel_rfl
  go_enter Tryz.func104, Tryz.ntmps104
  go_wp2_with fail
  go_ret
  exact ⟨rfl, rfl⟩
set_option maxRecDepth 100000 in
theorem dturns30 (i : Nat) (w : World) (hd : (i : Int).tdiv 16 = 3) (hm : (i : Int).tmod 4 = 0) : Calls Tryz.prog 104 #[.int .i64 i] w fun e w' => e = .returned (.int .i64 6) ∧ w' = w := by
  have i1 : (Instr.index 154 (.agg #[.int .i64 7, .int .i64 12, .int .i64 17, .int .i64 22, .int .i64 5, .int .i64 9, .int .i64 14, .int .i64 20, .int .i64 4, .int .i64 11, .int .i64 16, .int .i64 23, .int .i64 6, .int .i64 10, .int .i64 15, .int .i64 21]) (.int .i64 3)).run Tryz.prog w = .ok (.agg #[.int .i64 6, .int .i64 10, .int .i64 15, .int .i64 21]) w := by kernel_rfl
  have i2 : (Instr.index 153 (.agg #[.int .i64 6, .int .i64 10, .int .i64 15, .int .i64 21]) (.int .i64 0)).run Tryz.prog w = .ok (.int .i64 6) w := by kernel_rfl
  go_enter Tryz.func104, Tryz.ntmps104
  go_wp2_with fail
  go_ret
  exact ⟨rfl, rfl⟩
set_option maxRecDepth 100000 in
theorem dturns31 (i : Nat) (w : World) (hd : (i : Int).tdiv 16 = 3) (hm : (i : Int).tmod 4 = 1) : Calls Tryz.prog 104 #[.int .i64 i] w fun e w' => e = .returned (.int .i64 10) ∧ w' = w := by
  have i1 : (Instr.index 154 (.agg #[.int .i64 7, .int .i64 12, .int .i64 17, .int .i64 22, .int .i64 5, .int .i64 9, .int .i64 14, .int .i64 20, .int .i64 4, .int .i64 11, .int .i64 16, .int .i64 23, .int .i64 6, .int .i64 10, .int .i64 15, .int .i64 21]) (.int .i64 3)).run Tryz.prog w = .ok (.agg #[.int .i64 6, .int .i64 10, .int .i64 15, .int .i64 21]) w := by kernel_rfl
  have i2 : (Instr.index 153 (.agg #[.int .i64 6, .int .i64 10, .int .i64 15, .int .i64 21]) (.int .i64 1)).run Tryz.prog w = .ok (.int .i64 10) w := by kernel_rfl
  go_enter Tryz.func104, Tryz.ntmps104
  go_wp2_with fail
  go_ret
  exact ⟨rfl, rfl⟩
set_option maxRecDepth 100000 in
theorem dturns32 (i : Nat) (w : World) (hd : (i : Int).tdiv 16 = 3) (hm : (i : Int).tmod 4 = 2) : Calls Tryz.prog 104 #[.int .i64 i] w fun e w' => e = .returned (.int .i64 15) ∧ w' = w := by
  have i1 : (Instr.index 154 (.agg #[.int .i64 7, .int .i64 12, .int .i64 17, .int .i64 22, .int .i64 5, .int .i64 9, .int .i64 14, .int .i64 20, .int .i64 4, .int .i64 11, .int .i64 16, .int .i64 23, .int .i64 6, .int .i64 10, .int .i64 15, .int .i64 21]) (.int .i64 3)).run Tryz.prog w = .ok (.agg #[.int .i64 6, .int .i64 10, .int .i64 15, .int .i64 21]) w := by kernel_rfl
  have i2 : (Instr.index 153 (.agg #[.int .i64 6, .int .i64 10, .int .i64 15, .int .i64 21]) (.int .i64 2)).run Tryz.prog w = .ok (.int .i64 15) w := by kernel_rfl
  go_enter Tryz.func104, Tryz.ntmps104
  go_wp2_with fail
  go_ret
  exact ⟨rfl, rfl⟩
set_option maxRecDepth 100000 in
theorem dturns33 (i : Nat) (w : World) (hd : (i : Int).tdiv 16 = 3) (hm : (i : Int).tmod 4 = 3) : Calls Tryz.prog 104 #[.int .i64 i] w fun e w' => e = .returned (.int .i64 21) ∧ w' = w := by
  have i1 : (Instr.index 154 (.agg #[.int .i64 7, .int .i64 12, .int .i64 17, .int .i64 22, .int .i64 5, .int .i64 9, .int .i64 14, .int .i64 20, .int .i64 4, .int .i64 11, .int .i64 16, .int .i64 23, .int .i64 6, .int .i64 10, .int .i64 15, .int .i64 21]) (.int .i64 3)).run Tryz.prog w = .ok (.agg #[.int .i64 6, .int .i64 10, .int .i64 15, .int .i64 21]) w := by kernel_rfl
  have i2 : (Instr.index 153 (.agg #[.int .i64 6, .int .i64 10, .int .i64 15, .int .i64 21]) (.int .i64 3)).run Tryz.prog w = .ok (.int .i64 21) w := by kernel_rfl
  go_enter Tryz.func104, Tryz.ntmps104
  go_wp2_with fail
  go_ret
  exact ⟨rfl, rfl⟩
theorem dturns_any (i : Nat) (w : World) (hi : i < 64) : Calls Tryz.prog 104 #[.int .i64 i] w fun e w' => e = .returned (.int .i64 (turnT i)) ∧ w' = w := by
  have hd : (i : Int).tdiv 16 = ((i / 16 : Nat) : Int) := by rw [Int.tdiv_eq_ediv_of_nonneg (by omega)]; omega
  have hm : (i : Int).tmod 4 = ((i % 4 : Nat) : Int) := by rw [Int.tmod_eq_emod_of_nonneg (by omega)]; omega
  obtain ⟨q, hq⟩ : ∃ q, i / 16 = q := ⟨_, rfl⟩
  obtain ⟨r, hr⟩ : ∃ r, i % 4 = r := ⟨_, rfl⟩
  have HT : turnT i = turnsT.getD (q * 4 + r) 0 := by unfold turnT; rw [hq, hr]
  have hq4 : q < 4 := by omega
  have hr4 : r < 4 := by omega
  rw [hq] at hd
  rw [hr] at hm
  rw [HT]
  clear hq hr HT
  match q, r, hq4, hr4, hd, hm with
  | 0, 0, _, _, hd, hm => exact dturns00 i w hd hm
  | 0, 1, _, _, hd, hm => exact dturns01 i w hd hm
  | 0, 2, _, _, hd, hm => exact dturns02 i w hd hm
  | 0, 3, _, _, hd, hm => exact dturns03 i w hd hm
  | 1, 0, _, _, hd, hm => exact dturns10 i w hd hm
  | 1, 1, _, _, hd, hm => exact dturns11 i w hd hm
  | 1, 2, _, _, hd, hm => exact dturns12 i w hd hm
  | 1, 3, _, _, hd, hm => exact dturns13 i w hd hm
  | 2, 0, _, _, hd, hm => exact dturns20 i w hd hm
  | 2, 1, _, _, hd, hm => exact dturns21 i w hd hm
  | 2, 2, _, _, hd, hm => exact dturns22 i w hd hm
  | 2, 3, _, _, hd, hm => exact dturns23 i w hd hm
  | 3, 0, _, _, hd, hm => exact dturns30 i w hd hm
  | 3, 1, _, _, hd, hm => exact dturns31 i w hd hm
  | 3, 2, _, _, hd, hm => exact dturns32 i w hd hm
  | 3, 3, _, _, hd, hm => exact dturns33 i w hd hm
theorem rol_int (x s : Nat) (hx : x < 4294967296) (hs : 4 ≤ s) (hs2 : s ≤ 23) : bits BinOp.or IntKind.u32 ((x : Int) * 2 ^ s % 4294967296) ((x : Int) / 2 ^ (32 - s)) = (rolN x s : Int) := by
  have h2 : x / 2 ^ (32 - s) < 4294967296 := Nat.lt_of_le_of_lt (Nat.div_le_self _ _) hx
  have e := u32_or_nat (x * 2 ^ s % 4294967296) (x / 2 ^ (32 - s)) (Nat.mod_lt _ (by decide)) h2
  rw [Int.natCast_emod, Int.natCast_mul, Int.natCast_pow, Int.natCast_ediv, Int.natCast_pow] at e
  exact e
set_option maxRecDepth 100000 in
set_option maxHeartbeats 4000000 in
theorem rol_any (x s : Nat) (w : World) (hx : x < 4294967296) (hs : 4 ≤ s) (hs2 : s ≤ 23) : Calls Tryz.prog 103 #[.int .u32 x, .int .i64 s] w fun e w' => e = .returned (.int .u32 (rolN x s)) ∧ w' = w := by
  have h31 : bits BinOp.and IntKind.u64 (s : Int) 31 = (s : Int) := by
    have := bits_and_u64_nat s 31 (by omega) (by decide)
    rw [show ((31 : Nat) : Int) = 31 from rfl] at this
    rw [this, show (31 : Nat) = 2 ^ 5 - 1 from rfl, Nat.and_two_pow_sub_one_eq_mod, Nat.mod_eq_of_lt (by omega)]
  go_enter Tryz.func103, Tryz.ntmps103
  go_wp2_with fail
  go_ret
  refine ⟨?_, rfl⟩
  rw [← rol_int x s hx hs hs2]
  rfl
theorem mix0 (b c d : Nat) (hb : b < 4294967296) (hc : c < 4294967296) (hd : d < 4294967296) : bits BinOp.or IntKind.u32 (bits BinOp.and IntKind.u32 (b : Int) c) (bits BinOp.and IntKind.u32 (bits BinOp.xor IntKind.u32 IntKind.u32.max (b : Int)) d) = (((b &&& c) ||| ((4294967295 ^^^ b) &&& d) : Nat) : Int) := by
  rw [not32 hb, u32_and_nat b c hb hc, u32_and_nat _ d (not_lt32 hb) hd, u32_or_nat _ _ (and_lt32 hb) (and_lt32 (not_lt32 hb))]
theorem mix2 (b c d : Nat) (hb : b < 4294967296) (hc : c < 4294967296) (hd : d < 4294967296) : bits BinOp.xor IntKind.u32 (bits BinOp.xor IntKind.u32 (b : Int) c) d = (((b ^^^ c) ^^^ d : Nat) : Int) := by
  rw [u32_xor_nat b c hb hc, u32_xor_nat _ d (xor_lt32 hb hc) hd]
theorem mix3 (b c d : Nat) (hb : b < 4294967296) (hc : c < 4294967296) (hd : d < 4294967296) : bits BinOp.xor IntKind.u32 (c : Int) (bits BinOp.or IntKind.u32 (b : Int) (bits BinOp.xor IntKind.u32 IntKind.u32.max (d : Int))) = ((c ^^^ (b ||| (4294967295 ^^^ d)) : Nat) : Int) := by
  rw [not32 hd, u32_or_nat b _ hb (not_lt32 hd), u32_xor_nat c _ hc (or_lt32 hb (not_lt32 hd))]
set_option maxRecDepth 100000 in
set_option maxHeartbeats 4000000 in
theorem mix_any (i b c d : Nat) (w : World) (hi : i < 64) (hb : b < 4294967296) (hc : c < 4294967296) (hd : d < 4294967296) : Calls Tryz.prog 102 #[.int .i64 i, .int .u32 b, .int .u32 c, .int .u32 d] w fun e w' => e = .returned (.tuple #[.int .u32 (mixF i b c d), .int .i64 (mixG i)]) ∧ w' = w := by
  have hdv : (i : Int).tdiv 16 = ((i / 16 : Nat) : Int) := by rw [Int.tdiv_eq_ediv_of_nonneg (by omega)]; omega
  obtain ⟨q, hq⟩ : ∃ q, i / 16 = q := ⟨_, rfl⟩
  rw [hq] at hdv
  have HM : Hid (mixF i b c d = if q = 0 then (b &&& c) ||| ((4294967295 ^^^ b) &&& d) else if q = 1 then (d &&& b) ||| ((4294967295 ^^^ d) &&& c) else if q = 2 then (b ^^^ c) ^^^ d else c ^^^ (b ||| (4294967295 ^^^ d))) := Lib.hid (by
    unfold mixF
    obtain rfl | rfl | rfl | rfl : q = 0 ∨ q = 1 ∨ q = 2 ∨ q = 3 := by omega
    · rw [if_pos (by omega), if_pos rfl]
    · rw [if_neg (by omega), if_pos (by omega), if_neg (by omega), if_pos rfl]
    · rw [if_neg (by omega), if_neg (by omega), if_pos (by omega), if_neg (by omega), if_neg (by omega), if_pos rfl]
    · rw [if_neg (by omega), if_neg (by omega), if_neg (by omega), if_neg (by omega), if_neg (by omega), if_neg (by omega)])
  have HG : Hid ((mixG i : Int) = if q = 0 then (i : Int) else if q = 1 then (5 * (i : Int) + 1) % 16 else if q = 2 then (3 * (i : Int) + 5) % 16 else 7 * (i : Int) % 16) := Lib.hid (by
    unfold mixG
    obtain rfl | rfl | rfl | rfl : q = 0 ∨ q = 1 ∨ q = 2 ∨ q = 3 := by omega
    · rw [if_pos (by omega), if_pos rfl]
    · rw [if_neg (by omega), if_pos (by omega), if_neg (by omega), if_pos rfl]; omega
    · rw [if_neg (by omega), if_neg (by omega), if_pos (by omega), if_neg (by omega), if_neg (by omega), if_pos rfl]; omega
    · rw [if_neg (by omega), if_neg (by omega), if_neg (by omega), if_neg (by omega), if_neg (by omega), if_neg (by omega)]; omega)
  have m0 := mix0 b c d hb hc hd
  have m1 := mix0 d b c hd hb hc
  have m2 := mix2 b c d hb hc hd
  have m3 := mix3 b c d hb hc hd
  have M0 := Lib.hid m0
  have M1 := Lib.hid m1
  have M2 := Lib.hid m2
  have M3 := Lib.hid m3
  clear m0 m1 m2 m3
  have hq4 : q < 4 := by omega
  clear hq
  obtain rfl | rfl | rfl | rfl : q = 0 ∨ q = 1 ∨ q = 2 ∨ q = 3 := by omega
  · go_enter Tryz.func102, Tryz.ntmps102
    go_wp2_with fail
    go_ret2
    exact ⟨by rw [HM.out, HG.out]; exact congrArg (fun v => Ending.returned (.tuple #[.int .u32 v, .int .i64 i])) M0.out, rfl⟩
  · go_enter Tryz.func102, Tryz.ntmps102
    go_wp2_with fail
    go_ret2
    exact ⟨by rw [HM.out, HG.out]; exact congrArg (fun v => Ending.returned (.tuple #[.int .u32 v, .int .i64 _])) M1.out, rfl⟩
  · go_enter Tryz.func102, Tryz.ntmps102
    go_wp2_with fail
    go_ret2
    exact ⟨by rw [HM.out, HG.out]; exact congrArg (fun v => Ending.returned (.tuple #[.int .u32 v, .int .i64 _])) M2.out, rfl⟩
  · go_enter Tryz.func102, Tryz.ntmps102
    go_wp2_with fail
    go_ret2
    exact ⟨by rw [HM.out, HG.out]; exact congrArg (fun v => Ending.returned (.tuple #[.int .u32 v, .int .i64 _])) M3.out, rfl⟩
end Go.Proofs.YteigigepmoicaaaGreatDoor
