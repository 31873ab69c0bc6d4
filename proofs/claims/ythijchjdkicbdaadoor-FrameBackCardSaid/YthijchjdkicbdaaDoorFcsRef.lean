/- Contracts of the reference's sums: Fcs, Sum, Unsum; and Num. -/
import Derived.Test.YthijchjdkicbdaaDoorFcs
namespace Go.Proofs.YthijchjdkicbdaaDoor
open Go.RowKit Go.Crc
theorem and1_i64 (x : Nat) (h : x < 65536) : bits BinOp.and IntKind.i64 (x : Int) 1 = ((x % 2 : Nat) : Int) := by
  have := i64_and_nat x 1 (by omega) (by omega)
  rw [nat_mask1] at this
  simpa using this
theorem raw_take2 (s : ByteArray) (k : Nat) (h : k < s.size) : raw (s.data.toList.take (k + 1)) = fit 8 (raw (s.data.toList.take k) ^^^ s[k].toNat) := by
  have e : s.data.toList.take (k + 1) = s.data.toList.take k ++ [s[k]] := by
    rw [List.take_succ_eq_append_getElem (by simpa using h)]; rfl
  rw [e, raw_snoc]; rfl
theorem num_any (x : Int) (w : World) : Calls Tryd.prog 16 #[.int .i64 x] w fun e w' => e = .returned (.int .i64 x) ∧ w = w' := by
  go_enter Tryd.func16, Tryd.ntmps16
  go_wp2
  go_ret
  exact ⟨rfl, rfl⟩
end Go.Proofs.YthijchjdkicbdaaDoor
