/- ConsoleWrong: what its lines tell. Plain. -/
import Derived.Test.YteigigepmoicaaaGreatDoorCon21
namespace Go.Proofs.YteigigepmoicaaaGreatDoor
open Go.RowKit Go.Crc
set_option linter.unusedVariables false
set_option linter.unusedSimpArgs false
def wrongS : List (List UInt8) := [[102, 99, 115], [102, 99, 115, 32, 48], [102, 99, 115, 32, 48, 103], [102, 114, 97, 109, 101, 32, 51, 51], [102, 114, 97, 109, 101, 32, 120, 32, 48, 48], [117, 110, 102, 114, 97, 109, 101], [102, 115, 109, 32, 49], [102, 115, 109, 32, 49, 32, 120], [109, 100, 53, 32, 48], [100, 101, 108, 97, 121, 32, 49, 32, 50, 32, 51], [116, 97, 114, 103, 101, 116, 32, 49, 32, 50, 32, 51], [70, 99, 115, 32, 48, 48], [102, 115, 109, 32, 49, 48, 32, 48], [102, 115, 109, 32, 48, 32, 49, 54], [102, 115, 109, 32, 57, 32, 48], [102, 114, 97, 109, 101, 32, 50, 32, 48, 48], [117, 110, 102, 114, 97, 109, 101, 32, 55, 101], [117, 110, 102, 114, 97, 109, 101, 32, 45], [100, 101, 108, 97, 121, 32, 45, 49, 32, 50, 32, 51, 32, 52], [116, 97, 114, 103, 101, 116, 32, 49, 32, 54, 51, 32, 49, 32, 50], [116, 97, 114, 103, 101, 116, 32, 45, 49, 32, 54, 52, 32, 49, 32, 50], [116, 97, 114, 103, 101, 116, 32, 53, 32, 54, 52, 32, 51, 32, 50]]
def wrongN : List Int := [2800, 2800, 2800, 2800, 2800, 2800, 2800, 2800, 2800, 2800, 2800, 2800, 1000, 1000, 1001, 303, 300, 300, 1200, 2400, 2400, 2400]
def wrongW : List (List UInt8) := wrongN.map errW
theorem wrong_cells : (List.range 22).all (fun j => decide (runM (wrongS.getD j []) = wrongW.getD j [] ++ [10])) = true := by decide +kernel
theorem wrong_run (j : Nat) (hj : j < 22) : runM (wrongS.getD j []) = wrongW.getD j [] ++ [10] := of_decide_eq_true (List.all_eq_true.1 wrong_cells j (List.mem_range.2 hj))
end Go.Proofs.YteigigepmoicaaaGreatDoor
