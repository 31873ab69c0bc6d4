/- The law's awake, one; ConsoleBegins walked. -/
import Derived.Test.YteigigepmoicaaaGreatDoorCon18
namespace Go.Proofs.YteigigepmoicaaaGreatDoor
open Go.RowKit Go.Crc
set_option linter.unusedVariables false
set_option linter.unusedSimpArgs false
set_option maxRecDepth 100000 in
set_option maxHeartbeats 4000000 in
theorem awake28_any (ml : Int) (w : World) (ht : TabW w) (hm : MaxLenIs w ml) :
    Calls Tryz.prog 13 #[] w fun e w' => e = .returned (.bool true) ∧ Below w.heap.size w w' := by
  have hr := fun w ht hm => run_any (bytesOf awakeS) ml w (by rw [bytesOf_size]; decide) ht hm
  rw [show (bytesOf awakeS).data.toList = awakeS from rfl, awake_run] at hr
  go_enter Tryz.func13, Tryz.ntmps13
  go_wp2_with fail
  refine (hr w ht hm).mono ?_
  rintro e w1 ⟨rfl, hb1⟩
  go_wp2_with (go_at_call 12; refine (num_any _ _).mono ?_; rintro e w' ⟨rfl, rfl⟩)
  go_ret
  refine ⟨?_, hb1⟩
  show Ending.returned (Value.bool ((bytesOf awakeT).toList == awakeT)) = _
  rw [ba_toList]
  rfl
set_option maxRecDepth 100000 in
set_option maxHeartbeats 4000000 in
theorem one_any (s : ByteArray) (P : List UInt8) (ml : Int) (w : World) (hs : s.size ≤ 65536) (hP : runM s.data.toList = P ++ [10]) (ht : TabW w) (hm : MaxLenIs w ml) :
    Calls Tryz.prog 17 #[.string s] w fun e w' => e = .returned (.string (bytesOf P)) ∧ Below w.heap.size w w' := by
  have hr := run_any s ml w hs ht hm
  have hln := run_len s.data.toList (by rw [len_toList]; exact hs)
  rw [hP] at hr hln
  have hn : P.length + 1 ≤ 1000001 * 65537 := by simpa using hln
  obtain ⟨T, hT⟩ : ∃ T, bytesOf (P ++ [10]) = T := ⟨_, rfl⟩
  obtain ⟨n, hN⟩ : ∃ n, P.length = n := ⟨_, rfl⟩
  have hTs : T.size = n + 1 := by rw [← hT, bytesOf_size, ← hN]; simp
  have hTn : n < T.size := by omega
  have hTl : T.data.toList = P ++ [10] := by rw [← hT]; rfl
  have hT10 : T[n].toNat = 10 := by
    have e1 : T[n] = T.data.toList[n]'(by rw [len_toList]; exact hTn) := rfl
    rw [e1, List.getElem_of_eq hTl, List.getElem_append_right (by omega)]
    simp
  have hwr : wrap64 (n : Int) = n := IntWalk.wrap64_in _ ⟨by omega, by omega⟩
  have hTx : T.extract 0 n = bytesOf P := by
    subst hT hN
    refine ba_ext ?_
    simp [bytesOf]
  have hTe : T.toList.isEmpty = false := by
    rw [← hT, ba_toList]
    simp [bytesOf]
  rw [hT] at hr
  clear hT hN hP hln hTl
  go_enter Tryz.func17, Tryz.ntmps17
  go_wp2_with fail
  refine hr.mono ?_
  rintro e w1 ⟨rfl, hb1⟩
  go_wp2_with (go_at_call 12; refine (num_any _ _).mono ?_; rintro e w' ⟨rfl, rfl⟩)
  go_ret
  exact ⟨rfl, hb1⟩
theorem run_some (s : ByteArray) (ml : Int) (w : World) (ht : TabW w) (hm : MaxLenIs w ml) :
    Calls Tryz.prog 11 #[.string s] w fun e w' => ∃ S E, e = .returned (.tuple #[.string S, .int .i64 E]) ∧ Below w.heap.size w w' := by
  by_cases h : s.size ≤ 65536
  · refine (run_any s ml w h ht hm).mono ?_
    rintro e w' ⟨rfl, hb⟩
    exact ⟨_, _, rfl, hb⟩
  · refine (runlong_any s w (by omega)).mono ?_
    rintro e w' ⟨rfl, hb⟩
    exact ⟨_, _, rfl, hb⟩
end Go.Proofs.YteigigepmoicaaaGreatDoor
