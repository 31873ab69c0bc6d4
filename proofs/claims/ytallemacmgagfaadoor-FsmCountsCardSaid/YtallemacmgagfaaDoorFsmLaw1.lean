/- The walks of Fsms, FsmEnds, FsmDowns, FsmAnswers, FsmCounts. -/
import Derived.Test.YtallemacmgagfaaDoorFsmLaw
namespace Go.Proofs.YtallemacmgagfaaDoor
open Go.RowKit
set_option linter.unusedVariables false
theorem acts_cells : (List.range 16).all (fun v => (List.range 10).all fun s => decide ((stepSays (s : Int) (v : Int)).2.1.length ≤ 3)) = true := by decide +kernel
theorem acts_len (s v : Int) : (stepSays s v).2.1.length ≤ 3 := by
  by_cases h : s < 0 ∨ 10 ≤ s ∨ v < 0 ∨ 16 ≤ v
  · unfold stepSays; rw [if_pos h]; simp
  · obtain ⟨sn, rfl⟩ : ∃ sn : Nat, s = sn := ⟨s.toNat, by omega⟩
    obtain ⟨vn, rfl⟩ : ∃ vn : Nat, v = vn := ⟨v.toNat, by omega⟩
    simpa using List.all_eq_true.1 (List.all_eq_true.1 acts_cells vn (List.mem_range.2 (by omega))) sn (List.mem_range.2 (by omega))
set_option maxHeartbeats 1000000 in
theorem fsms_walk (s v : Int) (ml : Int) (w : World) (hm : MaxLenIs w ml) :
    Calls Tryd.prog 3 #[.int .i64 s, .int .i64 v] w fun e w' => e = .returned (.bool true) ∧ Below w.heap.size w w' := by
  have hl := acts_len s v
  have hr := fun w => rstep_any s v w
  have hf := fun w hm => fstep_any s v ml w hm
  obtain ⟨⟨t, l, en⟩, hx⟩ : ∃ x, stepSays s v = x := ⟨_, rfl⟩
  rw [hx] at hr hf hl
  clear hx
  go_enter Tryd.func3, Tryd.ntmps3
  go_wp2_with fail
  refine (hf _ hm).mono ?_
  rintro e w1 ⟨o1, rfl, ho1, hb1⟩
  have hlt1 := ho1.lt
  go_wp2_with fail
  refine (hf _ (hm.below hb1)).mono ?_
  rintro e w2 ⟨o2, rfl, ho2, hb2⟩
  have hB2 := seqB hb1 hb2
  replace ho1 := ho1.below hb2
  have hz1 := hb1.size
  have hz2 := hb2.size
  clear hb1 hb2
  go_wp2_with fail
  refine (hr _).mono ?_
  rintro e w3 ⟨o3, rfl, ho3, hb3⟩
  have hB3 := seqB hB2 hb3
  replace ho1 := ho1.below hb3
  replace ho2 := ho2.below hb3
  clear hB2 hb3
  go_wp2_with fail
  refine (sameInts_any _ _ l _ ho1.at ho3.at (by omega)).mono ?_
  rintro e w4 ⟨rfl, hb4⟩
  have hB4 := seqB hB3 hb4
  replace ho1 := ho1.below hb4
  replace ho2 := ho2.below hb4
  replace ho3 := ho3.below hb4
  clear hB3 hb4
  go_wp2_with (go_at_call 13; refine (num_any _ _).mono ?_; rintro e w' ⟨rfl, rfl⟩)
  refine (spoilInts_any _ l _ _ ho1 (by omega)).mono ?_
  rintro e w5 ⟨rfl, hon⟩
  replace ho2 := ho2.only hon hlt1
  replace ho3 := ho3.only hon (fun k hk => by have := hlt1 k hk; omega)
  have hB5 : Below w.heap.size w w5 := hB4.trans (hon.1 _ ho1.block)
  clear hB4 hon ho1 hlt1
  go_wp2_with fail
  refine (sameInts_any _ _ l _ ho2.at ho3.at (by omega)).mono ?_
  rintro e w6 ⟨rfl, hb6⟩
  have hB6 := seqB hB5 hb6
  clear hB5 hb6
  go_wp2_with fail
  refine (awake10_any ml _ (hm.below hB6)).mono ?_
  rintro e w7 ⟨rfl, hb7⟩
  go_wp2_with fail
  go_ret
  exact ⟨rfl, seqB hB6 hb7⟩
end Go.Proofs.YtallemacmgagfaaDoor
