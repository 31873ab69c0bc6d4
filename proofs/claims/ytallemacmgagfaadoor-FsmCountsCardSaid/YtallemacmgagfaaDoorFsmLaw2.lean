/- The walks of FsmEnds, FsmDowns, FsmAnswers, FsmCounts, FsmTable. -/
import Derived.Test.YtallemacmgagfaaDoorFsmLaw1
import Derived.BigQuiet
import Derived.Deep.QuietTactic
namespace Go.Proofs.YtallemacmgagfaaDoor
open Go.RowKit
set_option linter.unusedVariables false
theorem IntsAt.open {w : World} {v : Value} {l : List Int} (h : IntsAt w v l) : ∃ pa c, v = .slice pa l.length c ∧ ∀ j (h : j < l.length), ∃ g o, pa = some ⟨g, o, none⟩ ∧ w.cell? ⟨g, o + j, none⟩ = some (.int .i64 l[j]) := by
  rcases h with ⟨rfl, rfl⟩ | ⟨g, o, c, rfl, hc⟩
  · exact ⟨none, 0, rfl, fun j h => absurd h (by simp)⟩
  · exact ⟨_, c, rfl, fun j h => ⟨g, o, rfl, hc j h⟩⟩
theorem ends_cells : (List.range 10).all (fun s => decide ((stepSays (s : Int) 3).2.2 = 0 ∧ ((stepSays (s : Int) 3).1 = 0 ∨ (stepSays (s : Int) 3).1 = 2 ∨ (stepSays (s : Int) 3).1 = 4))) = true := by decide +kernel
theorem ends_a : stepSays 0 5 = (0, [], 1001) := by decide +kernel
theorem ends_b : stepSays 2 5 = (0, [], 1001) := by decide +kernel
theorem ends_c : stepSays 4 5 = (2, [4], 0) := by decide +kernel
theorem umod (a : Int) (m : Nat) (hm : 0 < m) (h2 : m ≤ 1000) : ∃ n : Nat, n < m ∧ wrap64 ((IntKind.u64.wrap a).tmod (m : Int)) = (n : Int) := by
  have h : 0 ≤ IntKind.u64.wrap a := by rw [IntKind.wrap_u64]; omega
  rw [Int.tmod_eq_emod_of_nonneg h]
  have h1 := Int.emod_nonneg (IntKind.u64.wrap a) (show (m : Int) ≠ 0 by omega)
  have h3 := Int.emod_lt_of_pos (IntKind.u64.wrap a) (show (0 : Int) < m by omega)
  rw [IntWalk.wrap64_in _ ⟨by omega, by omega⟩]
  exact ⟨(IntKind.u64.wrap a % (m : Int)).toNat, by omega, by omega⟩
set_option maxHeartbeats 1000000 in
theorem fsmEnds_walk (s : Int) (ml : Int) (w : World) (hm : MaxLenIs w ml) :
    Calls Tryd.prog 6 #[.int .i64 s] w fun e w' => e = .returned (.bool true) ∧ Below w.heap.size w w' := by
  obtain ⟨sn, hsn, hs⟩ : ∃ sn : Nat, sn < 10 ∧ wrap64 ((IntKind.u64.wrap s).tmod 10) = (sn : Int) := umod s 10 (by decide) (by decide)
  have hq := List.all_eq_true.1 ends_cells sn (List.mem_range.2 hsn)
  simp only [decide_eq_true_eq] at hq
  have hf := fun w hm => fstep_any (sn : Int) 3 ml w hm
  obtain ⟨⟨t, l, en⟩, hx⟩ : ∃ x, stepSays (sn : Int) 3 = x := ⟨_, rfl⟩
  rw [hx] at hf hq
  obtain ⟨h0, ht⟩ := hq
  simp only at h0 ht
  subst h0
  clear hx
  go_enter Tryd.func6, Tryd.ntmps6
  go_wp2_with fail
  refine (awake10_any ml _ hm).mono ?_
  rintro e w1 ⟨rfl, hb1⟩
  go_wp2_with fail
  refine (hf _ (hm.below hb1)).mono ?_
  rintro e w2 ⟨o, rfl, -, hb2⟩
  have hB2 := seqB hb1 hb2
  clear hb1 hb2 hs
  go_wp2_with (go_at_call 13; refine (num_any _ _).mono ?_; rintro e w' ⟨rfl, rfl⟩)
  go_loopw [4, 7] (fun t i wr => ∃ k : Nat, k ≤ 3 ∧ i = .int .i64 k ∧ Below w.heap.size w wr ∧ (t = .int .i64 0 ∨ t = .int .i64 2 ∨ (k = 0 ∧ t = .int .i64 4))) (fun _ i _ => 3 - (intOf i).toNat)
  case atStart =>
    refine ⟨0, by omega, rfl, hB2, ?_⟩
    rcases ht with rfl | rfl | rfl
    · exact .inl rfl
    · exact .inr (.inl rfl)
    · exact .inr (.inr ⟨rfl, rfl⟩)
  case round =>
    obtain ⟨k, hk, rfl, hbl, hcase⟩ := hrel
    clear hB2 ht hf
    by_cases hlt : k < 3
    · rcases hcase with rfl | rfl | ⟨rfl, rfl⟩
      · go_wp2_with fail
        refine (fstep_any _ _ ml _ (hm.below hbl)).mono ?_
        rw [ends_a]
        rintro e w3 ⟨o3, rfl, -, hb3⟩
        go_wp2_with (go_at_call 13; refine (num_any _ _).mono ?_; rintro e w' ⟨rfl, rfl⟩)
        go_roundw
        case rel => exact ⟨k + 1, by omega, by go_num, seqB hbl hb3, .inl rfl⟩
        case measure => simp [intOf]; omega
      · go_wp2_with fail
        refine (fstep_any _ _ ml _ (hm.below hbl)).mono ?_
        rw [ends_b]
        rintro e w3 ⟨o3, rfl, -, hb3⟩
        go_wp2_with (go_at_call 13; refine (num_any _ _).mono ?_; rintro e w' ⟨rfl, rfl⟩)
        go_roundw
        case rel => exact ⟨k + 1, by omega, by go_num, seqB hbl hb3, .inr (.inl rfl)⟩
        case measure => simp [intOf]; omega
      · go_wp2_with fail
        refine (fstep_any _ _ ml _ (hm.below hbl)).mono ?_
        rw [ends_c]
        rintro e w3 ⟨o3, rfl, -, hb3⟩
        go_wp2_with (go_at_call 13; refine (num_any _ _).mono ?_; rintro e w' ⟨rfl, rfl⟩)
        go_roundw
        case rel => exact ⟨1, by omega, by go_num, seqB hbl hb3, .inr (.inl rfl)⟩
        case measure => simp [intOf]
    · rcases hcase with rfl | rfl | ⟨rfl, rfl⟩
      · go_wp2_with fail
        go_ret
        exact ⟨rfl, hbl⟩
      · go_wp2_with fail
        go_ret
        exact ⟨rfl, hbl⟩
      · omega
theorem downs_cells : (List.range 10).all (fun s => decide (if s ≤ 1 then stepSays (s : Int) 1 = (0, [], 1001) else (stepSays (s : Int) 1).2.2 = 0 ∧ ((stepSays (s : Int) 1).1 = 0 ∨ (stepSays (s : Int) 1).1 = 1) ∧ (stepSays (s : Int) 1).2.1.any (· == 2) = decide (s = 9))) = true := by decide +kernel
theorem any_take (l : List Int) (p : Int → Bool) (k : Nat) (hk : k < l.length) : (l.take (k + 1)).any p = ((l.take k).any p || p l[k]) := by
  rw [List.take_succ_eq_append_getElem hk, List.any_append]; simp
set_option maxHeartbeats 1000000 in
theorem fsmDowns_walk (s : Int) (op : Bool) (ml : Int) (w : World) (hm : MaxLenIs w ml) :
    Calls Tryd.prog 7 #[.int .i64 s, .bool op] w fun e w' => e = .returned (.bool true) ∧ Below w.heap.size w w' := by
  obtain ⟨sn, hsn, hs⟩ : ∃ sn : Nat, sn < 10 ∧ wrap64 ((IntKind.u64.wrap s).tmod 10) = (sn : Int) := umod s 10 (by decide) (by decide)
  have hq := List.all_eq_true.1 downs_cells sn (List.mem_range.2 hsn)
  simp only [decide_eq_true_eq] at hq
  have hl := acts_len (sn : Int) 1
  have hf := fun w hm => fstep_any (sn : Int) 1 ml w hm
  obtain ⟨⟨t, l, en⟩, hx⟩ : ∃ x, stepSays (sn : Int) 1 = x := ⟨_, rfl⟩
  rw [hx] at hf hq hl
  simp only at hq hl
  by_cases h1 : sn ≤ 1
  · rw [if_pos h1] at hq
    simp only [Prod.mk.injEq] at hq
    obtain ⟨rfl, rfl, rfl⟩ := hq
    clear hx hl
    go_enter Tryd.func7, Tryd.ntmps7
    go_wp2_with fail
    refine (awake10_any ml _ hm).mono ?_
    rintro e w1 ⟨rfl, hb1⟩
    go_wp2_with fail
    refine (hf _ (hm.below hb1)).mono ?_
    rintro e w2 ⟨o, rfl, ho, hb2⟩
    obtain ⟨pa, c, rfl, -⟩ := ho.at.open
    have hB2 := seqB hb1 hb2
    clear hb1 hb2 ho
    go_wp2_with (go_at_call 13; refine (num_any _ _).mono ?_; rintro e w' ⟨rfl, rfl⟩)
    go_ret
    exact ⟨rfl, hB2⟩
  · rw [if_neg h1] at hq
    obtain ⟨rfl, ht, hd⟩ := hq
    obtain ⟨tn, rfl, ht1⟩ : ∃ tn : Nat, t = tn ∧ tn ≤ 1 := by
      rcases ht with rfl | rfl
      · exact ⟨0, rfl, by omega⟩
      · exact ⟨1, rfl, by omega⟩
    have HD := Lib.hid hd
    clear hx hd ht
    go_enter Tryd.func7, Tryd.ntmps7
    go_wp2_with fail
    refine (awake10_any ml _ hm).mono ?_
    rintro e w1 ⟨rfl, hb1⟩
    go_wp2_with fail
    refine (hf _ (hm.below hb1)).mono ?_
    rintro e w2 ⟨o, rfl, ho, hb2⟩
    have hB2 := seqB hb1 hb2
    clear hb1 hb2 hf
    rcases ho.at with ⟨rfl, rfl⟩ | ⟨g, o, c, rfl, hcell⟩
    · clear ho
      have HD2 : Hid (decide (sn = 9) = false) := Lib.hid (by rw [← HD.out]; rfl)
      go_wp2_with fail
      go_loopw [9, 10] (fun d i wr => i = .int .i64 0 ∧ d = .bool false ∧ w2 = wr) (fun _ i _ => 0)
      case atStart => exact ⟨rfl, rfl, rfl⟩
      case round =>
        obtain ⟨rfl, rfl, rfl⟩ := hrel
        have h9 : sn ≠ 9 := by have := HD2.out; simpa using this
        have hq9 : ((sn : Int) == 9) = false := beq_eq_false_iff_ne.2 (by omega)
        go_wp2_with (go_at_call 13; refine (num_any _ _).mono ?_; rintro e w' ⟨rfl, rfl⟩)
        all_goals
          go_ret
          exact ⟨rfl, hB2⟩
    · have HC := Lib.hid hcell
      obtain ⟨n, hn⟩ : ∃ n, l.length = n := ⟨_, rfl⟩
      have HN := Lib.hid hn
      rw [hn] at hl ⊢
      clear ho hcell hn
      go_wp2_with fail
      go_loopw [9, 10] (fun d i wr => ∃ k : Nat, k ≤ n ∧ i = .int .i64 k ∧ Below w2.heap.size w2 wr ∧ d = .bool ((l.take k).any (· == 2))) (fun _ i _ => n - (intOf i).toNat)
      case atStart => exact ⟨0, Nat.zero_le _, rfl, Below.refl _ _, rfl⟩
      case round =>
        obtain ⟨k, hk, rfl, hbl, rfl⟩ := hrel
        by_cases hlt : k < n
        · have hkl : k < l.length := by rw [HN.out]; exact hlt
          have hc := (hbl.cell (block_lt_of_cell (HC.out k hkl))).trans (HC.out k hkl)
          have HA := Lib.hid (any_take l (· == 2) k hkl)
          obtain ⟨x, hx⟩ : ∃ x, l[k] = x := ⟨_, rfl⟩
          rw [hx] at hc HA
          obtain ⟨b, hb⟩ : ∃ b, (l.take k).any (· == 2) = b := ⟨_, rfl⟩
          rw [hb] at HA ⊢
          clear hx hb
          cases b
          · go_wp2_with fail
            go_roundw
            case rel => exact ⟨k + 1, by omega, by go_num, hbl, by rw [HA.out]; rfl⟩
            case measure => simp [intOf]; omega
          · go_wp2_with fail
            go_roundw
            case rel => exact ⟨k + 1, by omega, by go_num, hbl, by rw [HA.out]; rfl⟩
            case measure => simp [intOf]; omega
        · obtain rfl : k = n := by omega
          have e9 : (l.take k).any (· == 2) = decide (sn = 9) := by rw [← HN.out, List.take_length]; exact HD.out
          rw [e9]
          have hBw := seqB hB2 hbl
          clear e9
          by_cases h9 : sn = 9
          · subst h9
            go_wp2_with (go_at_call 13; refine (num_any _ _).mono ?_; rintro e w' ⟨rfl, rfl⟩)
            all_goals
              go_ret
              exact ⟨rfl, hBw⟩
          · have hq9 : ((sn : Int) == 9) = false := beq_eq_false_iff_ne.2 (by omega)
            have hd9 : decide (sn = 9) = false := decide_eq_false h9
            rw [hd9]
            go_wp2_with (go_at_call 13; refine (num_any _ _).mono ?_; rintro e w' ⟨rfl, rfl⟩)
            all_goals
              go_ret
              exact ⟨rfl, hBw⟩
end Go.Proofs.YtallemacmgagfaaDoor
