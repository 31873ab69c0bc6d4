/- The walks of FsmAnswers, FsmCounts, FsmTable, FsmUps. -/
import Derived.Test.YtallemacmgagfaaDoorFsmLaw2
namespace Go.Proofs.YtallemacmgagfaaDoor
open Go.RowKit
set_option linter.unusedVariables false
theorem answers_cells : (List.range 4).all (fun s => [false, true].all fun good => decide ((stepSays (6 + (s : Int)) (if good then 6 else 7)).2.2 = 0 ∧ (stepSays (6 + (s : Int)) (if good then 6 else 7)).2.1.count (if good then 8 else 9) = 1 ∧ (if good then (stepSays (6 + (s : Int)) 6).1 = 8 ∨ (stepSays (6 + (s : Int)) 6).1 = 9 else (stepSays (6 + (s : Int)) 7).1 = 6 ∨ (stepSays (6 + (s : Int)) 7).1 = 7))) = true := by decide +kernel
theorem count_take (l : List Int) (x : Int) (k : Nat) (hk : k < l.length) : (l.take (k + 1)).count x = (l.take k).count x + if l[k] = x then 1 else 0 := by
  rw [List.take_succ_eq_append_getElem hk, List.count_append]; simp [List.count_cons]
theorem count_take_le (l : List Int) (x : Int) (k : Nat) : (l.take k).count x ≤ l.length := Nat.le_trans List.count_le_length (by simp; omega)
set_option maxHeartbeats 1000000 in
theorem fsmAnswers_walk (s : Int) (good : Bool) (ml : Int) (w : World) (hm : MaxLenIs w ml) :
    Calls Tryd.prog 8 #[.int .i64 s, .bool good] w fun e w' => e = .returned (.bool true) ∧ Below w.heap.size w w' := by
  obtain ⟨sn, hsn, hs⟩ : ∃ sn : Nat, sn < 4 ∧ wrap64 ((IntKind.u64.wrap s).tmod 4) = (sn : Int) := umod s 4 (by decide) (by decide)
  have hq := List.all_eq_true.1 (List.all_eq_true.1 answers_cells sn (List.mem_range.2 hsn)) good (by cases good <;> simp)
  simp only [decide_eq_true_eq] at hq
  cases good
  · simp only [if_false, Bool.false_eq_true] at hq
    have hl := acts_len (6 + (sn : Int)) 7
    have hf := fun w hm => fstep_any (6 + (sn : Int)) 7 ml w hm
    obtain ⟨⟨t, l, en⟩, hx⟩ : ∃ x, stepSays (6 + (sn : Int)) 7 = x := ⟨_, rfl⟩
    rw [hx] at hf hq hl
    simp only at hq hl
    obtain ⟨rfl, hcn, ht⟩ := hq
    have HCN := Lib.hid hcn
    clear hx
    go_enter Tryd.func8, Tryd.ntmps8
    go_wp2_with fail
    refine (awake10_any ml _ hm).mono ?_
    rintro e w1 ⟨rfl, hb1⟩
    go_wp2_with fail
    refine (hf _ (hm.below hb1)).mono ?_
    rintro e w2 ⟨o, rfl, ho, hb2⟩
    have hB2 := seqB hb1 hb2
    clear hb1 hb2 hf
    rcases ho.at with ⟨rfl, rfl⟩ | ⟨g, o, c, rfl, hcell⟩
    · exact absurd hcn (by decide)
    · have HC := Lib.hid hcell
      obtain ⟨n, hn⟩ : ∃ n, l.length = n := ⟨_, rfl⟩
      have HN := Lib.hid hn
      rw [hn] at hl ⊢
      clear ho hcell hn hcn
      go_wp2_with fail
      go_loopw [11, 12] (fun d i wr => ∃ k : Nat, k ≤ n ∧ i = .int .i64 k ∧ Below w2.heap.size w2 wr ∧ d = .int .i64 ((l.take k).count 9 : Nat)) (fun _ i _ => n - (intOf i).toNat)
      case atStart => exact ⟨0, Nat.zero_le _, rfl, Below.refl _ _, rfl⟩
      case round =>
        obtain ⟨k, hk, rfl, hbl, rfl⟩ := hrel
        have hcl := count_take_le l 9 k
        rw [HN.out] at hcl
        by_cases hlt : k < n
        · have hkl : k < l.length := by rw [HN.out]; exact hlt
          have hc := (hbl.cell (block_lt_of_cell (HC.out k hkl))).trans (HC.out k hkl)
          have hct := count_take l 9 k hkl
          obtain ⟨x, hx⟩ : ∃ x, l[k] = x := ⟨_, rfl⟩
          rw [hx] at hc hct
          obtain ⟨b, hb⟩ : ∃ b, (l.take k).count 9 = b := ⟨_, rfl⟩
          rw [hb] at hct hcl ⊢
          clear hx hb
          by_cases h5 : x = 9
          · subst h5
            rw [if_pos rfl] at hct
            have HB := Lib.hid hct
            clear hct
            go_wp2_with fail
            go_roundw
            case rel => exact ⟨k + 1, by omega, by go_num, hbl, by rw [HB.out]; go_num⟩
            case measure => simp [intOf]; omega
          · rw [if_neg h5] at hct
            have HB := Lib.hid hct
            have h5q : (x == 9) = false := beq_eq_false_iff_ne.2 h5
            clear hct h5
            go_wp2_with fail
            go_roundw
            case rel => exact ⟨k + 1, by omega, by go_num, hbl, by rw [HB.out]; go_num⟩
            case measure => simp [intOf]; omega
        · obtain rfl : k = n := by omega
          have e9 : (l.take k).count 9 = 1 := by rw [← HN.out, List.take_length]; exact HCN.out
          rw [e9]
          have hBw := seqB hB2 hbl
          clear e9 hcl
          rcases ht with rfl | rfl
          all_goals
            go_wp2_with (go_at_call 13; refine (num_any _ _).mono ?_; rintro e w' ⟨rfl, rfl⟩)
            go_ret
            exact ⟨rfl, hBw⟩
  · simp only [if_true] at hq
    have hl := acts_len (6 + (sn : Int)) 6
    have hf := fun w hm => fstep_any (6 + (sn : Int)) 6 ml w hm
    obtain ⟨⟨t, l, en⟩, hx⟩ : ∃ x, stepSays (6 + (sn : Int)) 6 = x := ⟨_, rfl⟩
    rw [hx] at hf hq hl
    simp only at hq hl
    obtain ⟨rfl, hcn, ht⟩ := hq
    have HCN := Lib.hid hcn
    clear hx
    go_enter Tryd.func8, Tryd.ntmps8
    go_wp2_with fail
    refine (awake10_any ml _ hm).mono ?_
    rintro e w1 ⟨rfl, hb1⟩
    go_wp2_with fail
    refine (hf _ (hm.below hb1)).mono ?_
    rintro e w2 ⟨o, rfl, ho, hb2⟩
    have hB2 := seqB hb1 hb2
    clear hb1 hb2 hf
    rcases ho.at with ⟨rfl, rfl⟩ | ⟨g, o, c, rfl, hcell⟩
    · exact absurd hcn (by decide)
    · have HC := Lib.hid hcell
      obtain ⟨n, hn⟩ : ∃ n, l.length = n := ⟨_, rfl⟩
      have HN := Lib.hid hn
      rw [hn] at hl ⊢
      clear ho hcell hn hcn
      go_wp2_with fail
      go_loopw [11, 12] (fun d i wr => ∃ k : Nat, k ≤ n ∧ i = .int .i64 k ∧ Below w2.heap.size w2 wr ∧ d = .int .i64 ((l.take k).count 8 : Nat)) (fun _ i _ => n - (intOf i).toNat)
      case atStart => exact ⟨0, Nat.zero_le _, rfl, Below.refl _ _, rfl⟩
      case round =>
        obtain ⟨k, hk, rfl, hbl, rfl⟩ := hrel
        have hcl := count_take_le l 8 k
        rw [HN.out] at hcl
        by_cases hlt : k < n
        · have hkl : k < l.length := by rw [HN.out]; exact hlt
          have hc := (hbl.cell (block_lt_of_cell (HC.out k hkl))).trans (HC.out k hkl)
          have hct := count_take l 8 k hkl
          obtain ⟨x, hx⟩ : ∃ x, l[k] = x := ⟨_, rfl⟩
          rw [hx] at hc hct
          obtain ⟨b, hb⟩ : ∃ b, (l.take k).count 8 = b := ⟨_, rfl⟩
          rw [hb] at hct hcl ⊢
          clear hx hb
          by_cases h5 : x = 8
          · subst h5
            rw [if_pos rfl] at hct
            have HB := Lib.hid hct
            clear hct
            go_wp2_with fail
            go_roundw
            case rel => exact ⟨k + 1, by omega, by go_num, hbl, by rw [HB.out]; go_num⟩
            case measure => simp [intOf]; omega
          · rw [if_neg h5] at hct
            have HB := Lib.hid hct
            have h5q : (x == 8) = false := beq_eq_false_iff_ne.2 h5
            clear hct h5
            go_wp2_with fail
            go_roundw
            case rel => exact ⟨k + 1, by omega, by go_num, hbl, by rw [HB.out]; go_num⟩
            case measure => simp [intOf]; omega
        · obtain rfl : k = n := by omega
          have e9 : (l.take k).count 8 = 1 := by rw [← HN.out, List.take_length]; exact HCN.out
          rw [e9]
          have hBw := seqB hB2 hbl
          clear e9 hcl
          rcases ht with rfl | rfl
          all_goals
            go_wp2_with (go_at_call 13; refine (num_any _ _).mono ?_; rintro e w' ⟨rfl, rfl⟩)
            go_ret
            exact ⟨rfl, hBw⟩
def begunTo (l : List Int) : Nat → Int
  | 0 => -1
  | k + 1 => if l.getD k 0 = 5 then k else begunTo l k
def countsOk (x : Int × List Int × Int) (v : Int) : Bool :=
  if x.2.2 = 0 then ((List.range x.2.1.length).all fun k => decide (1 ≤ x.2.1.getD k 0 ∧ x.2.1.getD k 0 ≤ 13 ∧ (x.2.1.getD k 0 ≠ 10 ∨ 0 ≤ begunTo x.2.1 (k + 1) ∨ v = 4))) && decide (begunTo x.2.1 x.2.1.length ≤ 1)
  else decide (x.2.2 = 1001 ∧ x.2.1 = [])
theorem counts_cells : (List.range 16).all (fun v => (List.range 10).all fun s => countsOk (stepSays (s : Int) (v : Int)) v) = true := by decide +kernel
theorem counts_ok (s v : Nat) (hs : s < 10) (hv : v < 16) : countsOk (stepSays s v) v = true :=
  List.all_eq_true.1 (List.all_eq_true.1 counts_cells v (List.mem_range.2 hv)) s (List.mem_range.2 hs)
theorem begunTo_bd (l : List Int) (k : Nat) : -1 ≤ begunTo l k ∧ begunTo l k < k := by
  induction k with
  | zero => simp [begunTo]
  | succ k ih => unfold begunTo; split <;> omega
set_option maxHeartbeats 2000000 in
theorem fsmCounts_walk (s v : Int) (ml : Int) (w : World) (hm : MaxLenIs w ml) :
    Calls Tryd.prog 9 #[.int .i64 s, .int .i64 v] w fun e w' => e = .returned (.bool true) ∧ Below w.heap.size w w' := by
  obtain ⟨sn, hsn, hs⟩ : ∃ sn : Nat, sn < 10 ∧ wrap64 ((IntKind.u64.wrap s).tmod 10) = (sn : Int) := umod s 10 (by decide) (by decide)
  obtain ⟨vn, hvn, hv⟩ : ∃ vn : Nat, vn < 16 ∧ wrap64 ((IntKind.u64.wrap v).tmod 16) = (vn : Int) := umod v 16 (by decide) (by decide)
  have hq := counts_ok sn vn hsn hvn
  have hl := acts_len (sn : Int) (vn : Int)
  have hf := fun w hm => fstep_any (sn : Int) (vn : Int) ml w hm
  obtain ⟨⟨t, l, en⟩, hx⟩ : ∃ x, stepSays (sn : Int) (vn : Int) = x := ⟨_, rfl⟩
  rw [hx] at hf hq hl
  simp only [countsOk] at hq hl
  clear hx
  by_cases he : en = 0
  · subst he
    rw [if_pos rfl, Bool.and_eq_true, decide_eq_true_eq] at hq
    obtain ⟨hq1, hq2⟩ := hq
    have HQ1 := Lib.hid hq1
    have HQ2 := Lib.hid hq2
    clear hq1 hq2
    go_enter Tryd.func9, Tryd.ntmps9
    go_wp2_with fail
    refine (awake10_any ml _ hm).mono ?_
    rintro e w1 ⟨rfl, hb1⟩
    go_wp2_with fail
    refine (hf _ (hm.below hb1)).mono ?_
    rintro e w2 ⟨o, rfl, ho, hb2⟩
    have hB2 := seqB hb1 hb2
    clear hb1 hb2 hf
    rcases ho.at with ⟨rfl, rfl⟩ | ⟨g, o, c, rfl, hcell⟩
    · clear ho
      go_wp2_with (go_at_call 13; refine (num_any _ _).mono ?_; rintro e w' ⟨rfl, rfl⟩)
      go_loopw [10, 11] (fun d i wr => i = .int .i64 0 ∧ d = .int .i64 (-1) ∧ w2 = wr) (fun _ i _ => 0)
      case atStart => exact ⟨rfl, rfl, rfl⟩
      case round =>
        obtain ⟨rfl, rfl, rfl⟩ := hrel
        go_wp2_with fail
        all_goals
          go_ret
          exact ⟨rfl, hB2⟩
    · have HC := Lib.hid hcell
      obtain ⟨n, hn⟩ : ∃ n, l.length = n := ⟨_, rfl⟩
      have HN := Lib.hid hn
      rw [hn] at hl ⊢
      clear ho hcell hn
      go_wp2_with (go_at_call 13; refine (num_any _ _).mono ?_; rintro e w' ⟨rfl, rfl⟩)
      go_loopw [10, 11] (fun d i wr => ∃ k : Nat, k ≤ n ∧ i = .int .i64 k ∧ Below w2.heap.size w2 wr ∧ d = .int .i64 (begunTo l k)) (fun _ i _ => n - (intOf i).toNat)
      case atStart => exact ⟨0, Nat.zero_le _, rfl, Below.refl _ _, rfl⟩
      case round =>
        obtain ⟨k, hk, rfl, hbl, rfl⟩ := hrel
        have hbd := begunTo_bd l k
        by_cases hlt : k < n
        · have hkl : k < l.length := by rw [HN.out]; exact hlt
          have hc := (hbl.cell (block_lt_of_cell (HC.out k hkl))).trans (HC.out k hkl)
          have hgd : l.getD k 0 = l[k] := by rw [List.getD_eq_getElem?_getD, List.getElem?_eq_getElem hkl]; rfl
          have hq := List.all_eq_true.1 HQ1.out k (List.mem_range.2 hkl)
          simp only [decide_eq_true_eq] at hq
          have hbs : begunTo l (k + 1) = if l.getD k 0 = 5 then (k : Int) else begunTo l k := rfl
          rw [hgd] at hq hbs
          obtain ⟨x, hx⟩ : ∃ x, l[k] = x := ⟨_, rfl⟩
          rw [hx] at hc hq hbs
          obtain ⟨b, hb⟩ : ∃ b, begunTo l k = b := ⟨_, rfl⟩
          rw [hb] at hbd hbs ⊢
          obtain ⟨q1, q2, q3⟩ := hq
          clear hx hb hgd
          by_cases h5 : x = 5
          · subst h5
            rw [if_pos rfl] at hbs
            have HB := Lib.hid hbs
            clear hbs q3
            go_wp2_with fail
            all_goals
              go_roundw
              case rel => exact ⟨k + 1, by omega, by go_num, hbl, by rw [HB.out]⟩
              case measure => simp [intOf]; omega
          · rw [if_neg h5] at hbs
            rw [hbs] at q3
            have HB := Lib.hid hbs
            have h5q : (x == 5) = false := beq_eq_false_iff_ne.2 h5
            clear hbs
            by_cases h10 : x = 10
            · subst h10
              have q4 : 0 ≤ b ∨ (vn : Int) = 4 := by omega
              clear q3 h5
              rcases q4 with q4 | q4
              · go_wp2_with fail
                all_goals
                  go_roundw
                  case rel => exact ⟨k + 1, by omega, by go_num, hbl, by rw [HB.out]⟩
                  case measure => simp [intOf]; omega
              · have h4 : ((vn : Int) != 4) = false := by rw [q4]; rfl
                clear q4
                go_wp2_with fail
                all_goals
                  go_roundw
                  case rel => exact ⟨k + 1, by omega, by go_num, hbl, by rw [HB.out]⟩
                  case measure => simp [intOf]; omega
            · have h10q : (x == 10) = false := beq_eq_false_iff_ne.2 h10
              clear q3 h5 h10
              go_wp2_with fail
              all_goals
                go_roundw
                case rel => exact ⟨k + 1, by omega, by go_num, hbl, by rw [HB.out]⟩
                case measure => simp [intOf]; omega
        · obtain rfl : k = n := by omega
          have hfin := HQ2.out
          rw [HN.out] at hfin
          have hBw := seqB hB2 hbl
          obtain ⟨b, hb⟩ : ∃ b, begunTo l k = b := ⟨_, rfl⟩
          rw [hb] at hbd hfin ⊢
          clear hb
          go_wp2_with fail
          all_goals
            go_ret
            exact ⟨rfl, hBw⟩
  · rw [if_neg he, decide_eq_true_eq] at hq
    obtain ⟨rfl, rfl⟩ := hq
    clear he
    go_enter Tryd.func9, Tryd.ntmps9
    go_wp2_with fail
    refine (awake10_any ml _ hm).mono ?_
    rintro e w1 ⟨rfl, hb1⟩
    go_wp2_with fail
    refine (hf _ (hm.below hb1)).mono ?_
    rintro e w2 ⟨o, rfl, ho, hb2⟩
    obtain ⟨pa, c, rfl⟩ := ho.form
    have hB2 := seqB hb1 hb2
    clear hb1 hb2 hf ho
    go_wp2_with (go_at_call 13; refine (num_any _ _).mono ?_; rintro e w' ⟨rfl, rfl⟩)
    all_goals
      go_ret
      exact ⟨rfl, hB2⟩
set_option maxHeartbeats 2000000 in
theorem fsmTable_walk (ml : Int) (w : World) (hm : MaxLenIs w ml) :
    Calls Tryd.prog 4 #[] w fun e w' => e = .returned (.bool true) ∧ Below w.heap.size w w' := by
  go_enter Tryd.func4, Tryd.ntmps4
  go_wp2_with fail
  go_loopw [1] (fun i wr => ∃ k : Nat, k ≤ 10 ∧ i = .int .i64 k ∧ Below w.heap.size w wr) (fun i _ => 10 - (intOf i).toNat)
  case atStart => exact ⟨0, by omega, rfl, Below.refl _ _⟩
  case round =>
    obtain ⟨k, hk, rfl, hbl⟩ := hrel
    obtain ⟨wo, rfl⟩ : ∃ wo : World, wo = wr := ⟨_, rfl⟩
    by_cases hlt : k < 10
    · have hkd : decide ((k : Int) < 10) = true := decide_eq_true (by omega)
      go_wp2_with fail
      go_loopw [2] (fun i wr => ∃ j : Nat, j ≤ 16 ∧ i = .int .i64 j ∧ Below w.heap.size w wr) (fun i _ => 16 - (intOf i).toNat)
      case atStart => exact ⟨0, by omega, rfl, hbl⟩
      case round =>
        obtain ⟨j, hj, rfl, hbl2⟩ := hrel
        clear hbl
        by_cases hlt2 : j < 16
        · have hl := acts_len (k : Int) (j : Int)
          have hr := fun w => rstep_any (k : Int) (j : Int) w
          have hf := fun w hm => fstep_any (k : Int) (j : Int) ml w hm
          obtain ⟨⟨t, l, en⟩, hx⟩ : ∃ x, stepSays (k : Int) (j : Int) = x := ⟨_, rfl⟩
          rw [hx] at hr hf hl
          clear hx
          go_wp2_with fail
          refine (hf _ (hm.below hbl2)).mono ?_
          rintro e w1 ⟨o1, rfl, ho1, hb1⟩
          have hB1 := seqB hbl2 hb1
          clear hb1 hbl2
          go_wp2_with fail
          refine (hr _).mono ?_
          rintro e w3 ⟨o3, rfl, ho3, hb3⟩
          have hB3 := seqB hB1 hb3
          replace ho1 := ho1.below hb3
          clear hB1 hb3
          go_wp2_with fail
          refine (sameInts_any _ _ l _ ho1.at ho3.at (by omega)).mono ?_
          rintro e w4 ⟨rfl, hb4⟩
          have hB4 := seqB hB3 hb4
          clear hB3 hb4 ho1 ho3
          go_wp2_with (go_at_call 13; refine (num_any _ _).mono ?_; rintro e w' ⟨rfl, rfl⟩)
          go_roundw
          case rel => exact ⟨j + 1, by omega, by go_num, hB4⟩
          case measure => simp [intOf]; omega
        · go_wp2_with fail
          go_roundw
          case rel => exact ⟨k + 1, by omega, by go_num, hbl2⟩
          case measure => simp [intOf]; omega
    · go_wp2_with fail
      refine (awake10_any ml _ (hm.below hbl)).mono ?_
      rintro e w7 ⟨rfl, hb7⟩
      go_wp2_with fail
      go_ret
      exact ⟨rfl, seqB hbl hb7⟩
end Go.Proofs.YtallemacmgagfaaDoor
