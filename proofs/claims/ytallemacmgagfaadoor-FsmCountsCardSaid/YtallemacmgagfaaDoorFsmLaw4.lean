/- The walk of FsmUps. -/
import Derived.Test.YtallemacmgagfaaDoorFsmLaw3
namespace Go.Proofs.YtallemacmgagfaaDoor
open Go.RowKit
set_option linter.unusedVariables false
def foldUp : List Int → Bool → Option Bool
  | [], u => some u
  | x :: r, u => if x = 1 then (if u then none else foldUp r true) else if x = 2 then (if u then foldUp r false else none) else foldUp r u
theorem foldUp_one (r : List Int) (u b : Bool) (h : foldUp (1 :: r) u = some b) : u = false ∧ foldUp r true = some b := by
  unfold foldUp at h; cases u <;> simp_all
theorem foldUp_two (r : List Int) (u b : Bool) (h : foldUp (2 :: r) u = some b) : u = true ∧ foldUp r false = some b := by
  unfold foldUp at h; cases u <;> simp_all
theorem foldUp_other (x : Int) (r : List Int) (u b : Bool) (h1 : x ≠ 1) (h2 : x ≠ 2) (h : foldUp (x :: r) u = some b) : foldUp r u = some b := by
  unfold foldUp at h; simpa [h1, h2] using h
def upsOk (s : Nat) (x : Int × List Int × Int) : Bool := decide (x.2.2 ≠ 0 ∨ (0 ≤ x.1 ∧ x.1 < 10 ∧ foldUp x.2.1 (decide (s = 9)) = some (decide (x.1 = 9))))
theorem ups_cells : (List.range 16).all (fun v => (List.range 10).all fun s => upsOk s (stepSays (s : Int) (v : Int))) = true := by decide +kernel
theorem ups_ok (s v : Nat) (hs : s < 10) (hv : v < 16) : upsOk s (stepSays s v) = true :=
  List.all_eq_true.1 (List.all_eq_true.1 ups_cells v (List.mem_range.2 hv)) s (List.mem_range.2 hs)
set_option maxHeartbeats 4000000 in
theorem fsmUps_walk (pa : Option Addr) (len cap : Nat) (zs : List Int) (ml : Int) (w : World) (hin : IsRow .i64 w pa len cap zs) (hm : MaxLenIs w ml) :
    Calls Tryd.prog 5 #[.slice pa len cap] w fun e w' => e = .returned (.bool true) ∧ Below w.heap.size w w' := by
  have hlm : len ≤ 9223372036854775807 := by
    rcases hin with ⟨-, rfl, -⟩ | ⟨x, -, h1, h2, -⟩
    · omega
    · unfold maxLen at h2; omega
  go_enter Tryd.func5, Tryd.ntmps5
  go_wp2_with fail
  refine (awake10_any ml _ hm).mono ?_
  rintro e w1 ⟨rfl, hb1⟩
  go_wp2_with fail
  go_loopw [3, 4, 5] (fun s u i wr => ∃ k sn : Nat, k ≤ len ∧ k ≤ 200 ∧ sn < 10 ∧ i = .int .i64 k ∧ s = .int .i64 sn ∧ u = .bool (decide (sn = 9)) ∧ Below w.heap.size w wr) (fun _ _ i _ => len - (intOf i).toNat)
  case atStart => exact ⟨0, 0, by omega, by omega, by omega, rfl, rfl, rfl, hb1⟩
  case round =>
    obtain ⟨k, sn, hk, hk2, hsn, rfl, rfl, rfl, hbl⟩ := hrel
    obtain ⟨wo, rfl⟩ : ∃ wo : World, wo = wr := ⟨_, rfl⟩
    clear hb1
    by_cases hlt : k < len
    · by_cases hlt2 : k < 200
      · have hkd : decide ((k : Int) < len) = true := decide_eq_true (by omega)
        have hkd2 : decide ((k : Int) < 200) = true := decide_eq_true (by omega)
        rcases hin with ⟨-, rfl, -⟩ | ⟨⟨gx, ox, sx⟩, rfl, hlc, hcm, hzl, hzc, -⟩
        · omega
        · have hc0 := hzc k (by omega)
          obtain rfl : sx = none := by
            have := World.cell?_spot (hzc 0 (by omega))
            simpa [Addr.add] using this
          have hadd : (⟨gx, ox, none⟩ : Addr).add k = ⟨gx, ox + k, none⟩ := by unfold Addr.add; split <;> simp_all
          rw [hadd] at hc0
          have hc := fsm_below_cell hbl hc0
          obtain ⟨ev, hev⟩ : ∃ ev, zs.getD k 0 = ev := ⟨_, rfl⟩
          rw [hev] at hc
          clear hc0 hadd hev hzc hzl
          obtain ⟨vn, hvn, hv⟩ : ∃ vn : Nat, vn < 16 ∧ wrap64 ((IntKind.u64.wrap ev).tmod 16) = (vn : Int) := umod ev 16 (by decide) (by decide)
          have hq := ups_ok sn vn hsn hvn
          have hl := acts_len (sn : Int) (vn : Int)
          have hf := fun w hm => fstep_any (sn : Int) (vn : Int) ml w hm
          obtain ⟨⟨t, l, en⟩, hx⟩ : ∃ x, stepSays (sn : Int) (vn : Int) = x := ⟨_, rfl⟩
          rw [hx] at hf hq hl
          simp only [upsOk, decide_eq_true_eq] at hq hl
          clear hx
          by_cases he : en = 0
          · subst he
            have hq' := hq.resolve_left (by simp)
            obtain ⟨ht0, ht10, hfo⟩ := hq'
            obtain ⟨tn, rfl⟩ : ∃ tn : Nat, t = tn := ⟨t.toNat, by omega⟩
            have htn : tn < 10 := by omega
            have hd9 : decide ((tn : Int) = 9) = decide (tn = 9) := by
              by_cases h : tn = 9
              · subst h; rfl
              · rw [decide_eq_false h, decide_eq_false (by omega)]
            rw [hd9] at hfo
            obtain ⟨u0, hu0⟩ : ∃ u0, decide (sn = 9) = u0 := ⟨_, rfl⟩
            rw [hu0] at hfo ⊢
            have HF := Lib.hid hfo
            clear hq hfo hd9 hu0 ht0 ht10
            go_wp2_with fail
            refine (hf _ (hm.below hbl)).mono ?_
            rintro e w2 ⟨o, rfl, ho, hb2⟩
            have hB2 := seqB hbl hb2
            clear hb2 hf hv
            rcases ho.at with ⟨rfl, rfl⟩ | ⟨g, o, c, rfl, hcell⟩
            · have hu : u0 = decide (tn = 9) := by have := HF.out; simpa [foldUp] using this
              subst hu
              clear ho HF
              go_wp2_with (go_at_call 13; refine (num_any _ _).mono ?_; rintro e w' ⟨rfl, rfl⟩)
              go_loopw [4, 9] (fun u i wr => i = .int .i64 0 ∧ u = .bool (decide (tn = 9)) ∧ w2 = wr) (fun _ i _ => 0)
              case atStart => exact ⟨rfl, rfl, rfl⟩
              case round =>
                obtain ⟨rfl, rfl, rfl⟩ := hrel
                by_cases h9 : tn = 9
                · subst h9
                  have hq9 : decide ((9 : Nat) = 9) = true := rfl
                  rw [hq9]
                  go_wp2_with fail
                  go_roundw
                  case rel => exact ⟨k + 1, 9, by omega, by omega, by omega, by go_num, rfl, rfl, hB2⟩
                  case measure => simp [intOf]; omega
                · have hq9 : decide (tn = 9) = false := decide_eq_false h9
                  have hz9 : ((tn : Int) == 9) = false := beq_eq_false_iff_ne.2 (by omega)
                  rw [hq9]
                  have HQ := Lib.hid hq9
                  clear hq9
                  go_wp2_with fail
                  go_roundw
                  case rel => exact ⟨k + 1, tn, by omega, by omega, by omega, by go_num, rfl, by rw [HQ.out], hB2⟩
                  case measure => simp [intOf]; omega
            · have HC := Lib.hid hcell
              obtain ⟨n, hn⟩ : ∃ n, l.length = n := ⟨_, rfl⟩
              have HN := Lib.hid hn
              rw [hn] at hl ⊢
              clear ho hcell hn
              go_wp2_with (go_at_call 13; refine (num_any _ _).mono ?_; rintro e w' ⟨rfl, rfl⟩)
              go_loopw [4, 9] (fun u i wr => ∃ (j : Nat) (b : Bool), j ≤ n ∧ i = .int .i64 j ∧ u = .bool b ∧ Below w2.heap.size w2 wr ∧ Hid (foldUp (l.drop j) b = some (decide (tn = 9)))) (fun _ i _ => n - (intOf i).toNat)
              case atStart => exact ⟨0, u0, Nat.zero_le _, rfl, rfl, Below.refl _ _, HF⟩
              case round =>
                obtain ⟨j, b, hj, rfl, rfl, hbl2, HJ⟩ := hrel
                by_cases hjn : j < n
                · have hjl : j < l.length := by rw [HN.out]; exact hjn
                  have hc2 := (hbl2.cell (block_lt_of_cell (HC.out j hjl))).trans (HC.out j hjl)
                  have hdr := HJ.out
                  rw [List.drop_eq_getElem_cons hjl] at hdr
                  obtain ⟨x, hx⟩ : ∃ x, l[j] = x := ⟨_, rfl⟩
                  rw [hx] at hc2 hdr
                  clear hx
                  by_cases h1 : x = 1
                  · subst h1
                    obtain ⟨rfl, h3⟩ := foldUp_one _ _ _ hdr
                    have H3 := Lib.hid h3
                    clear hdr h3
                    go_wp2_with fail
                    go_roundw
                    case rel => exact ⟨j + 1, true, by omega, by go_num, rfl, hbl2, H3⟩
                    case measure => simp [intOf]; omega
                  · by_cases h2 : x = 2
                    · subst h2
                      obtain ⟨rfl, h3⟩ := foldUp_two _ _ _ hdr
                      have H3 := Lib.hid h3
                      clear hdr h3 h1
                      go_wp2_with fail
                      go_roundw
                      case rel => exact ⟨j + 1, false, by omega, by go_num, rfl, hbl2, H3⟩
                      case measure => simp [intOf]; omega
                    · have H3 := Lib.hid (foldUp_other _ _ _ _ h1 h2 hdr)
                      have q1 : (x == 1) = false := beq_eq_false_iff_ne.2 h1
                      have q2 : (x == 2) = false := beq_eq_false_iff_ne.2 h2
                      clear hdr h1 h2
                      go_wp2_with fail
                      go_roundw
                      case rel => exact ⟨j + 1, b, by omega, by go_num, rfl, hbl2, H3⟩
                      case measure => simp [intOf]; omega
                · obtain rfl : j = n := by omega
                  have hu : b = decide (tn = 9) := by
                    have := HJ.out
                    rw [List.drop_of_length_le (by rw [HN.out]; exact Nat.le_refl _)] at this
                    simpa [foldUp] using this
                  subst hu
                  have hBw := seqB hB2 hbl2
                  clear HJ
                  by_cases h9 : tn = 9
                  · subst h9
                    have hq9 : decide ((9 : Nat) = 9) = true := rfl
                    rw [hq9]
                    go_wp2_with fail
                    go_roundw
                    case rel => exact ⟨k + 1, 9, by omega, by omega, by omega, by go_num, rfl, rfl, hBw⟩
                    case measure => simp [intOf]; omega
                  · have hq9 : decide (tn = 9) = false := decide_eq_false h9
                    have hz9 : ((tn : Int) == 9) = false := beq_eq_false_iff_ne.2 (by omega)
                    rw [hq9]
                    have HQ := Lib.hid hq9
                    clear hq9
                    go_wp2_with fail
                    go_roundw
                    case rel => exact ⟨k + 1, tn, by omega, by omega, by omega, by go_num, rfl, by rw [HQ.out], hBw⟩
                    case measure => simp [intOf]; omega
          · clear hq
            have heq : (en != 0) = true := bne_iff_ne.2 he
            clear he
            go_wp2_with fail
            refine (hf _ (hm.below hbl)).mono ?_
            rintro e w2 ⟨o, rfl, -, hb2⟩
            have hB2 := seqB hbl hb2
            clear hb2 hf hv
            go_wp2_with (go_at_call 13; refine (num_any _ _).mono ?_; rintro e w' ⟨rfl, rfl⟩)
            go_roundw
            case rel => exact ⟨k + 1, sn, by omega, by omega, by omega, by go_num, rfl, rfl, hB2⟩
            case measure => simp [intOf]; omega
      · obtain rfl : k = 200 := by omega
        go_wp2_with fail
        go_ret
        exact ⟨rfl, hbl⟩
    · obtain rfl : k = len := by omega
      go_wp2_with fail
      all_goals
        go_ret
        exact ⟨rfl, hbl⟩
end Go.Proofs.YtallemacmgagfaaDoor
