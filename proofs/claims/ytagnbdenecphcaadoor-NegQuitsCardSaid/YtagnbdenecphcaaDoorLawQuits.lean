/- NegQuits, walked. -/
import Derived.Test.YtagnbdenecphcaaDoorNegAw2
import Derived.Test.YtagnbdenecphcaaDoorNegQ
namespace Go.Proofs.YtagnbdenecphcaaDoor
open Go.RowKit
set_option linter.unusedVariables false
set_option linter.unusedSimpArgs false
theorem linkBlk_cells {w w' : World} {l : LinkM} (hb : Below (w.alloc (.cells (linkCells l) 23)).heap.size (w.alloc (.cells (linkCells l) 23)) w') :
    w'.cell? ⟨w.heap.size, 0, none⟩ = some (.int .i64 l.mru) ∧ w'.cell? ⟨w.heap.size, 1, none⟩ = some (.int .i64 l.magic) ∧ w'.cell? ⟨w.heap.size, 2, none⟩ = some (.int .i64 l.mrru) ∧ w'.cell? ⟨w.heap.size, 3, none⟩ = some (.bool l.short) ∧ w'.cell? ⟨w.heap.size, 4, none⟩ = some (.string l.disc) ∧ w'.cell? ⟨w.heap.size, 5, none⟩ = some (.int .i64 l.num) := by
  have hh : w'.heap[w.heap.size]? = some (.cells (linkCells l) 23 (0, 0)) := below_of hb (heap_alloc_last _ _)
  exact link_cells hh
set_option maxRecDepth 100000 in
set_option maxHeartbeats 16000000 in
theorem quits_walk (l : LinkM) (tries ml : Int) (w : World) (hm : MaxLenIs w ml) :
    Calls Tryd.prog 3 #[.agg (linkCells l), .int .i64 tries] w fun e w' => e = .returned (.bool true) ∧ Below w.heap.size w w' := by
  have hB : Below w.heap.size w (w.alloc (.cells (linkCells l) 23)) := allocB (Below.refl _ _) _
  have hma := hm.below hB
  have haw := awake_any ml _ hma
  have hrm := fun w => rmay_any l w
  have hcl := fun w' (hb : Below (w.alloc (.cells (linkCells l) 23)).heap.size (w.alloc (.cells (linkCells l) 23)) w') => linkBlk_cells (w := w) (l := l) hb
  obtain ⟨b, hb⟩ : ∃ b, mayM l = b := ⟨_, rfl⟩
  rw [hb] at hrm
  unfold linkCells at hB hma haw hrm hcl ⊢
  obtain ⟨W, hW⟩ : ∃ W, w.alloc (.cells #[.int .i64 l.mru, .int .i64 l.magic, .int .i64 l.mrru, .bool l.short, .string l.disc, .int .i64 l.num] 23) = W := ⟨_, rfl⟩
  rw [hW] at hB hma haw hcl
  go_enter Tryd.func3, Tryd.ntmps3
  go_wp2_with fail
  refine haw.mono ?_
  rintro e w1 ⟨rfl, hb1⟩
  obtain ⟨c0, c1, c2, c3, c4, c5⟩ := hcl _ hb1
  have hm1 := hma.below hb1
  have hB1 := seqB hB hb1
  clear hW haw hcl hb1 hma hB
  go_wp2_with fail
  obtain ⟨k, hk, hk1, hk2⟩ : ∃ k, wrap64 (1 + wrap64 ((IntKind.u64.wrap tries).tmod 10)) = k ∧ 1 ≤ k ∧ k ≤ 10 := by
    refine ⟨_, rfl, ?_⟩
    rw [IntKind.wrap_u64, Int.tmod_eq_emod_of_nonneg (by omega), IntWalk.wrap64_in ((tries % 18446744073709551616) % 10) ⟨by omega, by omega⟩, IntWalk.wrap64_in _ ⟨by omega, by omega⟩]
    omega
  rw [hk]
  clear hk
  cases b with
  | false =>
    have hbad := new_bad l k w1 (by unfold newOk; rw [hb]; rfl)
    unfold linkCells at hbad
    refine hbad.mono ?_
    rintro e w2 ⟨rfl, hb2⟩
    have d0 := fsm_below_cell hb2 c0
    have d1 := fsm_below_cell hb2 c1
    have d2 := fsm_below_cell hb2 c2
    have d3 := fsm_below_cell hb2 c3
    have d4 := fsm_below_cell hb2 c4
    have d5 := fsm_below_cell hb2 c5
    have hB2 := seqB hB1 hb2
    clear hbad c0 c1 c2 c3 c4 c5 hb2
    go_wp2_with (first
      | (go_at_call 13; refine (num_any _ _).mono ?_; rintro e w' ⟨rfl, rfl⟩)
      | (go_at_call 14; refine (hrm _).mono ?_; rintro e w3 ⟨rfl, hb3⟩))
    go_ret
    exact ⟨rfl, seqB hB2 hb3⟩
  | true =>
    have hnew := new_side l k ml w1 hm1 hb hk1 hk2
    unfold linkCells at hnew
    refine hnew.mono ?_
    rintro e w2 ⟨p, t, rfl, hs2, hp2, hm2, hb2⟩
    have hB2 := seqB hB1 hb2
    have hwp : w.heap.size ≤ p := Nat.le_trans hB1.size hp2
    have hd := nDo_any p t (.slice none 0 0) _ 2 ml w2 hs2 hm2
    rw [quit_open] at hd
    clear hnew c0 c1 c2 c3 c4 c5 hb2
    go_wp2_with (go_at_call 13; refine (num_any _ _).mono ?_; rintro e w' ⟨rfl, rfl⟩)
    refine hd.mono ?_
    rintro e w3 ⟨v3, l3, o3, rfl, -, -, hs3, -, hO3, hm3⟩
    clear hd
    have hd := nDo_any p t o3 _ 0 ml w3 hs3 hm3
    rw [quit_up l k hk1] at hd
    go_wp2_with fail
    refine hd.mono ?_
    rintro e w4 ⟨v4, l4, o4, rfl, hl4, hq4, hs4, -, hO4, hm4⟩
    obtain ⟨x4, rfl, hx4⟩ := one_of hq4
    obtain ⟨a4, cc4, rfl, -, hcm4⟩ := SeqAt.form hl4.1.at
    have hBp : Below w.heap.size w w4 := ((Only.ofBelow (S := (· = p)) hB2).trans (hO3.trans hO4)).below (Nat.le_refl _) (fun k e => by omega)
    clear hd hO3 hO4 hs2 hs3 hm2 hm3 hl4 hq4 hB1 hB2 hm1
    go_wp2_with fail
    obtain ⟨K, rfl⟩ : ∃ K : Nat, k = K := ⟨k.toNat, by omega⟩
    go_loopw [10, 11] (fun m i wr => ∃ (j : Nat) (o' : Value), m = .int .i64 ((j + 1 : Nat) : Int) ∧ MaxLenIs wr ml ∧ Only (· = p) w4 wr ∧ j + 1 ≤ K ∧ ((i = .int .i64 (j : Nat) ∧ Side wr p t o' (quitS l K j)) ∨ (i = .int .i64 ((j + 1 : Nat) : Int) ∧ j + 1 = K ∧ Side wr p t o' (stoppedS l K j)))) (fun _ i _ => 30 - (intOf i).toNat)
    case atStart => exact ⟨0, o4, rfl, hm4, Only.refl _ _, by omega, .inl ⟨rfl, hs4⟩⟩
    case round =>
      obtain ⟨j, o', rfl, hmr, hOr, hj, hcase⟩ := hrel
      clear hs4 hm4
      rcases hcase with ⟨rfl, hsr⟩ | ⟨rfl, hjk, hsr⟩
      · have hst := state_any p t o' _ wr hsr.blk
        rw [show (quitS l (K : Int) (j : Int)).state = 6 from rfl] at hst
        have hd := nDo_any p t o' _ 4 ml wr hsr hmr
        have hj30 : j < 30 := by omega
        have hK30 : K ≤ 10 := by omega
        by_cases hl : j + 1 < K
        · rw [quit_more l K j (by omega) (by omega) hk2] at hd
          clear hsr hmr
          go_wp2_with (first
            | (go_at_call 16; refine hst.mono ?_; rintro e w' ⟨rfl, rfl⟩)
            | (go_at_call 13; refine (num_any _ _).mono ?_; rintro e w' ⟨rfl, rfl⟩)
            | (go_at_call 15; refine hd.mono ?_; rintro e w6 ⟨v6, l6, o6, rfl, hl6, hq6, hs6, -, hO6, hm6⟩; obtain ⟨x6, rfl, hx6⟩ := one_of hq6; obtain ⟨a6, cc6, rfl, -, hcm6⟩ := SeqAt.form hl6.1.at))
          go_roundw
          case rel => exact ⟨j + 1, o6, by simp [go_sem], hm6, hOr.trans hO6, hl, .inl ⟨by simp [go_sem], hs6⟩⟩
          case measure => simp [intOf]; omega
        · rw [quit_over l K j (by omega)] at hd
          clear hsr hmr
          go_wp2_with (first
            | (go_at_call 16; refine hst.mono ?_; rintro e w' ⟨rfl, rfl⟩)
            | (go_at_call 13; refine (num_any _ _).mono ?_; rintro e w' ⟨rfl, rfl⟩)
            | (go_at_call 15; refine hd.mono ?_; rintro e w6 ⟨v6, l6, o6, rfl, hl6, hq6, hs6, -, hO6, hm6⟩; obtain rfl : l6 = [] := List.map_eq_nil_iff.1 hq6; obtain ⟨a6, cc6, rfl, -, hcm6⟩ := SeqAt.form hl6.1.at))
          go_roundw
          case rel => exact ⟨j, o6, by simp [go_sem], hm6, hOr.trans hO6, hj, .inr ⟨by simp [go_sem], by omega, hs6⟩⟩
          case measure => simp [intOf]; omega
      · have hst := state_any p t o' _ wr hsr.blk
        rw [show (stoppedS l (K : Int) (j : Int)).state = 3 from rfl] at hst
        have hj30 : j + 1 < 30 := by omega
        have hBf : Below w.heap.size w wr := ((Only.ofBelow (S := (· = p)) hBp).trans hOr).below (Nat.le_refl _) (fun k e => by omega)
        clear hsr hmr hOr hBp
        subst hjk
        go_wp2_with (first
          | (go_at_call 16; refine hst.mono ?_; rintro e w' ⟨rfl, rfl⟩)
          | (go_at_call 13; refine (num_any _ _).mono ?_; rintro e w' ⟨rfl, rfl⟩))
        go_ret
        exact ⟨by simp, hBf⟩
end Go.Proofs.YtagnbdenecphcaaDoor
