/- NegStale, walked. -/
import Derived.Test.YtagnbdenecphcaaDoorLawForms
import Derived.Test.YtagnbdenecphcaaDoorNegL
import Derived.Test.YtagnbdenecphcaaDoorLinkEq
namespace Go.Proofs.YtagnbdenecphcaaDoor
open Go.RowKit
set_option linter.unusedVariables false
set_option linter.unusedSimpArgs false
set_option maxRecDepth 100000 in
set_option maxHeartbeats 16000000 in
theorem stale_walk (l : LinkM) (idx code ml : Int) (w : World) (hm : MaxLenIs w ml) :
    Calls Tryd.prog 8 #[.agg (linkCells l), .int .i64 idx, .int .i64 code] w fun e w' => e = .returned (.bool true) ∧ Below w.heap.size w w' := by
  have hB : Below w.heap.size w (w.alloc (.cells (linkCells l) 23)) := allocB (Below.refl _ _) _
  have hma := hm.below hB
  have haw := awake_any ml _ hma
  have hrm := fun w => rmay_any l w
  have hcl := fun w' (hb : Below (w.alloc (.cells (linkCells l) 23)).heap.size (w.alloc (.cells (linkCells l) 23)) w') => linkBlk_cells (w := w) (l := l) hb
  obtain ⟨b, hb⟩ : ∃ b, mayM l = b := ⟨_, rfl⟩
  rw [hb] at hrm
  unfold linkCells at hB hma haw hrm hcl ⊢
  obtain ⟨W, hW⟩ : ∃ W, w.alloc (.cells #[.int .i64 l.mru, .int .i64 l.magic, .int .i64 l.mrru, .bool l.short, .string l.disc, .int .i64 l.num] 23) = W := ⟨_, rfl⟩
  rw [hW] at hB hma haw hcl
  go_enter Tryd.func8, Tryd.ntmps8
  go_wp2_with fail
  refine haw.mono ?_
  rintro e w1 ⟨rfl, hb1⟩
  obtain ⟨c0, c1, c2, c3, c4, c5⟩ := hcl _ hb1
  have hm1 := hma.below hb1
  have hB1 := seqB hB hb1
  clear hW haw hcl hb1 hma hB
  go_wp2_with fail
  cases b with
  | false =>
    have hbad := new_bad l 8 w1 (by unfold newOk; rw [hb]; rfl)
    unfold linkCells at hbad
    refine hbad.mono ?_
    rintro e w2 ⟨rfl, hb2⟩
    have d0 := fsm_below_cell hb2 c0
    have d1 := fsm_below_cell hb2 c1
    have d2 := fsm_below_cell hb2 c2
    have d3 := fsm_below_cell hb2 c3
    have d4 := fsm_below_cell hb2 c4
    have d5 := fsm_below_cell hb2 c5
    have hB2 := seqB hB1 hb2
    clear hbad c0 c1 c2 c3 c4 c5 hb2
    go_wp2_with (first
      | (go_at_call 13; refine (num_any _ _).mono ?_; rintro e w' ⟨rfl, rfl⟩)
      | (go_at_call 14; refine (hrm _).mono ?_; rintro e w3 ⟨rfl, hb3⟩))
    go_ret
    exact ⟨rfl, seqB hB2 hb3⟩
  | true =>
    have hnew := new_side l 8 ml w1 hm1 hb (by decide) (by decide)
    unfold linkCells at hnew
    refine hnew.mono ?_
    rintro e w2 ⟨p, t, rfl, hs2, hp2, hm2, hb2⟩
    have d0 := fsm_below_cell hb2 c0
    have d1 := fsm_below_cell hb2 c1
    have d2 := fsm_below_cell hb2 c2
    have d3 := fsm_below_cell hb2 c3
    have d4 := fsm_below_cell hb2 c4
    have d5 := fsm_below_cell hb2 c5
    have hB2 := seqB hB1 hb2
    have hwp : w.heap.size ≤ p := Nat.le_trans hB1.size hp2
    have hd := nDo_any p t (.slice none 0 0) _ 2 ml w2 hs2 hm2
    rw [quit_open] at hd
    clear hnew c1 c2 c3 c4 c5 hb2
    go_wp2_with (go_at_call 13; refine (num_any _ _).mono ?_; rintro e w' ⟨rfl, rfl⟩)
    refine hd.mono ?_
    rintro e w3 ⟨v3, l3, o3, rfl, -, -, hs3, -, hO3, hm3⟩
    clear hd
    have hd := nDo_any p t o3 _ 0 ml w3 hs3 hm3
    rw [quit_up l 8 (by decide)] at hd
    go_wp2_with fail
    refine hd.mono ?_
    rintro e w4 ⟨v4, l4, o4, rfl, hl4, hq4, hs4, -, hO4, hm4⟩
    obtain ⟨x4, rfl, hx4⟩ := one_of hq4
    obtain ⟨a4, cc4, rfl, -, -⟩ := SeqAt.form hl4.1.at
    obtain ⟨g, rfl, hg, hgl, -, hc41, hc42, z0, z1, z2, -⟩ := hl4.cells 0 (by simp)
    have hop4 := (hl4.2 x4 (by simp)).at
    have hopb := (hl4.2 x4 (by simp)).block
    simp only [List.getElem_cons_zero, hx4] at z0 z1 z2
    rw [hx4] at hop4
    have hwl := block_lt_of_cell d0
    have hpw : p ≠ w.heap.size := fun e => by have := block_lt_of_cell c0; dsimp only at this; omega
    have hOp := hO3.trans hO4
    have e0 := hOp.cell d0 (fun e => hpw e.symm)
    have e1 := hOp.cell d1 (fun e => hpw e.symm)
    have e2 := hOp.cell d2 (fun e => hpw e.symm)
    have e3 := hOp.cell d3 (fun e => hpw e.symm)
    have e4 := hOp.cell d4 (fun e => hpw e.symm)
    have e5 := hOp.cell d5 (fun e => hpw e.symm)
    have hBp : Below w.heap.size w w4 := ((Only.ofBelow (S := (· = p)) hB2).trans hOp).below (Nat.le_refl _) (fun k e => by omega)
    have hgp : g ≠ p := by have := hs3.blk.lt; omega
    have hcc : cc4 ≤ 9223372036854775807 := by unfold maxLen at hc42; omega
    simp only [List.length_cons, List.length_nil, Nat.zero_add, Nat.zero_mul] at z0 z1 z2 hc41 ⊢
    clear hd hO3 hO4 hs2 hs3 hm2 hm3 hl4 hq4 hB1 hB2 hm1 d0 d1 d2 d3 d4 d5 hOp
    obtain ⟨sa, sc, hsl, hsc1, hsc2⟩ := SeqAt.form hop4
    rw [hsl] at z2 hop4 hopb
    obtain ⟨n, hn⟩ : ∃ n, (askM l).length = n := ⟨_, rfl⟩
    rw [hn] at z2
    have HN := Lib.hid hn
    have hle := link_eql l
    unfold linkCells at hle
    clear hsl hx4 hn
    go_wp2_with fail
    obtain ⟨i, hi, hi1, hi2⟩ : ∃ i, bits BinOp.and IntKind.i64 (wrap64 (2 + wrap64 ((IntKind.u64.wrap idx).tmod 255))) 255 = i ∧ (0 ≤ i ∧ i ≤ 255) ∧ i ≠ 1 := by
      refine ⟨_, rfl, ?_⟩
      rw [IntKind.wrap_u64, Int.tmod_eq_emod_of_nonneg (by omega), IntWalk.wrap64_in ((idx % 18446744073709551616) % 255) ⟨by omega, by omega⟩, IntWalk.wrap64_in _ ⟨by omega, by omega⟩]
      have := i64_low (2 + idx % 18446744073709551616 % 255) 8 (by decide)
      rw [show ((2 ^ 8 - 1 : Nat) : Int) = 255 from rfl, show ((2 ^ 8 : Nat) : Int) = 256 from rfl] at this
      rw [this]
      omega
    rw [hi]
    clear hi
    have hB4 : Below w4.heap.size w4 (w4.alloc (.cells #[.int .i64 2, .int .i64 3, .int .i64 4] 3)) := allocB (Below.refl _ _) _
    have hk : (w4.alloc (.cells #[.int .i64 2, .int .i64 3, .int .i64 4] 3)).cell? ⟨w4.heap.size, 0, none⟩ = some (.int .i64 2) ∧ (w4.alloc (.cells #[.int .i64 2, .int .i64 3, .int .i64 4] 3)).cell? ⟨w4.heap.size, 1, none⟩ = some (.int .i64 3) ∧ (w4.alloc (.cells #[.int .i64 2, .int .i64 3, .int .i64 4] 3)).cell? ⟨w4.heap.size, 2, none⟩ = some (.int .i64 4) := by
      refine ⟨?_, ?_, ?_⟩ <;> (rw [World.cell?_alloc_new]; rfl)
    obtain ⟨W5, hW5⟩ : ∃ W5, w4.alloc (.cells #[.int .i64 2, .int .i64 3, .int .i64 4] 3) = W5 := ⟨_, rfl⟩
    rw [hW5] at hB4 hk ⊢
    obtain ⟨k0, k1, k2⟩ := hk
    have y2 := fsm_below_cell hB4 z2
    have hs5 := hs4.below hB4
    have hp4 := hs4.blk.lt
    have hm5 := hm4.below hB4
    have hop5 := SeqAt.below hop4 hB4
    have hBw := seqB hBp hB4
    have x0 := fsm_below_cell hB4 e0
    have x1 := fsm_below_cell hB4 e1
    have x2 := fsm_below_cell hB4 e2
    have x3 := fsm_below_cell hB4 e3
    have x4' := fsm_below_cell hB4 e4
    have x5 := fsm_below_cell hB4 e5
    have hb5 : Below W5.heap.size W5 W5.drew := (Below.refl _ _).drew
    have htk := fun c (hc : c = 2 ∨ c = 3 ∨ c = 4) => stale hb 8 c i hc hi1 hi2
    have hst := fun w' o' (h : Side w' p t o' (quitS l 8 0)) => state_any p t o' _ w' h.blk
    have hlf := fun w' o' (h : Side w' p t o' (quitS l 8 0)) => left_any p t o' _ w' h.blk
    have how := fun w' o' (h : Side w' p t o' (quitS l 8 0)) => own_any p t o' _ w' h.blk
    rw [show (quitS l 8 0).state = 6 from rfl] at hst
    rw [show (quitS l 8 0).left = 7 from rfl] at hlf
    rw [show (quitS l 8 0).own = l from rfl] at how
    unfold linkCells at how
    clear hs4 hm4 hop4 hB4 z0 z1 z2 e0 e1 e2 e3 e4 e5 hi1 hi2 hW5 hopb
    have hbig : ∃ m : Nat, (IntKind.u64.wrap code).tmod 3 = m ∧ m < 3 := by
      refine ⟨((IntKind.u64.wrap code).tmod 3).toNat, ?_⟩
      rw [IntKind.wrap_u64, Int.tmod_eq_emod_of_nonneg (by omega)]
      omega
    obtain ⟨m, hm3, hml⟩ := hbig
    obtain rfl | rfl | rfl : m = 0 ∨ m = 1 ∨ m = 2 := by omega
    · have ht := nTake_any p t o4 (.slice sa n sc) _ ⟨2, i, askM l, ⟨#[]⟩⟩ ml W5.drew (hs5.below hb5) (hm5.below hb5) (by have h := SeqAt.below hop5 hb5; rw [HN.out] at h; exact h) (show (⟨#[]⟩ : ByteArray).size ≤ 4611686018427387904 by decide)
      rw [htk 2 (by decide)] at ht
      unfold packCells at ht
      clear htk hs5 hm5 hop5
      refine wp_schedL (fun w' => w'.cell? ⟨w4.heap.size, 0, none⟩ = some (.int .i64 2) ∧ w'.cell? ⟨w4.heap.size, 1, none⟩ = some (.int .i64 3) ∧ w'.cell? ⟨w4.heap.size, 2, none⟩ = some (.int .i64 4) ∧ w'.cell? ⟨g, 2, none⟩ = some (.slice sa n sc)) [(0, true), (1, true), (2, true), (3, true), (4, true), (5, true), (6, true), (7, true), (8, true), (9, true), (10, true), (11, true), (12, true), (13, false), (14, true), (15, true), (16, true), (17, true), (18, true)] (by kernel_rfl) (by kernel_rfl) rfl (by kernel_rfl) (by kernel_rfl) ⟨k0, k1, k2, y2⟩ (fun _ d _ _ _ h => by cases d <;> exact h) ?_
      simp only [schedOps, List.filterMap_cons, List.filterMap_nil, List.getElem?_toArray, List.getElem?_cons_zero, List.getElem?_cons_succ, Option.map_some]
      repeat (first | (refine' wpSched_take _ (by rfl) (fun wS hS => ?_) ?_; rotate_left; (focus (obtain ⟨j0, j1, j2, j3⟩ := hS; go_simp; first | done | rfl)); (try simp only [Act.put, List.setIfInBounds_toArray, List.set_cons_zero, List.set_cons_succ])) | (refine wpSched_skip (by rfl) ?_; try simp only [Act.put, List.setIfInBounds_toArray, List.set_cons_zero, List.set_cons_succ]))
      refine wpSched_run (fun K hK => ?_)
      go_wp2_with (go_at_call 18; refine ht.mono ?_; rintro e w6 ⟨v6, l6, o6, rfl, hl6, hq6, hs6, -, hO6, hm6⟩; obtain rfl : l6 = [] := List.map_eq_nil_iff.1 hq6; obtain ⟨a6, cc6, rfl, -, -⟩ := SeqAt.form hl6.1.at)
      have hgp2 : ¬ w4.heap.size = p := by omega
      refine QRun_normal (hK.out _ _ ⟨hO6.cell (w := W5.drew) (a := ⟨w4.heap.size, 0, none⟩) k0 hgp2, hO6.cell (w := W5.drew) (a := ⟨w4.heap.size, 1, none⟩) k1 hgp2, hO6.cell (w := W5.drew) (a := ⟨w4.heap.size, 2, none⟩) k2 hgp2, hO6.cell (w := W5.drew) (a := ⟨g, 2, none⟩) y2 hgp⟩ ?_)
      clear hK K
      repeat (first | (refine' wpSched_take _ (by rfl) (fun wS hS => ?_) ?_; rotate_left; (focus (obtain ⟨j0, j1, j2, j3⟩ := hS; go_simp; first | done | rfl)); (try simp only [Act.put, List.setIfInBounds_toArray, List.set_cons_zero, List.set_cons_succ])) | (refine wpSched_skip (by rfl) ?_; try simp only [Act.put, List.setIfInBounds_toArray, List.set_cons_zero, List.set_cons_succ]))
      refine wpSched_done ?_
      have hwp2 : ¬ w.heap.size = p := fun e => hpw e.symm
      have q0 := hO6.cell (w := W5.drew) (a := ⟨w.heap.size, 0, none⟩) x0 hwp2
      have q1 := hO6.cell (w := W5.drew) (a := ⟨w.heap.size, 1, none⟩) x1 hwp2
      have q2 := hO6.cell (w := W5.drew) (a := ⟨w.heap.size, 2, none⟩) x2 hwp2
      have q3 := hO6.cell (w := W5.drew) (a := ⟨w.heap.size, 3, none⟩) x3 hwp2
      have q4 := hO6.cell (w := W5.drew) (a := ⟨w.heap.size, 4, none⟩) x4' hwp2
      have q5 := hO6.cell (w := W5.drew) (a := ⟨w.heap.size, 5, none⟩) x5 hwp2
      have hB6 : Below w.heap.size w w6 := ((Only.ofBelow (S := (· = p)) hBw).drew.trans hO6).below (Nat.le_refl _) (fun k e => by omega)
      clear ht hO6 k0 k1 k2 y2 x0 x1 x2 x3 x4' x5 hl6 hq6 hm6 hb5 hBw
      go_wp2_with fail
      refine wp_schedL (fun w' => w'.cell? ⟨w.heap.size, 0, none⟩ = some (.int .i64 l.mru) ∧ w'.cell? ⟨w.heap.size, 1, none⟩ = some (.int .i64 l.magic) ∧ w'.cell? ⟨w.heap.size, 2, none⟩ = some (.int .i64 l.mrru) ∧ w'.cell? ⟨w.heap.size, 3, none⟩ = some (.bool l.short) ∧ w'.cell? ⟨w.heap.size, 4, none⟩ = some (.string l.disc) ∧ w'.cell? ⟨w.heap.size, 5, none⟩ = some (.int .i64 l.num)) [(0, true), (1, false), (2, true), (3, true), (4, true), (5, true), (6, true), (7, true), (8, true), (9, true), (10, false), (11, true), (12, true), (13, true), (14, true), (16, true), (15, false), (17, true), (18, true), (19, true), (20, true), (21, false), (22, true), (23, true), (24, true)] (by kernel_rfl) (by kernel_rfl) rfl (by kernel_rfl) (by kernel_rfl) ⟨q0, q1, q2, q3, q4, q5⟩ (fun _ d _ _ _ h => by cases d <;> exact h) ?_
      simp only [schedOps, List.filterMap_cons, List.filterMap_nil, List.getElem?_toArray, List.getElem?_cons_zero, List.getElem?_cons_succ, Option.map_some]
      have hs7 : Side w6.drew p t o6 (quitS l 8 0) := hs6.below (Below.refl _ _).drew
      repeat (first | (refine' wpSched_take _ (by rfl) (fun wS hS => ?_) ?_; rotate_left; (focus (obtain ⟨j0, j1, j2, j3, j4, j5⟩ := hS; go_simp; first | done | rfl)); (try simp only [Act.put, List.setIfInBounds_toArray, List.set_cons_zero, List.set_cons_succ])) | (refine wpSched_skip (by rfl) ?_; try simp only [Act.put, List.setIfInBounds_toArray, List.set_cons_zero, List.set_cons_succ]))
      refine wpSched_run (fun K hK => ?_)
      go_wp2_with (go_at_call 13; refine (num_any _ _).mono ?_; rintro e w' ⟨rfl, rfl⟩)
      refine QRun_normal (hK.out _ _ ⟨q0, q1, q2, q3, q4, q5⟩ ?_)
      clear hK K
      repeat (first | (refine' wpSched_take _ (by rfl) (fun wS hS => ?_) ?_; rotate_left; (focus (obtain ⟨j0, j1, j2, j3, j4, j5⟩ := hS; go_simp; first | done | rfl)); (try simp only [Act.put, List.setIfInBounds_toArray, List.set_cons_zero, List.set_cons_succ])) | (refine wpSched_skip (by rfl) ?_; try simp only [Act.put, List.setIfInBounds_toArray, List.set_cons_zero, List.set_cons_succ]))
      refine wpSched_run (fun K hK => ?_)
      go_wp2_with (go_at_call 16; refine (hst _ _ hs7).mono ?_; rintro e w' ⟨rfl, rfl⟩)
      refine QRun_normal (hK.out _ _ ⟨q0, q1, q2, q3, q4, q5⟩ ?_)
      clear hK K
      repeat (first | (refine' wpSched_take _ (by rfl) (fun wS hS => ?_) ?_; rotate_left; (focus (obtain ⟨j0, j1, j2, j3, j4, j5⟩ := hS; go_simp; first | done | rfl)); (try simp only [Act.put, List.setIfInBounds_toArray, List.set_cons_zero, List.set_cons_succ])) | (refine wpSched_skip (by rfl) ?_; try simp only [Act.put, List.setIfInBounds_toArray, List.set_cons_zero, List.set_cons_succ]))
      refine wpSched_run (fun K hK => ?_)
      go_wp2_with (go_at_call 20; refine (how _ _ hs7).mono ?_; rintro e w8 ⟨rfl, hb8⟩)
      have hs8 := hs7.below hb8
      have hB8 : Below w.heap.size w w8 := seqB hB6.drew hb8
      refine QRun_normal (hK.out _ _ ⟨fsm_below_cell (W := w6.drew) hb8 q0, fsm_below_cell (W := w6.drew) hb8 q1, fsm_below_cell (W := w6.drew) hb8 q2, fsm_below_cell (W := w6.drew) hb8 q3, fsm_below_cell (W := w6.drew) hb8 q4, fsm_below_cell (W := w6.drew) hb8 q5⟩ ?_)
      clear hK K
      repeat (first | (refine' wpSched_take _ (by rfl) (fun wS hS => ?_) ?_; rotate_left; (focus (obtain ⟨j0, j1, j2, j3, j4, j5⟩ := hS; go_simp; first | done | rfl)); (try simp only [Act.put, List.setIfInBounds_toArray, List.set_cons_zero, List.set_cons_succ])) | (refine wpSched_skip (by rfl) ?_; try simp only [Act.put, List.setIfInBounds_toArray, List.set_cons_zero, List.set_cons_succ]))
      refine wpSched_run (fun K hK => ?_)
      go_wp2_with (go_at_call 21; refine (hlf _ _ hs8).mono ?_; rintro e w' ⟨rfl, rfl⟩)
      refine QRun_normal (hK.out _ _ ⟨fsm_below_cell (W := w6.drew) hb8 q0, fsm_below_cell (W := w6.drew) hb8 q1, fsm_below_cell (W := w6.drew) hb8 q2, fsm_below_cell (W := w6.drew) hb8 q3, fsm_below_cell (W := w6.drew) hb8 q4, fsm_below_cell (W := w6.drew) hb8 q5⟩ ?_)
      clear hK K
      repeat (first | (refine' wpSched_take _ (by rfl) (fun wS hS => ?_) ?_; rotate_left; (focus (obtain ⟨j0, j1, j2, j3, j4, j5⟩ := hS; go_simp; first | done | rfl)); (try simp only [Act.put, List.setIfInBounds_toArray, List.set_cons_zero, List.set_cons_succ])) | (refine wpSched_skip (by rfl) ?_; try simp only [Act.put, List.setIfInBounds_toArray, List.set_cons_zero, List.set_cons_succ]))
      refine wpSched_done ?_
      clear q0 q1 q2 q3 q4 q5 hs8 hs7 hs6
      go_wp2_with fail
      go_ret
      exact ⟨rfl, hB8⟩
    · have ht := nTake_any p t o4 (.slice sa n sc) _ ⟨3, i, askM l, ⟨#[]⟩⟩ ml W5.drew (hs5.below hb5) (hm5.below hb5) (by have h := SeqAt.below hop5 hb5; rw [HN.out] at h; exact h) (show (⟨#[]⟩ : ByteArray).size ≤ 4611686018427387904 by decide)
      rw [htk 3 (by decide)] at ht
      unfold packCells at ht
      clear htk hs5 hm5 hop5
      refine wp_schedL (fun w' => w'.cell? ⟨w4.heap.size, 0, none⟩ = some (.int .i64 2) ∧ w'.cell? ⟨w4.heap.size, 1, none⟩ = some (.int .i64 3) ∧ w'.cell? ⟨w4.heap.size, 2, none⟩ = some (.int .i64 4) ∧ w'.cell? ⟨g, 2, none⟩ = some (.slice sa n sc)) [(0, true), (1, true), (2, true), (3, true), (4, true), (5, true), (6, true), (7, true), (8, true), (9, true), (10, true), (11, true), (12, true), (13, false), (14, true), (15, true), (16, true), (17, true), (18, true)] (by kernel_rfl) (by kernel_rfl) rfl (by kernel_rfl) (by kernel_rfl) ⟨k0, k1, k2, y2⟩ (fun _ d _ _ _ h => by cases d <;> exact h) ?_
      simp only [schedOps, List.filterMap_cons, List.filterMap_nil, List.getElem?_toArray, List.getElem?_cons_zero, List.getElem?_cons_succ, Option.map_some]
      repeat (first | (refine' wpSched_take _ (by rfl) (fun wS hS => ?_) ?_; rotate_left; (focus (obtain ⟨j0, j1, j2, j3⟩ := hS; go_simp; first | done | rfl)); (try simp only [Act.put, List.setIfInBounds_toArray, List.set_cons_zero, List.set_cons_succ])) | (refine wpSched_skip (by rfl) ?_; try simp only [Act.put, List.setIfInBounds_toArray, List.set_cons_zero, List.set_cons_succ]))
      refine wpSched_run (fun K hK => ?_)
      go_wp2_with (go_at_call 18; refine ht.mono ?_; rintro e w6 ⟨v6, l6, o6, rfl, hl6, hq6, hs6, -, hO6, hm6⟩; obtain rfl : l6 = [] := List.map_eq_nil_iff.1 hq6; obtain ⟨a6, cc6, rfl, -, -⟩ := SeqAt.form hl6.1.at)
      have hgp2 : ¬ w4.heap.size = p := by omega
      refine QRun_normal (hK.out _ _ ⟨hO6.cell (w := W5.drew) (a := ⟨w4.heap.size, 0, none⟩) k0 hgp2, hO6.cell (w := W5.drew) (a := ⟨w4.heap.size, 1, none⟩) k1 hgp2, hO6.cell (w := W5.drew) (a := ⟨w4.heap.size, 2, none⟩) k2 hgp2, hO6.cell (w := W5.drew) (a := ⟨g, 2, none⟩) y2 hgp⟩ ?_)
      clear hK K
      repeat (first | (refine' wpSched_take _ (by rfl) (fun wS hS => ?_) ?_; rotate_left; (focus (obtain ⟨j0, j1, j2, j3⟩ := hS; go_simp; first | done | rfl)); (try simp only [Act.put, List.setIfInBounds_toArray, List.set_cons_zero, List.set_cons_succ])) | (refine wpSched_skip (by rfl) ?_; try simp only [Act.put, List.setIfInBounds_toArray, List.set_cons_zero, List.set_cons_succ]))
      refine wpSched_done ?_
      have hwp2 : ¬ w.heap.size = p := fun e => hpw e.symm
      have q0 := hO6.cell (w := W5.drew) (a := ⟨w.heap.size, 0, none⟩) x0 hwp2
      have q1 := hO6.cell (w := W5.drew) (a := ⟨w.heap.size, 1, none⟩) x1 hwp2
      have q2 := hO6.cell (w := W5.drew) (a := ⟨w.heap.size, 2, none⟩) x2 hwp2
      have q3 := hO6.cell (w := W5.drew) (a := ⟨w.heap.size, 3, none⟩) x3 hwp2
      have q4 := hO6.cell (w := W5.drew) (a := ⟨w.heap.size, 4, none⟩) x4' hwp2
      have q5 := hO6.cell (w := W5.drew) (a := ⟨w.heap.size, 5, none⟩) x5 hwp2
      have hB6 : Below w.heap.size w w6 := ((Only.ofBelow (S := (· = p)) hBw).drew.trans hO6).below (Nat.le_refl _) (fun k e => by omega)
      clear ht hO6 k0 k1 k2 y2 x0 x1 x2 x3 x4' x5 hl6 hq6 hm6 hb5 hBw
      go_wp2_with fail
      refine wp_schedL (fun w' => w'.cell? ⟨w.heap.size, 0, none⟩ = some (.int .i64 l.mru) ∧ w'.cell? ⟨w.heap.size, 1, none⟩ = some (.int .i64 l.magic) ∧ w'.cell? ⟨w.heap.size, 2, none⟩ = some (.int .i64 l.mrru) ∧ w'.cell? ⟨w.heap.size, 3, none⟩ = some (.bool l.short) ∧ w'.cell? ⟨w.heap.size, 4, none⟩ = some (.string l.disc) ∧ w'.cell? ⟨w.heap.size, 5, none⟩ = some (.int .i64 l.num)) [(0, true), (1, false), (2, true), (3, true), (4, true), (5, true), (6, true), (7, true), (8, true), (9, true), (10, false), (11, true), (12, true), (13, true), (14, true), (16, true), (15, false), (17, true), (18, true), (19, true), (20, true), (21, false), (22, true), (23, true), (24, true)] (by kernel_rfl) (by kernel_rfl) rfl (by kernel_rfl) (by kernel_rfl) ⟨q0, q1, q2, q3, q4, q5⟩ (fun _ d _ _ _ h => by cases d <;> exact h) ?_
      simp only [schedOps, List.filterMap_cons, List.filterMap_nil, List.getElem?_toArray, List.getElem?_cons_zero, List.getElem?_cons_succ, Option.map_some]
      have hs7 : Side w6.drew p t o6 (quitS l 8 0) := hs6.below (Below.refl _ _).drew
      repeat (first | (refine' wpSched_take _ (by rfl) (fun wS hS => ?_) ?_; rotate_left; (focus (obtain ⟨j0, j1, j2, j3, j4, j5⟩ := hS; go_simp; first | done | rfl)); (try simp only [Act.put, List.setIfInBounds_toArray, List.set_cons_zero, List.set_cons_succ])) | (refine wpSched_skip (by rfl) ?_; try simp only [Act.put, List.setIfInBounds_toArray, List.set_cons_zero, List.set_cons_succ]))
      refine wpSched_run (fun K hK => ?_)
      go_wp2_with (go_at_call 13; refine (num_any _ _).mono ?_; rintro e w' ⟨rfl, rfl⟩)
      refine QRun_normal (hK.out _ _ ⟨q0, q1, q2, q3, q4, q5⟩ ?_)
      clear hK K
      repeat (first | (refine' wpSched_take _ (by rfl) (fun wS hS => ?_) ?_; rotate_left; (focus (obtain ⟨j0, j1, j2, j3, j4, j5⟩ := hS; go_simp; first | done | rfl)); (try simp only [Act.put, List.setIfInBounds_toArray, List.set_cons_zero, List.set_cons_succ])) | (refine wpSched_skip (by rfl) ?_; try simp only [Act.put, List.setIfInBounds_toArray, List.set_cons_zero, List.set_cons_succ]))
      refine wpSched_run (fun K hK => ?_)
      go_wp2_with (go_at_call 16; refine (hst _ _ hs7).mono ?_; rintro e w' ⟨rfl, rfl⟩)
      refine QRun_normal (hK.out _ _ ⟨q0, q1, q2, q3, q4, q5⟩ ?_)
      clear hK K
      repeat (first | (refine' wpSched_take _ (by rfl) (fun wS hS => ?_) ?_; rotate_left; (focus (obtain ⟨j0, j1, j2, j3, j4, j5⟩ := hS; go_simp; first | done | rfl)); (try simp only [Act.put, List.setIfInBounds_toArray, List.set_cons_zero, List.set_cons_succ])) | (refine wpSched_skip (by rfl) ?_; try simp only [Act.put, List.setIfInBounds_toArray, List.set_cons_zero, List.set_cons_succ]))
      refine wpSched_run (fun K hK => ?_)
      go_wp2_with (go_at_call 20; refine (how _ _ hs7).mono ?_; rintro e w8 ⟨rfl, hb8⟩)
      have hs8 := hs7.below hb8
      have hB8 : Below w.heap.size w w8 := seqB hB6.drew hb8
      refine QRun_normal (hK.out _ _ ⟨fsm_below_cell (W := w6.drew) hb8 q0, fsm_below_cell (W := w6.drew) hb8 q1, fsm_below_cell (W := w6.drew) hb8 q2, fsm_below_cell (W := w6.drew) hb8 q3, fsm_below_cell (W := w6.drew) hb8 q4, fsm_below_cell (W := w6.drew) hb8 q5⟩ ?_)
      clear hK K
      repeat (first | (refine' wpSched_take _ (by rfl) (fun wS hS => ?_) ?_; rotate_left; (focus (obtain ⟨j0, j1, j2, j3, j4, j5⟩ := hS; go_simp; first | done | rfl)); (try simp only [Act.put, List.setIfInBounds_toArray, List.set_cons_zero, List.set_cons_succ])) | (refine wpSched_skip (by rfl) ?_; try simp only [Act.put, List.setIfInBounds_toArray, List.set_cons_zero, List.set_cons_succ]))
      refine wpSched_run (fun K hK => ?_)
      go_wp2_with (go_at_call 21; refine (hlf _ _ hs8).mono ?_; rintro e w' ⟨rfl, rfl⟩)
      refine QRun_normal (hK.out _ _ ⟨fsm_below_cell (W := w6.drew) hb8 q0, fsm_below_cell (W := w6.drew) hb8 q1, fsm_below_cell (W := w6.drew) hb8 q2, fsm_below_cell (W := w6.drew) hb8 q3, fsm_below_cell (W := w6.drew) hb8 q4, fsm_below_cell (W := w6.drew) hb8 q5⟩ ?_)
      clear hK K
      repeat (first | (refine' wpSched_take _ (by rfl) (fun wS hS => ?_) ?_; rotate_left; (focus (obtain ⟨j0, j1, j2, j3, j4, j5⟩ := hS; go_simp; first | done | rfl)); (try simp only [Act.put, List.setIfInBounds_toArray, List.set_cons_zero, List.set_cons_succ])) | (refine wpSched_skip (by rfl) ?_; try simp only [Act.put, List.setIfInBounds_toArray, List.set_cons_zero, List.set_cons_succ]))
      refine wpSched_done ?_
      clear q0 q1 q2 q3 q4 q5 hs8 hs7 hs6
      go_wp2_with fail
      go_ret
      exact ⟨rfl, hB8⟩
    · have ht := nTake_any p t o4 (.slice sa n sc) _ ⟨4, i, askM l, ⟨#[]⟩⟩ ml W5.drew (hs5.below hb5) (hm5.below hb5) (by have h := SeqAt.below hop5 hb5; rw [HN.out] at h; exact h) (show (⟨#[]⟩ : ByteArray).size ≤ 4611686018427387904 by decide)
      rw [htk 4 (by decide)] at ht
      unfold packCells at ht
      clear htk hs5 hm5 hop5
      refine wp_schedL (fun w' => w'.cell? ⟨w4.heap.size, 0, none⟩ = some (.int .i64 2) ∧ w'.cell? ⟨w4.heap.size, 1, none⟩ = some (.int .i64 3) ∧ w'.cell? ⟨w4.heap.size, 2, none⟩ = some (.int .i64 4) ∧ w'.cell? ⟨g, 2, none⟩ = some (.slice sa n sc)) [(0, true), (1, true), (2, true), (3, true), (4, true), (5, true), (6, true), (7, true), (8, true), (9, true), (10, true), (11, true), (12, true), (13, false), (14, true), (15, true), (16, true), (17, true), (18, true)] (by kernel_rfl) (by kernel_rfl) rfl (by kernel_rfl) (by kernel_rfl) ⟨k0, k1, k2, y2⟩ (fun _ d _ _ _ h => by cases d <;> exact h) ?_
      simp only [schedOps, List.filterMap_cons, List.filterMap_nil, List.getElem?_toArray, List.getElem?_cons_zero, List.getElem?_cons_succ, Option.map_some]
      repeat (first | (refine' wpSched_take _ (by rfl) (fun wS hS => ?_) ?_; rotate_left; (focus (obtain ⟨j0, j1, j2, j3⟩ := hS; go_simp; first | done | rfl)); (try simp only [Act.put, List.setIfInBounds_toArray, List.set_cons_zero, List.set_cons_succ])) | (refine wpSched_skip (by rfl) ?_; try simp only [Act.put, List.setIfInBounds_toArray, List.set_cons_zero, List.set_cons_succ]))
      refine wpSched_run (fun K hK => ?_)
      go_wp2_with (go_at_call 18; refine ht.mono ?_; rintro e w6 ⟨v6, l6, o6, rfl, hl6, hq6, hs6, -, hO6, hm6⟩; obtain rfl : l6 = [] := List.map_eq_nil_iff.1 hq6; obtain ⟨a6, cc6, rfl, -, -⟩ := SeqAt.form hl6.1.at)
      have hgp2 : ¬ w4.heap.size = p := by omega
      refine QRun_normal (hK.out _ _ ⟨hO6.cell (w := W5.drew) (a := ⟨w4.heap.size, 0, none⟩) k0 hgp2, hO6.cell (w := W5.drew) (a := ⟨w4.heap.size, 1, none⟩) k1 hgp2, hO6.cell (w := W5.drew) (a := ⟨w4.heap.size, 2, none⟩) k2 hgp2, hO6.cell (w := W5.drew) (a := ⟨g, 2, none⟩) y2 hgp⟩ ?_)
      clear hK K
      repeat (first | (refine' wpSched_take _ (by rfl) (fun wS hS => ?_) ?_; rotate_left; (focus (obtain ⟨j0, j1, j2, j3⟩ := hS; go_simp; first | done | rfl)); (try simp only [Act.put, List.setIfInBounds_toArray, List.set_cons_zero, List.set_cons_succ])) | (refine wpSched_skip (by rfl) ?_; try simp only [Act.put, List.setIfInBounds_toArray, List.set_cons_zero, List.set_cons_succ]))
      refine wpSched_done ?_
      have hwp2 : ¬ w.heap.size = p := fun e => hpw e.symm
      have q0 := hO6.cell (w := W5.drew) (a := ⟨w.heap.size, 0, none⟩) x0 hwp2
      have q1 := hO6.cell (w := W5.drew) (a := ⟨w.heap.size, 1, none⟩) x1 hwp2
      have q2 := hO6.cell (w := W5.drew) (a := ⟨w.heap.size, 2, none⟩) x2 hwp2
      have q3 := hO6.cell (w := W5.drew) (a := ⟨w.heap.size, 3, none⟩) x3 hwp2
      have q4 := hO6.cell (w := W5.drew) (a := ⟨w.heap.size, 4, none⟩) x4' hwp2
      have q5 := hO6.cell (w := W5.drew) (a := ⟨w.heap.size, 5, none⟩) x5 hwp2
      have hB6 : Below w.heap.size w w6 := ((Only.ofBelow (S := (· = p)) hBw).drew.trans hO6).below (Nat.le_refl _) (fun k e => by omega)
      clear ht hO6 k0 k1 k2 y2 x0 x1 x2 x3 x4' x5 hl6 hq6 hm6 hb5 hBw
      go_wp2_with fail
      refine wp_schedL (fun w' => w'.cell? ⟨w.heap.size, 0, none⟩ = some (.int .i64 l.mru) ∧ w'.cell? ⟨w.heap.size, 1, none⟩ = some (.int .i64 l.magic) ∧ w'.cell? ⟨w.heap.size, 2, none⟩ = some (.int .i64 l.mrru) ∧ w'.cell? ⟨w.heap.size, 3, none⟩ = some (.bool l.short) ∧ w'.cell? ⟨w.heap.size, 4, none⟩ = some (.string l.disc) ∧ w'.cell? ⟨w.heap.size, 5, none⟩ = some (.int .i64 l.num)) [(0, true), (1, false), (2, true), (3, true), (4, true), (5, true), (6, true), (7, true), (8, true), (9, true), (10, false), (11, true), (12, true), (13, true), (14, true), (16, true), (15, false), (17, true), (18, true), (19, true), (20, true), (21, false), (22, true), (23, true), (24, true)] (by kernel_rfl) (by kernel_rfl) rfl (by kernel_rfl) (by kernel_rfl) ⟨q0, q1, q2, q3, q4, q5⟩ (fun _ d _ _ _ h => by cases d <;> exact h) ?_
      simp only [schedOps, List.filterMap_cons, List.filterMap_nil, List.getElem?_toArray, List.getElem?_cons_zero, List.getElem?_cons_succ, Option.map_some]
      have hs7 : Side w6.drew p t o6 (quitS l 8 0) := hs6.below (Below.refl _ _).drew
      repeat (first | (refine' wpSched_take _ (by rfl) (fun wS hS => ?_) ?_; rotate_left; (focus (obtain ⟨j0, j1, j2, j3, j4, j5⟩ := hS; go_simp; first | done | rfl)); (try simp only [Act.put, List.setIfInBounds_toArray, List.set_cons_zero, List.set_cons_succ])) | (refine wpSched_skip (by rfl) ?_; try simp only [Act.put, List.setIfInBounds_toArray, List.set_cons_zero, List.set_cons_succ]))
      refine wpSched_run (fun K hK => ?_)
      go_wp2_with (go_at_call 13; refine (num_any _ _).mono ?_; rintro e w' ⟨rfl, rfl⟩)
      refine QRun_normal (hK.out _ _ ⟨q0, q1, q2, q3, q4, q5⟩ ?_)
      clear hK K
      repeat (first | (refine' wpSched_take _ (by rfl) (fun wS hS => ?_) ?_; rotate_left; (focus (obtain ⟨j0, j1, j2, j3, j4, j5⟩ := hS; go_simp; first | done | rfl)); (try simp only [Act.put, List.setIfInBounds_toArray, List.set_cons_zero, List.set_cons_succ])) | (refine wpSched_skip (by rfl) ?_; try simp only [Act.put, List.setIfInBounds_toArray, List.set_cons_zero, List.set_cons_succ]))
      refine wpSched_run (fun K hK => ?_)
      go_wp2_with (go_at_call 16; refine (hst _ _ hs7).mono ?_; rintro e w' ⟨rfl, rfl⟩)
      refine QRun_normal (hK.out _ _ ⟨q0, q1, q2, q3, q4, q5⟩ ?_)
      clear hK K
      repeat (first | (refine' wpSched_take _ (by rfl) (fun wS hS => ?_) ?_; rotate_left; (focus (obtain ⟨j0, j1, j2, j3, j4, j5⟩ := hS; go_simp; first | done | rfl)); (try simp only [Act.put, List.setIfInBounds_toArray, List.set_cons_zero, List.set_cons_succ])) | (refine wpSched_skip (by rfl) ?_; try simp only [Act.put, List.setIfInBounds_toArray, List.set_cons_zero, List.set_cons_succ]))
      refine wpSched_run (fun K hK => ?_)
      go_wp2_with (go_at_call 20; refine (how _ _ hs7).mono ?_; rintro e w8 ⟨rfl, hb8⟩)
      have hs8 := hs7.below hb8
      have hB8 : Below w.heap.size w w8 := seqB hB6.drew hb8
      refine QRun_normal (hK.out _ _ ⟨fsm_below_cell (W := w6.drew) hb8 q0, fsm_below_cell (W := w6.drew) hb8 q1, fsm_below_cell (W := w6.drew) hb8 q2, fsm_below_cell (W := w6.drew) hb8 q3, fsm_below_cell (W := w6.drew) hb8 q4, fsm_below_cell (W := w6.drew) hb8 q5⟩ ?_)
      clear hK K
      repeat (first | (refine' wpSched_take _ (by rfl) (fun wS hS => ?_) ?_; rotate_left; (focus (obtain ⟨j0, j1, j2, j3, j4, j5⟩ := hS; go_simp; first | done | rfl)); (try simp only [Act.put, List.setIfInBounds_toArray, List.set_cons_zero, List.set_cons_succ])) | (refine wpSched_skip (by rfl) ?_; try simp only [Act.put, List.setIfInBounds_toArray, List.set_cons_zero, List.set_cons_succ]))
      refine wpSched_run (fun K hK => ?_)
      go_wp2_with (go_at_call 21; refine (hlf _ _ hs8).mono ?_; rintro e w' ⟨rfl, rfl⟩)
      refine QRun_normal (hK.out _ _ ⟨fsm_below_cell (W := w6.drew) hb8 q0, fsm_below_cell (W := w6.drew) hb8 q1, fsm_below_cell (W := w6.drew) hb8 q2, fsm_below_cell (W := w6.drew) hb8 q3, fsm_below_cell (W := w6.drew) hb8 q4, fsm_below_cell (W := w6.drew) hb8 q5⟩ ?_)
      clear hK K
      repeat (first | (refine' wpSched_take _ (by rfl) (fun wS hS => ?_) ?_; rotate_left; (focus (obtain ⟨j0, j1, j2, j3, j4, j5⟩ := hS; go_simp; first | done | rfl)); (try simp only [Act.put, List.setIfInBounds_toArray, List.set_cons_zero, List.set_cons_succ])) | (refine wpSched_skip (by rfl) ?_; try simp only [Act.put, List.setIfInBounds_toArray, List.set_cons_zero, List.set_cons_succ]))
      refine wpSched_done ?_
      clear q0 q1 q2 q3 q4 q5 hs8 hs7 hs6
      go_wp2_with fail
      go_ret
      exact ⟨rfl, hB8⟩
end Go.Proofs.YtagnbdenecphcaaDoor
