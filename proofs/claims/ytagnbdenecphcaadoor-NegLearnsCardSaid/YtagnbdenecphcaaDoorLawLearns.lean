/- NegLearns, walked. -/
import Derived.Test.YtagnbdenecphcaaDoorLawForms
import Derived.Test.YtagnbdenecphcaaDoorNegL
import Derived.Test.YtagnbdenecphcaaDoorLinkEq
namespace Go.Proofs.YtagnbdenecphcaaDoor
open Go.RowKit
set_option linter.unusedVariables false
set_option linter.unusedSimpArgs false
/-- one cell of a slice, as a slice -/
theorem SeqAt.sub1 {P : Program} {α : Type} {E : Elem P α} {w : World} {g o n c : Nat} {l : List α} (h : SeqAt E w (.slice (some ⟨g, o, none⟩) n c) l) (k : Nat) (hk : k < l.length) : SeqAt E w (.slice (some ⟨g, o + k * E.size, none⟩) 1 (c - k)) [l[k]] := by
  rcases h with ⟨_, h⟩ | ⟨g', o', c', h, h1, h2, hg, hc⟩
  · cases h
  · cases h
    refine .inr ⟨g, _, _, rfl, by simp; omega, by omega, hg, fun j hj i hi => ?_⟩
    have : j = 0 := by simpa using hj
    subst this
    have := hc k hk i hi
    simpa using this
theorem slice_fits (k c : Nat) (h : k + 1 ≤ c) : 0 ≤ (k : Int) + 1 ∧ (k : Int) + 1 ≤ (c : Int) := ⟨by omega, by omega⟩
theorem slice_fits2 (k c : Nat) (h : k + 1 ≤ c) : ¬ c = k := by omega
theorem wrap_pred6 (n m : Nat) (h : m + 1 = n) (h6 : n ≤ 6) : IntKind.i64.wrap ((n : Int) - 1) = (m : Int) := by
  rw [IntWalk.i64_in _ (by omega)]; omega
theorem wrap_succ6 (k : Nat) (h : k < 6) : IntKind.i64.wrap ((k : Int) + 1) = (k : Int) + 1 := IntWalk.i64_in _ (by omega)
set_option maxRecDepth 100000 in
set_option maxHeartbeats 16000000 in
theorem learns_walk (l : LinkM) (which ml : Int) (w : World) (hm : MaxLenIs w ml) :
    Calls Tryd.prog 7 #[.agg (linkCells l), .int .i64 which] w fun e w' => e = .returned (.bool true) ∧ Below w.heap.size w w' := by
  have hB : Below w.heap.size w (w.alloc (.cells (linkCells l) 23)) := allocB (Below.refl _ _) _
  have hma := hm.below hB
  have haw := awake_any ml _ hma
  have hrm := fun w => rmay_any l w
  have hcl := fun w' (hb : Below (w.alloc (.cells (linkCells l) 23)).heap.size (w.alloc (.cells (linkCells l) 23)) w') => linkBlk_cells (w := w) (l := l) hb
  obtain ⟨b, hb⟩ : ∃ b, mayM l = b := ⟨_, rfl⟩
  rw [hb] at hrm
  unfold linkCells at hB hma haw hrm hcl ⊢
  obtain ⟨W, hW⟩ : ∃ W, w.alloc (.cells #[.int .i64 l.mru, .int .i64 l.magic, .int .i64 l.mrru, .bool l.short, .string l.disc, .int .i64 l.num] 23) = W := ⟨_, rfl⟩
  rw [hW] at hB hma haw hcl
  go_enter Tryd.func7, Tryd.ntmps7
  go_wp2_with fail
  refine haw.mono ?_
  rintro e w1 ⟨rfl, hb1⟩
  obtain ⟨c0, c1, c2, c3, c4, c5⟩ := hcl _ hb1
  have hm1 := hma.below hb1
  have hB1 := seqB hB hb1
  clear hW haw hcl hb1 hma hB
  go_wp2_with fail
  cases b with
  | false =>
    have hbad := new_bad l 8 w1 (by unfold newOk; rw [hb]; rfl)
    unfold linkCells at hbad
    refine hbad.mono ?_
    rintro e w2 ⟨rfl, hb2⟩
    have d0 := fsm_below_cell hb2 c0
    have d1 := fsm_below_cell hb2 c1
    have d2 := fsm_below_cell hb2 c2
    have d3 := fsm_below_cell hb2 c3
    have d4 := fsm_below_cell hb2 c4
    have d5 := fsm_below_cell hb2 c5
    have hB2 := seqB hB1 hb2
    clear hbad c0 c1 c2 c3 c4 c5 hb2
    go_wp2_with (first
      | (go_at_call 13; refine (num_any _ _).mono ?_; rintro e w' ⟨rfl, rfl⟩)
      | (go_at_call 14; refine (hrm _).mono ?_; rintro e w3 ⟨rfl, hb3⟩))
    go_ret
    exact ⟨rfl, seqB hB2 hb3⟩
  | true =>
    have hnew := new_side l 8 ml w1 hm1 hb (by decide) (by decide)
    unfold linkCells at hnew
    refine hnew.mono ?_
    rintro e w2 ⟨p, t, rfl, hs2, hp2, hm2, hb2⟩
    have d0 := fsm_below_cell hb2 c0
    have d1 := fsm_below_cell hb2 c1
    have d2 := fsm_below_cell hb2 c2
    have d3 := fsm_below_cell hb2 c3
    have d4 := fsm_below_cell hb2 c4
    have d5 := fsm_below_cell hb2 c5
    have hB2 := seqB hB1 hb2
    have hwp : w.heap.size ≤ p := Nat.le_trans hB1.size hp2
    have hd := nDo_any p t (.slice none 0 0) _ 2 ml w2 hs2 hm2
    rw [quit_open] at hd
    clear hnew c1 c2 c3 c4 c5 hb2
    go_wp2_with (go_at_call 13; refine (num_any _ _).mono ?_; rintro e w' ⟨rfl, rfl⟩)
    refine hd.mono ?_
    rintro e w3 ⟨v3, l3, o3, rfl, -, -, hs3, -, hO3, hm3⟩
    clear hd
    have hd := nDo_any p t o3 _ 0 ml w3 hs3 hm3
    rw [quit_up l 8 (by decide)] at hd
    go_wp2_with fail
    refine hd.mono ?_
    rintro e w4 ⟨v4, l4, o4, rfl, hl4, hq4, hs4, -, hO4, hm4⟩
    obtain ⟨x4, rfl, hx4⟩ := one_of hq4
    obtain ⟨a4, cc4, rfl, -, -⟩ := SeqAt.form hl4.1.at
    obtain ⟨g, rfl, hg, hgl, -, hc41, hc42, z0, z1, z2, -⟩ := hl4.cells 0 (by simp)
    have hop4 := (hl4.2 x4 (by simp)).at
    have hopb := (hl4.2 x4 (by simp)).block
    simp only [List.getElem_cons_zero, hx4] at z0 z1 z2
    rw [hx4] at hop4
    have hwl := block_lt_of_cell d0
    have hpw : p ≠ w.heap.size := fun e => by have := block_lt_of_cell c0; dsimp only at this; omega
    have hOp := hO3.trans hO4
    have e0 := hOp.cell d0 (fun e => hpw e.symm)
    have e1 := hOp.cell d1 (fun e => hpw e.symm)
    have e2 := hOp.cell d2 (fun e => hpw e.symm)
    have e3 := hOp.cell d3 (fun e => hpw e.symm)
    have e4 := hOp.cell d4 (fun e => hpw e.symm)
    have e5 := hOp.cell d5 (fun e => hpw e.symm)
    have hBp : Below w.heap.size w w4 := ((Only.ofBelow (S := (· = p)) hB2).trans hOp).below (Nat.le_refl _) (fun k e => by omega)
    have hgp : g ≠ p := by have := hs3.blk.lt; omega
    have hcc : cc4 ≤ 9223372036854775807 := by unfold maxLen at hc42; omega
    simp only [List.length_cons, List.length_nil, Nat.zero_add, Nat.zero_mul] at z0 z1 z2 hc41 ⊢
    clear hd hO3 hO4 hs2 hs3 hm2 hm3 hl4 hq4 hB1 hB2 hm1 d0 d1 d2 d3 d4 d5 hOp
    obtain ⟨sa, sc, hsl, hsc1, hsc2⟩ := SeqAt.form hop4
    rw [hsl] at z2 hop4 hopb
    obtain ⟨n, hn⟩ : ∃ n, (askM l).length = n := ⟨_, rfl⟩
    rw [hn] at z2 hsc1 hop4
    have HN := Lib.hid hn
    have hn6 : n ≤ 6 := by rw [← hn]; exact ask_le l
    have hp4 := hs4.blk.lt
    clear hsl hx4 hn e0 e1 e2 e3 e4 e5 hrm
    by_cases hn0 : n = 0
    · subst hn0
      go_wp2_with fail
      go_ret
      exact ⟨rfl, hBp⟩
    · have hun : IntKind.u64.wrap (n : Int) = n := by rw [IntKind.wrap_u64]; omega
      have hq0 : ((n : Int) == 0) = false := beq_eq_false_iff_ne.2 (by omega)
      have hnz : ¬ (n : Int) = 0 := by omega
      obtain ⟨kk, hkk, hkn⟩ : ∃ kk : Nat, wrap64 ((IntKind.u64.wrap which).tmod (n : Int)) = (kk : Int) ∧ kk < n := by
        refine ⟨((IntKind.u64.wrap which).tmod (n : Int)).toNat, ?_⟩
        rw [IntKind.wrap_u64, Int.tmod_eq_emod_of_nonneg (by omega)]
        have h1 := Int.emod_nonneg (which % 18446744073709551616) hnz
        have h2 := Int.emod_lt_of_pos (which % 18446744073709551616) (show (0 : Int) < n by omega)
        rw [IntWalk.wrap64_in _ ⟨by omega, by omega⟩]
        omega
      obtain ⟨sg, so, rfl⟩ : ∃ sg so, sa = some ⟨sg, so, none⟩ := by
        rcases hop4 with ⟨h0, _⟩ | ⟨g', o', c', hv, _⟩
        · have h9 := HN.out; have h0' : askM l = [] := h0; rw [h0'] at h9; simp at h9; omega
        · cases hv; exact ⟨g', o', rfl⟩
      have hkl : kk < (askM l).length := by rw [HN.out]; exact hkn
      have hone := SeqAt.sub1 hop4 kk hkl
      have hsz2 : optE.size = 2 := rfl
      rw [hsz2] at hone
      have hmem : (askM l)[kk] ∈ askM l := List.getElem_mem hkl
      obtain ⟨oo, hoo⟩ : ∃ x, (askM l)[kk] = x := ⟨_, rfl⟩
      rw [hoo] at hone hmem
      have hrej := learns_rej hb 8 (by decide) hmem
      have hcl := clear_length (may_of hb) hmem
      have hml := clear_may (may_of hb) oo.1
      obtain ⟨l2, hl2⟩ : ∃ x, clearM l oo.1 = x := ⟨_, rfl⟩
      rw [hl2] at hrej hcl hml
      have hml2 := of_may hml
      have hack := learns_ack hml2 8
      clear hoo hmem hl2 hml hkl
      have hw1 : wrap64 ((kk : Int) + 1) = ((kk + 1 : Nat) : Int) := by rw [IntWalk.wrap64_in _ ⟨by omega, by omega⟩]; omega
      have hsc9 : sc ≤ 9223372036854775807 := by unfold maxLen at hsc2; omega
      have hk1s : kk + 1 ≤ sc := Nat.le_trans hkn hsc1
      have hw2 := wrap_succ6 kk (Nat.lt_of_lt_of_le hkn hn6)
      go_wp2_with fail
      clear hkk hun hq0 hnz
      have ht := nTake_any p t o4 (.slice (some ⟨sg, so + kk * 2, none⟩) 1 (sc - kk)) _ ⟨4, 1, [oo], ⟨#[]⟩⟩ ml w4.drew (hs4.below (Below.refl _ _).drew) (hm4.below (Below.refl _ _).drew) (SeqAt.below hone (Below.refl _ _).drew) (show (⟨#[]⟩ : ByteArray).size ≤ 4611686018427387904 by decide)
      rw [hrej] at ht
      unfold packCells at ht
      refine wp_schedL (fun w' => w'.cell? ⟨g, 1, none⟩ = some (.int .i64 1) ∧ w'.cell? ⟨g, 2, none⟩ = some (.slice (some ⟨sg, so, none⟩) n sc)) [(0, true), (1, true), (2, true), (3, true), (4, true), (5, true), (6, true), (7, true), (8, true), (9, true), (10, true), (11, true), (12, true), (13, true), (14, false), (15, true), (16, true), (17, true), (18, true), (19, true)] (by kernel_rfl) (by kernel_rfl) rfl (by kernel_rfl) (by kernel_rfl) ⟨z1, z2⟩ (fun _ d _ _ _ h => by cases d <;> exact h) ?_
      simp only [schedOps, List.filterMap_cons, List.filterMap_nil, List.getElem?_toArray, List.getElem?_cons_zero, List.getElem?_cons_succ, Option.map_some]
      repeat (first | (refine' wpSched_take _ (by rfl) (fun wS hS => ?_) ?_; rotate_left; (focus (obtain ⟨j0, j1⟩ := hS; go_simp; first | done | rfl)); (try simp only [Act.put, List.setIfInBounds_toArray, List.set_cons_zero, List.set_cons_succ])) | (refine wpSched_skip (by rfl) ?_; try simp only [Act.put, List.setIfInBounds_toArray, List.set_cons_zero, List.set_cons_succ]))
      refine wpSched_take (.slice (some ⟨sg, so + kk * 2, none⟩) 1 (sc - kk)) (by rfl) (fun wS hS => ?_) ?_
      · obtain ⟨j0, j1⟩ := hS
        go_simp
        rw [if_pos (slice_fits kk sc hk1s), if_neg (slice_fits2 kk sc hk1s)]
      try simp only [Act.put, List.setIfInBounds_toArray, List.set_cons_zero, List.set_cons_succ]
      repeat (first | (refine' wpSched_take _ (by rfl) (fun wS hS => ?_) ?_; rotate_left; (focus (obtain ⟨j0, j1⟩ := hS; go_simp; first | done | rfl)); (try simp only [Act.put, List.setIfInBounds_toArray, List.set_cons_zero, List.set_cons_succ])) | (refine wpSched_skip (by rfl) ?_; try simp only [Act.put, List.setIfInBounds_toArray, List.set_cons_zero, List.set_cons_succ]))
      refine wpSched_run (fun K hK => ?_)
      go_wp2_with (go_at_call 18; refine ht.mono ?_; rintro e w6 ⟨v6, l6, o6, rfl, hl6, hq6, hs6, -, hO6, hm6⟩; obtain ⟨x6, rfl, hx6⟩ := one_of hq6; obtain ⟨a6, cc6, rfl, -, -⟩ := SeqAt.form hl6.1.at)
      have u1 := hO6.cell (w := w4.drew) (a := ⟨g, 1, none⟩) z1 hgp
      have u2 := hO6.cell (w := w4.drew) (a := ⟨g, 2, none⟩) z2 hgp
      refine QRun_normal (hK.out _ _ ⟨u1, u2⟩ ?_)
      clear hK K
      repeat (first | (refine' wpSched_take _ (by rfl) (fun wS hS => ?_) ?_; rotate_left; (focus (obtain ⟨j0, j1⟩ := hS; go_simp; first | done | rfl)); (try simp only [Act.put, List.setIfInBounds_toArray, List.set_cons_zero, List.set_cons_succ])) | (refine wpSched_skip (by rfl) ?_; try simp only [Act.put, List.setIfInBounds_toArray, List.set_cons_zero, List.set_cons_succ]))
      refine wpSched_done ?_
      have hone6 := (hl6.2 x6 (by simp)).at
      rw [hx6] at hone6
      obtain ⟨f, rfl, hf, hfl, -, hc61, hc62, y0, y1, y2, -⟩ := hl6.cells 0 (by simp)
      simp only [List.getElem_cons_zero, hx6, List.length_cons, List.length_nil, Nat.zero_add, Nat.zero_mul] at y0 y1 y2 hc61
      obtain ⟨ta, tc, htl, htc1, htc2⟩ := SeqAt.form hone6
      rw [htl] at y2 hone6
      obtain ⟨n2, hn2⟩ : ∃ n, (askM l2).length = n := ⟨_, rfl⟩
      rw [HN.out, hn2] at hcl
      have hn2' : ({ code := 1, id := 2, opts := askM l2, data := ⟨#[]⟩ } : PacketM).opts.length = n2 := hn2
      rw [hn2'] at y2 hone6
      have hw3 := wrap_pred6 n n2 hcl hn6
      have hne0 : ((n2 : Int) != (n2 : Int)) = false := by simp
      have hcc6 : cc6 ≤ 9223372036854775807 := by unfold maxLen at hc62; omega
      have hBp6 : Below w.heap.size w w6 := ((Only.ofBelow (S := (· = p)) hBp).drew.trans hO6).below (Nat.le_refl _) (fun k e => by omega)
      have hfp : f ≠ p := fun e => by have h1 : w4.drew.heap.size = w4.heap.size := rfl; omega
      have hs6d : Side w6.drew p t o6 (learntS l2 8) := hs6.below (Below.refl _ _).drew
      clear ht hO6 hl6 hq6 hrej hx6 htl hn2 hn2' hop4 hopb z0 z1 z2 hs4 hm4 hone hw2
      go_wp2_with fail
      refine wp_schedL (fun w' => w'.cell? ⟨g, 2, none⟩ = some (.slice (some ⟨sg, so, none⟩) n sc) ∧ w'.cell? ⟨f, 0, none⟩ = some (.int .i64 1) ∧ w'.cell? ⟨f, 2, none⟩ = some (.slice ta n2 tc)) [(0, true), (1, false), (2, true), (3, true), (4, true), (5, true), (6, true), (7, true), (8, true), (9, true), (10, true), (11, true), (12, true), (13, true), (14, true), (15, true), (16, true), (17, true), (18, true), (19, true), (20, true), (21, true), (22, true), (23, true), (24, true), (25, true), (26, true), (27, true), (28, true)] (by kernel_rfl) (by kernel_rfl) rfl (by kernel_rfl) (by kernel_rfl) ⟨u2, y0, y2⟩ (fun _ d _ _ _ h => by cases d <;> exact h) ?_
      simp only [schedOps, List.filterMap_cons, List.filterMap_nil, List.getElem?_toArray, List.getElem?_cons_zero, List.getElem?_cons_succ, Option.map_some]
      repeat (first | (refine' wpSched_take _ (by rfl) (fun wS hS => ?_) ?_; rotate_left; (focus (obtain ⟨j0, j1, j2⟩ := hS; go_simp; first | done | rfl)); (try simp only [Act.put, List.setIfInBounds_toArray, List.set_cons_zero, List.set_cons_succ])) | (refine wpSched_skip (by rfl) ?_; try simp only [Act.put, List.setIfInBounds_toArray, List.set_cons_zero, List.set_cons_succ]))
      refine wpSched_run (fun K hK => ?_)
      go_wp2_with (go_at_call 13; refine (num_any _ _).mono ?_; rintro e w' ⟨rfl, rfl⟩)
      refine QRun_normal (hK.out _ _ ⟨u2, y0, y2⟩ ?_)
      clear hK K
      repeat (first | (refine' wpSched_take _ (by rfl) (fun wS hS => ?_) ?_; rotate_left; (focus (obtain ⟨j0, j1, j2⟩ := hS; go_simp; first | done | rfl)); (try simp only [Act.put, List.setIfInBounds_toArray, List.set_cons_zero, List.set_cons_succ])) | (refine wpSched_skip (by rfl) ?_; try simp only [Act.put, List.setIfInBounds_toArray, List.set_cons_zero, List.set_cons_succ]))
      refine wpSched_done ?_
      go_wp2_with fail
      have ht := nTake_any p t o6 (.slice ta n2 tc) _ ⟨2, 2, askM l2, ⟨#[]⟩⟩ ml w6.drew.drew (hs6d.below (Below.refl _ _).drew) (hm6.below (Below.refl _ _).drew.drew) (SeqAt.below hone6 (Below.refl _ _).drew.drew) (show (⟨#[]⟩ : ByteArray).size ≤ 4611686018427387904 by decide)
      rw [hack] at ht
      unfold packCells at ht
      clear u1 u2
      refine wp_schedL (fun w' => w'.cell? ⟨f, 1, none⟩ = some (.int .i64 2) ∧ w'.cell? ⟨f, 2, none⟩ = some (.slice ta n2 tc)) [(0, true), (1, true), (2, true), (3, true), (4, true), (5, true), (6, true), (7, true), (8, true), (9, true), (10, false), (11, true), (12, true), (13, true), (14, true), (15, true)] (by kernel_rfl) (by kernel_rfl) rfl (by kernel_rfl) (by kernel_rfl) ⟨y1, y2⟩ (fun _ d _ _ _ h => by cases d <;> exact h) ?_
      simp only [schedOps, List.filterMap_cons, List.filterMap_nil, List.getElem?_toArray, List.getElem?_cons_zero, List.getElem?_cons_succ, Option.map_some]
      repeat (first | (refine' wpSched_take _ (by rfl) (fun wS hS => ?_) ?_; rotate_left; (focus (obtain ⟨j0, j1⟩ := hS; go_simp; first | done | rfl)); (try simp only [Act.put, List.setIfInBounds_toArray, List.set_cons_zero, List.set_cons_succ])) | (refine wpSched_skip (by rfl) ?_; try simp only [Act.put, List.setIfInBounds_toArray, List.set_cons_zero, List.set_cons_succ]))
      refine wpSched_run (fun K hK => ?_)
      go_wp2_with (go_at_call 18; refine ht.mono ?_; rintro e w8 ⟨v8, l8, o8, rfl, hl8, hq8, hs8, -, hO8, hm8⟩; obtain rfl : l8 = [] := List.map_eq_nil_iff.1 hq8; obtain ⟨a8, cc8, rfl, -, -⟩ := SeqAt.form hl8.1.at)
      refine QRun_normal (hK.out _ _ ⟨hO8.cell (w := w6.drew.drew) (a := ⟨f, 1, none⟩) y1 hfp, hO8.cell (w := w6.drew.drew) (a := ⟨f, 2, none⟩) y2 hfp⟩ ?_)
      clear hK K
      repeat (first | (refine' wpSched_take _ (by rfl) (fun wS hS => ?_) ?_; rotate_left; (focus (obtain ⟨j0, j1⟩ := hS; go_simp; first | done | rfl)); (try simp only [Act.put, List.setIfInBounds_toArray, List.set_cons_zero, List.set_cons_succ])) | (refine wpSched_skip (by rfl) ?_; try simp only [Act.put, List.setIfInBounds_toArray, List.set_cons_zero, List.set_cons_succ]))
      refine wpSched_done ?_
      have hBp8 : Below w.heap.size w w8 := ((Only.ofBelow (S := (· = p)) hBp6).drew.drew.trans hO8).below (Nat.le_refl _) (fun k e => by omega)
      have hst := state_any p t o8 _ w8 hs8.blk
      dsimp only at hst
      clear ht hO8 hl8 hq8 y0 y1 y2 hone6 hs6 hs6d hm6 hm8 hs8
      go_wp2_with (first
        | (go_at_call 13; refine (num_any _ _).mono ?_; rintro e w' ⟨rfl, rfl⟩)
        | (go_at_call 16; refine hst.mono ?_; rintro e w' ⟨rfl, rfl⟩))
      go_ret
      exact ⟨rfl, hBp8⟩
end Go.Proofs.YtagnbdenecphcaaDoor
