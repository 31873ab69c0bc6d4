/- NegCloses, walked. -/
import Derived.Test.YtagnbdenecphcaaDoorOpen
import Derived.Test.YtagnbdenecphcaaDoorNegP5
namespace Go.Proofs.YtagnbdenecphcaaDoor
open Go.RowKit
set_option linter.unusedVariables false
set_option linter.unusedSimpArgs false
/-- links that may meet -/
theorem far_both {l m : LinkM} (h : ¬ (l.magic ≠ 0 ∧ l.magic = m.magic)) : farM l m ∧ farM m l := by
  unfold farM
  by_cases h0 : l.magic = 0
  · by_cases h1 : m.magic = 0
    · exact ⟨.inl h1, .inl h0⟩
    · exact ⟨.inr (by rw [h0]; exact h1), .inl h0⟩
  · have : l.magic ≠ m.magic := fun e => h ⟨h0, e⟩
    exact ⟨.inr (Ne.symm this), .inr this⟩
theorem conc_plain (l m : LinkM) (c i : Int) (hc : c = 5 ∨ c = 6) : concP l m ⟨c, i, false⟩ = ⟨c, i, [], ⟨#[]⟩⟩ := by
  rcases hc with rfl | rfl <;> rfl
set_option maxRecDepth 100000 in
set_option maxHeartbeats 32000000 in
theorem closes_walk (l m : LinkM) (ml : Int) (w : World) (hml : MaxLenIs w ml) :
    Calls Tryd.prog 4 #[.agg (linkCells l), .agg (linkCells m)] w fun e w' => e = .returned (.bool true) ∧ Below w.heap.size w w' := by
  have hB : Below w.heap.size w ((w.alloc (.cells (linkCells l) 23)).alloc (.cells (linkCells m) 23)) := allocB (allocB (Below.refl _ _) _) _
  have hh1 := below_of (allocB (Below.refl _ (w.alloc (.cells (linkCells l) 23))) (.cells (linkCells m) 23)) (link_new w l)
  have hh2 := link_new (w.alloc (.cells (linkCells l) 23)) m
  rw [show (w.alloc (.cells (linkCells l) 23)).heap.size = w.heap.size + 1 by simp] at hh2
  have haw := awake_any ml _ (hml.below hB)
  have hmW := hml.below hB
  have hr1 := fun w => rmay_any l w
  have hr2 := fun w => rmay_any m w
  obtain ⟨b1, hb1⟩ : ∃ b, mayM l = b := ⟨_, rfl⟩
  obtain ⟨b2, hb2⟩ : ∃ b, mayM m = b := ⟨_, rfl⟩
  rw [hb1] at hr1
  rw [hb2] at hr2
  have hopn := fun W h1 h2 h3 h4 h5 => open_any l m ml W h1 h2 h3 h4 h5
  unfold linkCells at hB hh1 hh2 haw hmW hr1 hr2 hopn ⊢
  obtain ⟨W, hW⟩ : ∃ W, (w.alloc (.cells #[.int .i64 l.mru, .int .i64 l.magic, .int .i64 l.mrru, .bool l.short, .string l.disc, .int .i64 l.num] 23)).alloc (.cells #[.int .i64 m.mru, .int .i64 m.magic, .int .i64 m.mrru, .bool m.short, .string m.disc, .int .i64 m.num] 23) = W := ⟨_, rfl⟩
  rw [hW] at hB hh1 hh2 haw hmW
  go_enter Tryd.func4, Tryd.ntmps4
  go_wp2_with fail
  refine haw.mono ?_
  rintro e w1 ⟨rfl, hbw⟩
  have hB1 := seqB hB hbw
  have hm1 := hmW.below hbw
  replace hh1 := below_of hbw hh1
  replace hh2 := below_of hbw hh2
  obtain ⟨c0, c1, c2, c3, c4, c5⟩ := link_cells (l := l) hh1
  obtain ⟨d0, d1, d2, d3, d4, d5⟩ := link_cells (l := m) hh2
  clear hW haw hbw hB hmW
  cases b1 with
  | false =>
    go_wp2_with (go_at_call 14; refine (hr1 _).mono ?_; rintro e w2 ⟨rfl, hbr⟩)
    go_ret
    exact ⟨rfl, seqB hB1 hbr⟩
  | true =>
    cases b2 with
    | false =>
      go_wp2_with fail
      refine (hr1 _).mono ?_
      rintro e w2 ⟨rfl, hbr⟩
      have e0 := fsm_below_cell hbr d0
      have e1 := fsm_below_cell hbr d1
      have e2 := fsm_below_cell hbr d2
      have e3 := fsm_below_cell hbr d3
      have e4 := fsm_below_cell hbr d4
      have e5 := fsm_below_cell hbr d5
      have hB2 := seqB hB1 hbr
      clear c0 c1 c2 c3 c4 c5 d0 d1 d2 d3 d4 d5
      go_wp2_with fail
      refine (hr2 _).mono ?_
      rintro e w3 ⟨rfl, hbr3⟩
      go_wp2_with fail
      go_ret
      exact ⟨rfl, seqB hB2 hbr3⟩
    | true =>
      --CUT
      by_cases h0 : l.magic = 0
      · have hno : ¬ (l.magic ≠ 0 ∧ l.magic = m.magic) := by omega
        obtain ⟨hf1, hf2⟩ := far_both hno
        have hopn2 := fun W h => hopn W h hb1 hb2 hf1 hf2
        clear hopn hno
        have hq0 : (l.magic != 0) = false := by simp [h0]
        clear h0
        go_wp2_with fail
        refine (hr1 _).mono ?_
        rintro e w2 ⟨rfl, hbr⟩
        have e0 := fsm_below_cell hbr d0
        have e1 := fsm_below_cell hbr d1
        have e2 := fsm_below_cell hbr d2
        have e3 := fsm_below_cell hbr d3
        have e4 := fsm_below_cell hbr d4
        have e5 := fsm_below_cell hbr d5
        have f0 := fsm_below_cell hbr c0
        have f1 := fsm_below_cell hbr c1
        have f2 := fsm_below_cell hbr c2
        have f3 := fsm_below_cell hbr c3
        have f4 := fsm_below_cell hbr c4
        have f5 := fsm_below_cell hbr c5
        have hB2 := seqB hB1 hbr
        have hm2 := hm1.below hbr
        clear c0 c1 c2 c3 c4 c5 d0 d1 d2 d3 d4 d5 hm1 hbr hB1
        go_wp2_with fail
        refine (hr2 _).mono ?_
        rintro e w3 ⟨rfl, hbr3⟩
        replace e0 := fsm_below_cell hbr3 e0
        replace e1 := fsm_below_cell hbr3 e1
        replace e2 := fsm_below_cell hbr3 e2
        replace e3 := fsm_below_cell hbr3 e3
        replace e4 := fsm_below_cell hbr3 e4
        replace e5 := fsm_below_cell hbr3 e5
        replace f0 := fsm_below_cell hbr3 f0
        replace f1 := fsm_below_cell hbr3 f1
        replace f2 := fsm_below_cell hbr3 f2
        replace f3 := fsm_below_cell hbr3 f3
        replace f4 := fsm_below_cell hbr3 f4
        replace f5 := fsm_below_cell hbr3 f5
        replace hB2 := seqB hB2 hbr3
        replace hm2 := hm2.below hbr3
        clear hbr3 hh1 hh2
        go_wp2_with fail
        refine (hopn2 _ hm2).mono ?_
        rintro e w3 ⟨B, px, tx, py, ty, ox, oy, rfl, hT, hp1, hp2, hBw, hm3, hb3⟩
        clear hopn2 e0 e1 e2 e3 e4 e5 f0 f1 f2 f3 f4 f5 hm2 hr1 hr2
        go_wp2_with fail
        have hC := Lib.hid (closesG l.short m.short)
        have hd := nDo_any px tx ox _ 3 ml w3 hT.x hm3
        rw [sim_do hb2 _ _ 3 _ hC.out.x1] at hd
        refine hd.mono ?_
        rintro e w4 he
        obtain ⟨v4, l4, ox4, rfl, hl4, hq4, hT4, hO4, hm4⟩ := hT.act he
        clear hd he
        obtain ⟨ci, hci⟩ : ∃ x, clI l.short m.short = x := ⟨_, rfl⟩
        have HCI := Lib.hid hci
        obtain ⟨x4, rfl, hx4⟩ := one_of hq4
        rw [conc_plain _ _ 5 _ (.inl rfl), hci] at hx4
        obtain ⟨a4, cc4, rfl, -, -⟩ := SeqAt.form hl4.1.at
        obtain ⟨g, rfl, hg, hgl, -, hc41, hc42, z0, z1, z2, z3⟩ := hl4.cells 0 (by simp)
        have hop4 := (hl4.2 x4 (by simp)).at
        simp only [List.getElem_cons_zero, hx4] at z0 z1 z2 z3
        rw [hx4] at hop4
        have hB3 := seqB hB2 hb3
        have hgx : g ≠ px := by have := hT.pB.1; omega
        have hgy : g ≠ py := by have := hT.pB.2.1; omega
        have hcc : cc4 ≤ 9223372036854775807 := by unfold maxLen at hc42; omega
        simp only [List.length_cons, List.length_nil, Nat.zero_add, Nat.zero_mul] at z0 z1 z2 z3 hc41 ⊢
        obtain ⟨sa, sc, hsl, hsc1, hsc2⟩ := SeqAt.form hop4
        rw [hsl] at z2 hop4
        have hst := state_any px tx ox4 _ w4 hT4.x.blk
        rw [show (concN l m (clX l.short m.short)).state = 4 from hC.out.x1s] at hst
        have ht := nTake_any py ty oy _ _ ⟨5, ci, [], ⟨#[]⟩⟩ ml w4 hT4.y hm4 hop4 (show (⟨#[]⟩ : ByteArray).size ≤ 4611686018427387904 by decide)
        have hy1 := hC.out.y1
        rw [hci] at hy1
        have hsim := sim_take hb2 hb1 hf2 _ _ _ _ hy1
        rw [conc_plain _ _ 5 _ (.inl rfl)] at hsim
        rw [hsim] at ht
        simp only [packCells, List.length_nil] at ht z2
        clear hsl hx4 hci hop4 hq4 hl4 hsim hy1
        go_wp2_with (go_at_call 13; refine (num_any _ _).mono ?_; rintro e w' ⟨rfl, rfl⟩)
        refine hst.mono ?_
        rintro e w' ⟨rfl, rfl⟩
        go_wp2_with fail
        refine ht.mono ?_
        rintro e w5 he
        obtain ⟨v5, l5, oy5, rfl, hl5, hq5, hT5, hO5, hm5⟩ := hT4.swap.act he
        clear ht hst he
        obtain ⟨x5, rfl, hx5⟩ := one_of hq5
        rw [conc_plain _ _ 6 _ (.inr rfl)] at hx5
        obtain ⟨a5, cc5, rfl, -, -⟩ := SeqAt.form hl5.1.at
        obtain ⟨g5, rfl, hg5, hgl5, -, hc51, hc52, y0, y1, y2, y3⟩ := hl5.cells 0 (by simp)
        have hop5 := (hl5.2 x5 (by simp)).at
        simp only [List.getElem_cons_zero, hx5] at y0 y1 y2 y3
        rw [hx5] at hop5
        have hg5x : g5 ≠ px := by have := hT.pB.1; have := hO4.size; omega
        have hg5y : g5 ≠ py := by have := hT.pB.2.1; have := hO4.size; omega
        have hcc5 : cc5 ≤ 9223372036854775807 := by unfold maxLen at hc52; omega
        simp only [List.length_cons, List.length_nil, Nat.zero_add, Nat.zero_mul] at y0 y1 y2 y3 hc51 ⊢
        obtain ⟨sa5, sc5, hsl5, hsc51, hsc52⟩ := SeqAt.form hop5
        rw [hsl5] at y2 hop5
        replace hT5 : TwoAt w5 B px tx py ty ox4 oy5 (concN l m (clX l.short m.short)) (concN m l (clY l.short m.short)) := hT5.swap
        have k1 := hO5.cell (a := ⟨g, 1, none⟩) z1 hgy
        have hst := fun w' (h : TwoAt w' B px tx py ty ox4 oy5 (concN l m (clX l.short m.short)) (concN m l (clY l.short m.short))) => state_any py ty oy5 _ w' h.y.blk
        rw [show (concN m l (clY l.short m.short)).state = 5 from hC.out.y1s] at hst
        have hB45 : Only (fun b => b = px ∨ b = py) w3 w5 := (hO4.mono fun _ _ h => .inl h).trans (hO5.mono fun _ _ h => .inr h)
        simp only [List.length_nil] at y2
        clear hsl5 hx5 hq5 hl5 z0 z1 z2 z3 hO4 hO5 hT4 hm4
        go_wp2_with fail
        refine wp_schedL (fun w' => w'.cell? ⟨g5, 0, none⟩ = some (.int .i64 6) ∧ w'.cell? ⟨g5, 1, none⟩ = some (.int .i64 ci) ∧ w'.cell? ⟨g, 1, none⟩ = some (.int .i64 ci)) [(0, true), (1, false), (2, true), (3, true), (4, true), (5, true), (6, true), (7, true), (8, true), (9, true), (10, true), (11, true), (12, true), (13, true), (14, true), (15, true), (16, true), (17, true), (18, true), (19, true), (20, true), (21, true), (22, true), (23, true), (24, true), (25, true), (26, true), (27, true), (28, false), (29, true), (30, true)] (by kernel_rfl) (by kernel_rfl) rfl (by kernel_rfl) (by kernel_rfl) ⟨y0, y1, k1⟩ (fun _ d _ _ _ h => by cases d <;> exact h) ?_
        simp only [schedOps, List.filterMap_cons, List.filterMap_nil, List.getElem?_toArray, List.getElem?_cons_zero, List.getElem?_cons_succ, Option.map_some]
        repeat (first | (refine' wpSched_take _ (by rfl) (fun wS hS => ?_) ?_; rotate_left; (focus (obtain ⟨y0, y1, k1⟩ := hS; go_simp; first | done | rfl)); (try simp only [Act.put, List.setIfInBounds_toArray, List.set_cons_zero, List.set_cons_succ])) | (refine wpSched_skip (by rfl) ?_; try simp only [Act.put, List.setIfInBounds_toArray, List.set_cons_zero, List.set_cons_succ]))
        refine wpSched_run (fun K hK => ?_)
        go_wp2_with (go_at_call 13; refine (num_any _ _).mono ?_; rintro e w' ⟨rfl, rfl⟩)
        refine QRun_normal (hK.out _ _ ⟨y0, y1, k1⟩ ?_)
        clear hK K
        repeat (first | (refine' wpSched_take _ (by rfl) (fun wS hS => ?_) ?_; rotate_left; (focus (obtain ⟨y0, y1, k1⟩ := hS; go_simp; first | done | rfl)); (try simp only [Act.put, List.setIfInBounds_toArray, List.set_cons_zero, List.set_cons_succ])) | (refine wpSched_skip (by rfl) ?_; try simp only [Act.put, List.setIfInBounds_toArray, List.set_cons_zero, List.set_cons_succ]))
        refine wpSched_run (fun K hK => ?_)
        go_wp2_with (go_at_call 16; refine (hst _ (hT5.below (Below.refl _ _).drew)).mono ?_; rintro e w' ⟨rfl, rfl⟩)
        refine QRun_normal (hK.out _ _ ⟨y0, y1, k1⟩ ?_)
        clear hK K
        repeat (first | (refine' wpSched_take _ (by rfl) (fun wS hS => ?_) ?_; rotate_left; (focus (obtain ⟨y0, y1, k1⟩ := hS; go_simp; first | done | rfl)); (try simp only [Act.put, List.setIfInBounds_toArray, List.set_cons_zero, List.set_cons_succ])) | (refine wpSched_skip (by rfl) ?_; try simp only [Act.put, List.setIfInBounds_toArray, List.set_cons_zero, List.set_cons_succ]))
        refine wpSched_done ?_
        have hx2 := hC.out.x2
        rw [HCI.out] at hx2
        have hsim := sim_take hb1 hb2 hf1 _ _ _ _ hx2
        rw [conc_plain _ _ 6 _ (.inr rfl)] at hsim
        have hT6 : TwoAt w5.drew B px tx py ty ox4 oy5 (concN l m (clX l.short m.short)) (concN m l (clY l.short m.short)) := hT5.below (Below.refl _ _).drew
        have ht := nTake_any px tx ox4 _ _ ⟨6, ci, [], ⟨#[]⟩⟩ ml w5.drew hT6.x (hm5.below (Below.refl _ _).drew) (SeqAt.below hop5 (Below.refl _ _).drew) (show (⟨#[]⟩ : ByteArray).size ≤ 4611686018427387904 by decide)
        rw [hsim] at ht
        simp only [packCells, List.length_nil] at ht
        clear hsim hx2 hT5 hop5 hm5 hst k1
        go_wp2_with fail
        refine ht.mono ?_
        rintro e w6 he
        obtain ⟨v6, l6, ox6, rfl, hl6, hq6, hT7, hO6, hm6⟩ := hT6.act he
        obtain rfl : l6 = [] := List.map_eq_nil_iff.1 hq6
        obtain ⟨a6, c6, rfl, -, -⟩ := SeqAt.form hl6.1.at
        have hd := nDo_any py ty oy5 _ 4 ml w6 hT7.y hm6
        rw [sim_do hb1 _ _ 4 _ hC.out.y2] at hd
        clear ht he hT6 hq6 hl6 y0 y1 y2 y3
        go_wp2_with fail
        refine hd.mono ?_
        rintro e w7 he
        obtain ⟨v7, l7, oy7, rfl, -, -, hT8, hO7, hm7⟩ := hT7.swap.act he
        have hsx := state_any px tx ox6 _ w7 hT8.y.blk
        rw [show (concN l m (clX2 l.short m.short)).state = 2 from hC.out.x2s] at hsx
        have hsy := state_any py ty oy7 _ w7 hT8.x.blk
        rw [show (concN m l (clY2 l.short m.short)).state = 3 from hC.out.y2s] at hsy
        have hpw1 : w.heap.size ≤ px := Nat.le_trans hB2.size hp1
        have hpw2 : w.heap.size ≤ py := Nat.le_trans hB2.size hp2
        have HBF : Hid (Below w.heap.size w w7) := Lib.hid (((Only.ofBelow (S := fun b => b = px ∨ b = py) hB3).trans (hB45.drew.trans ((hO6.mono fun _ _ h => .inl h).trans (hO7.mono fun _ _ h => .inr h)))).below (Nat.le_refl _) (fun k e => by omega))
        clear hd he hT7 hT8 hO6 hO7 hm6 hm7 hB45 hB3 hB2 hb3
        go_wp2_with (go_at_call 13; refine (num_any _ _).mono ?_; rintro e w' ⟨rfl, rfl⟩)
        refine hsx.mono ?_
        rintro e w' ⟨rfl, rfl⟩
        go_wp2_with fail
        refine hsy.mono ?_
        rintro e w' ⟨rfl, rfl⟩
        go_wp2_with fail
        go_ret
        exact ⟨rfl, HBF.out⟩
      · by_cases h1 : l.magic = m.magic
        · clear hopn
          have hq0 : (l.magic != 0) = true := bne_iff_ne.2 h0
          have hq1 : (l.magic == m.magic) = true := beq_iff_eq.2 h1
          clear h0 h1
          go_wp2_with fail
          refine (hr1 _).mono ?_
          rintro e w2 ⟨rfl, hbr⟩
          have e0 := fsm_below_cell hbr d0
          have e1 := fsm_below_cell hbr d1
          have e2 := fsm_below_cell hbr d2
          have e3 := fsm_below_cell hbr d3
          have e4 := fsm_below_cell hbr d4
          have e5 := fsm_below_cell hbr d5
          have f0 := fsm_below_cell hbr c0
          have f1 := fsm_below_cell hbr c1
          have f2 := fsm_below_cell hbr c2
          have f3 := fsm_below_cell hbr c3
          have f4 := fsm_below_cell hbr c4
          have f5 := fsm_below_cell hbr c5
          have hB2 := seqB hB1 hbr
          have hm2 := hm1.below hbr
          clear c0 c1 c2 c3 c4 c5 d0 d1 d2 d3 d4 d5 hm1 hbr hB1
          go_wp2_with fail
          refine (hr2 _).mono ?_
          rintro e w3 ⟨rfl, hbr3⟩
          replace e0 := fsm_below_cell hbr3 e0
          replace e1 := fsm_below_cell hbr3 e1
          replace e2 := fsm_below_cell hbr3 e2
          replace e3 := fsm_below_cell hbr3 e3
          replace e4 := fsm_below_cell hbr3 e4
          replace e5 := fsm_below_cell hbr3 e5
          replace f0 := fsm_below_cell hbr3 f0
          replace f1 := fsm_below_cell hbr3 f1
          replace f2 := fsm_below_cell hbr3 f2
          replace f3 := fsm_below_cell hbr3 f3
          replace f4 := fsm_below_cell hbr3 f4
          replace f5 := fsm_below_cell hbr3 f5
          replace hB2 := seqB hB2 hbr3
          replace hm2 := hm2.below hbr3
          clear hbr3 hh1 hh2
          go_wp2_with fail
          go_ret
          exact ⟨rfl, hB2⟩
        · have hno : ¬ (l.magic ≠ 0 ∧ l.magic = m.magic) := by omega
          obtain ⟨hf1, hf2⟩ := far_both hno
          have hopn2 := fun W h => hopn W h hb1 hb2 hf1 hf2
          clear hopn hno
          have hq0 : (l.magic != 0) = true := bne_iff_ne.2 h0
          have hq1 : (l.magic == m.magic) = false := beq_eq_false_iff_ne.2 h1
          clear h0 h1
          go_wp2_with fail
          refine (hr1 _).mono ?_
          rintro e w2 ⟨rfl, hbr⟩
          have e0 := fsm_below_cell hbr d0
          have e1 := fsm_below_cell hbr d1
          have e2 := fsm_below_cell hbr d2
          have e3 := fsm_below_cell hbr d3
          have e4 := fsm_below_cell hbr d4
          have e5 := fsm_below_cell hbr d5
          have f0 := fsm_below_cell hbr c0
          have f1 := fsm_below_cell hbr c1
          have f2 := fsm_below_cell hbr c2
          have f3 := fsm_below_cell hbr c3
          have f4 := fsm_below_cell hbr c4
          have f5 := fsm_below_cell hbr c5
          have hB2 := seqB hB1 hbr
          have hm2 := hm1.below hbr
          clear c0 c1 c2 c3 c4 c5 d0 d1 d2 d3 d4 d5 hm1 hbr hB1
          go_wp2_with fail
          refine (hr2 _).mono ?_
          rintro e w3 ⟨rfl, hbr3⟩
          replace e0 := fsm_below_cell hbr3 e0
          replace e1 := fsm_below_cell hbr3 e1
          replace e2 := fsm_below_cell hbr3 e2
          replace e3 := fsm_below_cell hbr3 e3
          replace e4 := fsm_below_cell hbr3 e4
          replace e5 := fsm_below_cell hbr3 e5
          replace f0 := fsm_below_cell hbr3 f0
          replace f1 := fsm_below_cell hbr3 f1
          replace f2 := fsm_below_cell hbr3 f2
          replace f3 := fsm_below_cell hbr3 f3
          replace f4 := fsm_below_cell hbr3 f4
          replace f5 := fsm_below_cell hbr3 f5
          replace hB2 := seqB hB2 hbr3
          replace hm2 := hm2.below hbr3
          clear hbr3 hh1 hh2
          go_wp2_with fail
          refine (hopn2 _ hm2).mono ?_
          rintro e w3 ⟨B, px, tx, py, ty, ox, oy, rfl, hT, hp1, hp2, hBw, hm3, hb3⟩
          clear hopn2 e0 e1 e2 e3 e4 e5 f0 f1 f2 f3 f4 f5 hm2 hr1 hr2
          go_wp2_with fail
          have hC := Lib.hid (closesG l.short m.short)
          have hd := nDo_any px tx ox _ 3 ml w3 hT.x hm3
          rw [sim_do hb2 _ _ 3 _ hC.out.x1] at hd
          refine hd.mono ?_
          rintro e w4 he
          obtain ⟨v4, l4, ox4, rfl, hl4, hq4, hT4, hO4, hm4⟩ := hT.act he
          clear hd he
          obtain ⟨ci, hci⟩ : ∃ x, clI l.short m.short = x := ⟨_, rfl⟩
          have HCI := Lib.hid hci
          obtain ⟨x4, rfl, hx4⟩ := one_of hq4
          rw [conc_plain _ _ 5 _ (.inl rfl), hci] at hx4
          obtain ⟨a4, cc4, rfl, -, -⟩ := SeqAt.form hl4.1.at
          obtain ⟨g, rfl, hg, hgl, -, hc41, hc42, z0, z1, z2, z3⟩ := hl4.cells 0 (by simp)
          have hop4 := (hl4.2 x4 (by simp)).at
          simp only [List.getElem_cons_zero, hx4] at z0 z1 z2 z3
          rw [hx4] at hop4
          have hB3 := seqB hB2 hb3
          have hgx : g ≠ px := by have := hT.pB.1; omega
          have hgy : g ≠ py := by have := hT.pB.2.1; omega
          have hcc : cc4 ≤ 9223372036854775807 := by unfold maxLen at hc42; omega
          simp only [List.length_cons, List.length_nil, Nat.zero_add, Nat.zero_mul] at z0 z1 z2 z3 hc41 ⊢
          obtain ⟨sa, sc, hsl, hsc1, hsc2⟩ := SeqAt.form hop4
          rw [hsl] at z2 hop4
          have hst := state_any px tx ox4 _ w4 hT4.x.blk
          rw [show (concN l m (clX l.short m.short)).state = 4 from hC.out.x1s] at hst
          have ht := nTake_any py ty oy _ _ ⟨5, ci, [], ⟨#[]⟩⟩ ml w4 hT4.y hm4 hop4 (show (⟨#[]⟩ : ByteArray).size ≤ 4611686018427387904 by decide)
          have hy1 := hC.out.y1
          rw [hci] at hy1
          have hsim := sim_take hb2 hb1 hf2 _ _ _ _ hy1
          rw [conc_plain _ _ 5 _ (.inl rfl)] at hsim
          rw [hsim] at ht
          simp only [packCells, List.length_nil] at ht z2
          clear hsl hx4 hci hop4 hq4 hl4 hsim hy1
          go_wp2_with (go_at_call 13; refine (num_any _ _).mono ?_; rintro e w' ⟨rfl, rfl⟩)
          refine hst.mono ?_
          rintro e w' ⟨rfl, rfl⟩
          go_wp2_with fail
          refine ht.mono ?_
          rintro e w5 he
          obtain ⟨v5, l5, oy5, rfl, hl5, hq5, hT5, hO5, hm5⟩ := hT4.swap.act he
          clear ht hst he
          obtain ⟨x5, rfl, hx5⟩ := one_of hq5
          rw [conc_plain _ _ 6 _ (.inr rfl)] at hx5
          obtain ⟨a5, cc5, rfl, -, -⟩ := SeqAt.form hl5.1.at
          obtain ⟨g5, rfl, hg5, hgl5, -, hc51, hc52, y0, y1, y2, y3⟩ := hl5.cells 0 (by simp)
          have hop5 := (hl5.2 x5 (by simp)).at
          simp only [List.getElem_cons_zero, hx5] at y0 y1 y2 y3
          rw [hx5] at hop5
          have hg5x : g5 ≠ px := by have := hT.pB.1; have := hO4.size; omega
          have hg5y : g5 ≠ py := by have := hT.pB.2.1; have := hO4.size; omega
          have hcc5 : cc5 ≤ 9223372036854775807 := by unfold maxLen at hc52; omega
          simp only [List.length_cons, List.length_nil, Nat.zero_add, Nat.zero_mul] at y0 y1 y2 y3 hc51 ⊢
          obtain ⟨sa5, sc5, hsl5, hsc51, hsc52⟩ := SeqAt.form hop5
          rw [hsl5] at y2 hop5
          replace hT5 : TwoAt w5 B px tx py ty ox4 oy5 (concN l m (clX l.short m.short)) (concN m l (clY l.short m.short)) := hT5.swap
          have k1 := hO5.cell (a := ⟨g, 1, none⟩) z1 hgy
          have hst := fun w' (h : TwoAt w' B px tx py ty ox4 oy5 (concN l m (clX l.short m.short)) (concN m l (clY l.short m.short))) => state_any py ty oy5 _ w' h.y.blk
          rw [show (concN m l (clY l.short m.short)).state = 5 from hC.out.y1s] at hst
          have hB45 : Only (fun b => b = px ∨ b = py) w3 w5 := (hO4.mono fun _ _ h => .inl h).trans (hO5.mono fun _ _ h => .inr h)
          simp only [List.length_nil] at y2
          clear hsl5 hx5 hq5 hl5 z0 z1 z2 z3 hO4 hO5 hT4 hm4
          go_wp2_with fail
          refine wp_schedL (fun w' => w'.cell? ⟨g5, 0, none⟩ = some (.int .i64 6) ∧ w'.cell? ⟨g5, 1, none⟩ = some (.int .i64 ci) ∧ w'.cell? ⟨g, 1, none⟩ = some (.int .i64 ci)) [(0, true), (1, false), (2, true), (3, true), (4, true), (5, true), (6, true), (7, true), (8, true), (9, true), (10, true), (11, true), (12, true), (13, true), (14, true), (15, true), (16, true), (17, true), (18, true), (19, true), (20, true), (21, true), (22, true), (23, true), (24, true), (25, true), (26, true), (27, true), (28, false), (29, true), (30, true)] (by kernel_rfl) (by kernel_rfl) rfl (by kernel_rfl) (by kernel_rfl) ⟨y0, y1, k1⟩ (fun _ d _ _ _ h => by cases d <;> exact h) ?_
          simp only [schedOps, List.filterMap_cons, List.filterMap_nil, List.getElem?_toArray, List.getElem?_cons_zero, List.getElem?_cons_succ, Option.map_some]
          repeat (first | (refine' wpSched_take _ (by rfl) (fun wS hS => ?_) ?_; rotate_left; (focus (obtain ⟨y0, y1, k1⟩ := hS; go_simp; first | done | rfl)); (try simp only [Act.put, List.setIfInBounds_toArray, List.set_cons_zero, List.set_cons_succ])) | (refine wpSched_skip (by rfl) ?_; try simp only [Act.put, List.setIfInBounds_toArray, List.set_cons_zero, List.set_cons_succ]))
          refine wpSched_run (fun K hK => ?_)
          go_wp2_with (go_at_call 13; refine (num_any _ _).mono ?_; rintro e w' ⟨rfl, rfl⟩)
          refine QRun_normal (hK.out _ _ ⟨y0, y1, k1⟩ ?_)
          clear hK K
          repeat (first | (refine' wpSched_take _ (by rfl) (fun wS hS => ?_) ?_; rotate_left; (focus (obtain ⟨y0, y1, k1⟩ := hS; go_simp; first | done | rfl)); (try simp only [Act.put, List.setIfInBounds_toArray, List.set_cons_zero, List.set_cons_succ])) | (refine wpSched_skip (by rfl) ?_; try simp only [Act.put, List.setIfInBounds_toArray, List.set_cons_zero, List.set_cons_succ]))
          refine wpSched_run (fun K hK => ?_)
          go_wp2_with (go_at_call 16; refine (hst _ (hT5.below (Below.refl _ _).drew)).mono ?_; rintro e w' ⟨rfl, rfl⟩)
          refine QRun_normal (hK.out _ _ ⟨y0, y1, k1⟩ ?_)
          clear hK K
          repeat (first | (refine' wpSched_take _ (by rfl) (fun wS hS => ?_) ?_; rotate_left; (focus (obtain ⟨y0, y1, k1⟩ := hS; go_simp; first | done | rfl)); (try simp only [Act.put, List.setIfInBounds_toArray, List.set_cons_zero, List.set_cons_succ])) | (refine wpSched_skip (by rfl) ?_; try simp only [Act.put, List.setIfInBounds_toArray, List.set_cons_zero, List.set_cons_succ]))
          refine wpSched_done ?_
          have hx2 := hC.out.x2
          rw [HCI.out] at hx2
          have hsim := sim_take hb1 hb2 hf1 _ _ _ _ hx2
          rw [conc_plain _ _ 6 _ (.inr rfl)] at hsim
          have hT6 : TwoAt w5.drew B px tx py ty ox4 oy5 (concN l m (clX l.short m.short)) (concN m l (clY l.short m.short)) := hT5.below (Below.refl _ _).drew
          have ht := nTake_any px tx ox4 _ _ ⟨6, ci, [], ⟨#[]⟩⟩ ml w5.drew hT6.x (hm5.below (Below.refl _ _).drew) (SeqAt.below hop5 (Below.refl _ _).drew) (show (⟨#[]⟩ : ByteArray).size ≤ 4611686018427387904 by decide)
          rw [hsim] at ht
          simp only [packCells, List.length_nil] at ht
          clear hsim hx2 hT5 hop5 hm5 hst k1
          go_wp2_with fail
          refine ht.mono ?_
          rintro e w6 he
          obtain ⟨v6, l6, ox6, rfl, hl6, hq6, hT7, hO6, hm6⟩ := hT6.act he
          obtain rfl : l6 = [] := List.map_eq_nil_iff.1 hq6
          obtain ⟨a6, c6, rfl, -, -⟩ := SeqAt.form hl6.1.at
          have hd := nDo_any py ty oy5 _ 4 ml w6 hT7.y hm6
          rw [sim_do hb1 _ _ 4 _ hC.out.y2] at hd
          clear ht he hT6 hq6 hl6 y0 y1 y2 y3
          go_wp2_with fail
          refine hd.mono ?_
          rintro e w7 he
          obtain ⟨v7, l7, oy7, rfl, -, -, hT8, hO7, hm7⟩ := hT7.swap.act he
          have hsx := state_any px tx ox6 _ w7 hT8.y.blk
          rw [show (concN l m (clX2 l.short m.short)).state = 2 from hC.out.x2s] at hsx
          have hsy := state_any py ty oy7 _ w7 hT8.x.blk
          rw [show (concN m l (clY2 l.short m.short)).state = 3 from hC.out.y2s] at hsy
          have hpw1 : w.heap.size ≤ px := Nat.le_trans hB2.size hp1
          have hpw2 : w.heap.size ≤ py := Nat.le_trans hB2.size hp2
          have HBF : Hid (Below w.heap.size w w7) := Lib.hid (((Only.ofBelow (S := fun b => b = px ∨ b = py) hB3).trans (hB45.drew.trans ((hO6.mono fun _ _ h => .inl h).trans (hO7.mono fun _ _ h => .inr h)))).below (Nat.le_refl _) (fun k e => by omega))
          clear hd he hT7 hT8 hO6 hO7 hm6 hm7 hB45 hB3 hB2 hb3
          go_wp2_with (go_at_call 13; refine (num_any _ _).mono ?_; rintro e w' ⟨rfl, rfl⟩)
          refine hsx.mono ?_
          rintro e w' ⟨rfl, rfl⟩
          go_wp2_with fail
          refine hsy.mono ?_
          rintro e w' ⟨rfl, rfl⟩
          go_wp2_with fail
          go_ret
          exact ⟨rfl, HBF.out⟩
end Go.Proofs.YtagnbdenecphcaaDoor
