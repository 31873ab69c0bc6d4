/- The reference: Take, options that are learned; Take in one. -/
import Derived.Test.YtagnbdenecphcaaGreatDoorRq
namespace Go.Proofs.YtagnbdenecphcaaGreatDoor
open Go.RowKit
set_option linter.unusedVariables false
set_option linter.unusedSimpArgs false
theorem setLink_link {w : World} {B : Nat} {l0 : LinkM} (h : LinkAt w B l0) (l : LinkM) : LinkAt (setLink w B 0 l) B l := by
  have h1 := h.set 0 (.int .i64 l.mru) { l0 with mru := l.mru } rfl
  have h2 := h1.set 1 (.int .i64 l.magic) { l0 with mru := l.mru, magic := l.magic } rfl
  have h3 := h2.set 2 (.int .i64 l.mrru) { l0 with mru := l.mru, magic := l.magic, mrru := l.mrru } rfl
  have h4 := h3.set 3 (.bool l.short) { l0 with mru := l.mru, magic := l.magic, mrru := l.mrru, short := l.short } rfl
  have h5 := h4.set 4 (.string l.disc) { l0 with mru := l.mru, magic := l.magic, mrru := l.mrru, short := l.short, disc := l.disc } rfl
  exact h5.set 5 (.int .i64 l.num) l rfl
/-- what Take comes to at options that are learned -/
def learnX (s : NegM) (k : PacketM) : NegM × List PacketM × Int := runM { s with own := (learnM s.own k.code k.opts).1 } 9 ⟨k, 0, 0, []⟩
set_option maxRecDepth 100000 in
set_option maxHeartbeats 8000000 in
theorem rtake_learn (p : Nat) (av v : Value) (s : NegM) (k : PacketM) (w : World) (h : RSide w p av s) (hv : OptsIn w v k.opts) (hvp : k.opts ≠ [] → ∀ b, v.ownBlock = some b → b ≠ p) (hsz : k.data.size ≤ 4611686018427387904) (hz : ∀ o ∈ k.opts, o.2.size ≤ 140737488351232) (he : (controlM k).2 = 0) (hst : ¬ (s.state = 0 ∨ s.state = 1)) (hc : k.code = 3 ∨ k.code = 4) (hi : k.id = s.asked) :
    Calls Tryz.prog 14 #[.pointer (some ⟨p, 0, none⟩), .agg (packCells k v)] w (RActPost p av s (learnX s k) w) := by
  have hc0 := Lib.hid hc
  have hi0 := Lib.hid hi
  have zi : (k.id != s.asked) = false := bne_eq_false_iff_eq.2 hi
  clear hc hi
  have hbx := allocB (Below.refl w.heap.size w) (.cells #[.int .i64 k.code, .int .i64 k.id, v, .string k.data] 36)
  have hhx := heap_alloc_last w (.cells #[.int .i64 k.code, .int .i64 k.id, v, .string k.data] 36)
  obtain ⟨pa, pc, rfl, hpc1, hpc2⟩ := hv.form
  have hct := rcontrol_any _ k _ (hv.below hbx) hz hsz
  have hpl := h.blk.lt
  obtain ⟨T, hT⟩ : ∃ x, bytesOf (controlM k).1 = x := ⟨_, rfl⟩
  obtain ⟨er, her⟩ : ∃ x, (controlM k).2 = x := ⟨_, rfl⟩
  rw [hT, her] at hct
  obtain rfl : er = 0 := her ▸ he
  clear hT her he
  unfold packCells at hct ⊢
  go_enter Tryz.func14, Tryz.ntmps14
  go_wp2_with fail
  refine hct.mono ?_
  rintro e w1 ⟨rfl, hb1⟩
  clear hct
  have hh1 : w1.heap[w.heap.size]? = some (.cells (packCells k (.slice pa k.opts.length pc)) 36 (0, 0)) := below_of hb1 hhx
  have hbw := seqB hbx hb1
  clear hbx hhx hb1
  obtain ⟨b0, b1, b2, b3⟩ := packet_cell hh1
  have hs1 := h.below hbw
  have hv1 := hv.below hbw
  have c0 : w1.cell? ⟨p, 0, none⟩ = some (.int .i64 s.state) := hs1.blk.cell 0
  have q0 : (s.state == 0) = false := beq_eq_false_iff_ne.2 (fun e => hst (.inl e))
  have q1 : (s.state == 1) = false := beq_eq_false_iff_ne.2 (fun e => hst (.inr e))
  have hql : w.heap.size ≠ p := by omega
  obtain ⟨-, -, -, -, c16, c17⟩ := hs1.blk.rest
  obtain ⟨c1, c2, c3, c4, c5, c6⟩ := hs1.blk.owns
  obtain ⟨LL, hLL⟩ : ∃ x, k.opts.foldl (learnStep k.code) s.own = x := ⟨_, rfl⟩
  have hlm : (learnM s.own k.code k.opts).1 = LL := by
    unfold learnM
    rw [if_neg ?_]
    · exact hLL
    · rintro (e | ⟨e1, e2⟩)
      · rw [h.good.may] at e; cases e
      · rcases hc0.out with e | e
        · exact e1 e
        · exact e2 e
  have hLm : mayM LL = true := by rw [← hlm]; exact learn_may h.good.may k.code hc0.out k.opts
  have hle := fun W (hW : OptsIn W (.slice pa k.opts.length pc) k.opts) => rlearn_any s.own k.code (.slice pa k.opts.length pc) k.opts W h.good.may hc0.out hW
  rw [hLL] at hle
  simp only [linkCells_eq] at hle
  have HLL := Lib.hid hlm
  have zc1 : (k.code == 1) = false := by rcases hc0.out with e | e <;> rw [e] <;> rfl
  have zc2 : (k.code == 2) = false := by rcases hc0.out with e | e <;> rw [e] <;> rfl
  have hzc : ((k.code == 3) = true) ∨ ((k.code == 3) = false ∧ (k.code == 4) = true) := by
    rcases hc0.out with e | e
    · exact .inl (beq_iff_eq.2 e)
    · exact .inr ⟨by rw [e]; rfl, beq_iff_eq.2 e⟩
  clear hlm hLL
  rcases hzc with zc3 | ⟨zc3, zc4⟩
  all_goals
    go_wp2_with fail
    refine wp_schedL (fun w' => w'.cell? ⟨w.heap.size, 1, none⟩ = some (.int .i64 k.id) ∧ w'.cell? ⟨p, 16, none⟩ = some (.int .i64 s.asked)) [(0, true), (1, true), (2, true), (3, true), (4, true), (5, true), (6, true)] (by kernel_rfl) (by kernel_rfl) rfl (by kernel_rfl) (by kernel_rfl) ⟨b1, c16⟩ (fun _ d _ _ _ h => by cases d <;> exact h) ?_
    obtain ⟨w2, hw2⟩ : ∃ w2, w1.drew = w2 := ⟨_, rfl⟩
    have hb12 : Below w1.heap.size w1 w2 := by rw [← hw2]; exact (Below.refl _ _).drew
    rw [hw2]
    replace b0 := fsm_below_cell hb12 b0
    replace b1 := fsm_below_cell hb12 b1
    replace b2 := fsm_below_cell hb12 b2
    replace b3 := fsm_below_cell hb12 b3
    replace c16 := fsm_below_cell hb12 c16
    replace c1 := fsm_below_cell hb12 c1
    replace c2 := fsm_below_cell hb12 c2
    replace c3 := fsm_below_cell hb12 c3
    replace c4 := fsm_below_cell hb12 c4
    replace c5 := fsm_below_cell hb12 c5
    replace c6 := fsm_below_cell hb12 c6
    replace hh1 := below_of hb12 hh1
    replace hv1 := hv1.below hb12
    have hbw2 := seqB hbw hb12
    clear hb12 hw2 c0 c17 hs1
    simp only [schedOps, List.filterMap_cons, List.filterMap_nil, List.getElem?_toArray, List.getElem?_cons_zero, List.getElem?_cons_succ, Option.map_some]
    repeat (first | (refine' wpSched_take _ (by rfl) (fun wS hS => ?_) ?_; rotate_left; (focus (obtain ⟨b1, c16⟩ := hS; go_simp; first | done | rfl)); (try simp only [Act.put, List.setIfInBounds_toArray, List.set_cons_zero, List.set_cons_succ])) | (refine wpSched_skip (by rfl) ?_; try simp only [Act.put, List.setIfInBounds_toArray, List.set_cons_zero, List.set_cons_succ]))
    refine wpSched_done ?_
    go_wp2_with fail
    refine wp_tree (fun w' => w'.cell? ⟨p, 1, none⟩ = some (.int .i64 s.own.mru) ∧ w'.cell? ⟨p, 1 + 1, none⟩ = some (.int .i64 s.own.magic) ∧ w'.cell? ⟨p, 1 + 2, none⟩ = some (.int .i64 s.own.mrru) ∧ w'.cell? ⟨p, 1 + 3, none⟩ = some (.bool s.own.short) ∧ w'.cell? ⟨p, 1 + 4, none⟩ = some (.string s.own.disc) ∧ w'.cell? ⟨p, 1 + 5, none⟩ = some (.int .i64 s.own.num) ∧ w'.cell? ⟨w.heap.size, 0, none⟩ = some (.int .i64 k.code) ∧ w'.cell? ⟨w.heap.size, 2, none⟩ = some (.slice pa k.opts.length pc)) (.two [(0, true), (1, true), (2, true), (3, true), (4, true), (5, true), (6, true), (7, true)] 8 12 (.fin [(9, true), (10, true), (11, true), (12, false), (13, false), (14, true)]) (.fin [(8, false), (9, true), (10, true), (11, true), (13, false), (14, true)])) (by kernel_rfl) (by kernel_rfl) rfl (by kernel_rfl) (by kernel_rfl) (by kernel_rfl) ⟨c1, c2, c3, c4, c5, c6, b0, b2⟩ (fun _ d _ _ _ h => by cases d <;> exact h) ?_
    obtain ⟨w3, hw3⟩ : ∃ w3, w2.drew = w3 := ⟨_, rfl⟩
    have hb23 : Below w2.heap.size w2 w3 := by rw [← hw3]; exact (Below.refl _ _).drew
    rw [hw3]
    have gg := fun {a : Addr} {v : Value} (h : w2.cell? a = some v) => fsm_below_cell (W := w2) hb23 h
    replace c1 := gg c1; replace c2 := gg c2; replace c3 := gg c3; replace c4 := gg c4; replace c5 := gg c5; replace c6 := gg c6; replace b0 := gg b0; replace b1 := gg b1; replace b2 := gg b2; replace b3 := gg b3
    have hh3 := below_of hb23 hh1
    have hv3 := hv1.below hb23
    have hbw3 := seqB hbw2 hb23
    clear gg hb23 hw3 c16 hv1 hh1 hbw2
    have hbz := allocB (Below.refl w3.heap.size w3) (.cells #[.int .i64 0, .int .i64 0, .int .i64 0, .bool false, .string ⟨#[]⟩, .int .i64 0] 23)
    simp only [wpTree, schedOps, List.filterMap_cons, List.filterMap_nil, List.getElem?_toArray, List.getElem?_cons_zero, List.getElem?_cons_succ, Option.map_some]
    repeat (first | (refine' wpSched_take _ (by rfl) (fun wS hS => ?_) ?_; rotate_left; (focus (obtain ⟨c1, c2, c3, c4, c5, c6, b0, b2⟩ := hS; go_simp; first | done | rfl)); (try simp only [Act.put, List.setIfInBounds_toArray, List.set_cons_zero, List.set_cons_succ])) | (refine wpSched_skip (by rfl) ?_; try simp only [Act.put, List.setIfInBounds_toArray, List.set_cons_zero, List.set_cons_succ]))
    refine wpSched_done ?_
    refine tree_both ?_ ?_
    · refine tree_step (fun Q1 K hK => ?_)
      go_wp2_with fail
      refine (hle _ hv3).mono ?_
      rintro e w4 ⟨rfl, hb4⟩
      have gg := fun {a : Addr} {v : Value} (h : w3.cell? a = some v) => fsm_below_cell (W := w3) hb4 h
      go_wp2_with fail
      refine QRun_normal (hK.out _ _ ⟨gg c1, gg c2, gg c3, gg c4, gg c5, gg c6, gg b0, gg b2⟩ ?_)
      clear hK K
      show wpSchedL _ _ _ _ _ _ _
      repeat (first | (refine' wpSched_take _ (by rfl) (fun wS hS => ?_) ?_; rotate_left; (focus (obtain ⟨c1, c2, c3, c4, c5, c6, b0, b2⟩ := hS; go_simp; first | done | rfl)); (try simp only [Act.put, List.setIfInBounds_toArray, List.set_cons_zero, List.set_cons_succ])) | (refine wpSched_skip (by rfl) ?_; try simp only [Act.put, List.setIfInBounds_toArray, List.set_cons_zero, List.set_cons_succ]))
      refine wpSched_run (fun K hK => ?_)
      go_wp2_with fail
      have hb5 := allocB hb4 (.cells #[.int .i64 0, .int .i64 0, .int .i64 0, .bool false, .string ⟨#[]⟩, .int .i64 0] 23)
      have gg := fun {a : Addr} {v : Value} (h : w3.cell? a = some v) => fsm_below_cell (W := w3) hb5 h
      refine QRun_normal (hK.out _ _ ⟨gg c1, gg c2, gg c3, gg c4, gg c5, gg c6, gg b0, gg b2⟩ ?_)
      clear hK K
      refine wpSched_run (fun K hK => ?_)
      go_wp2_with fail
      have hhL := heap_alloc_last w4 (.cells #[.int .i64 LL.mru, .int .i64 LL.magic, .int .i64 LL.mrru, .bool LL.short, .string LL.disc, .int .i64 LL.num] 23)
      have hb6 := allocB hb4 (.cells #[.int .i64 LL.mru, .int .i64 LL.magic, .int .i64 LL.mrru, .bool LL.short, .string LL.disc, .int .i64 LL.num] 23)
      have hB0 : w.heap.size ≤ w4.heap.size := Nat.le_trans hbw3.size hb4.size
      obtain ⟨B, hBB⟩ : ∃ B, w4.heap.size = B := ⟨_, rfl⟩
      obtain ⟨W5, hW5⟩ : ∃ W5, w4.alloc (.cells #[.int .i64 LL.mru, .int .i64 LL.magic, .int .i64 LL.mrru, .bool LL.short, .string LL.disc, .int .i64 LL.num] 23) = W5 := ⟨_, rfl⟩
      rw [hW5] at hb6 hhL ⊢
      rw [hBB] at hhL hB0 ⊢
      have gg := fun {a : Addr} {v : Value} (h : w3.cell? a = some v) => fsm_below_cell (W := w3) hb6 h
      refine QRun_normal (hK.out _ _ ⟨gg c1, gg c2, gg c3, gg c4, gg c5, gg c6, gg b0, gg b2⟩ ?_)
      clear hK K hW5 hBB hb5 hbz hle
      repeat (first | (refine' wpSched_take _ (by rfl) (fun wS hS => ?_) ?_; rotate_left; (focus (obtain ⟨c1, c2, c3, c4, c5, c6, b0, b2⟩ := hS; go_simp; first | done | rfl)); (try simp only [Act.put, List.setIfInBounds_toArray, List.set_cons_zero, List.set_cons_succ])) | (refine wpSched_skip (by rfl) ?_; try simp only [Act.put, List.setIfInBounds_toArray, List.set_cons_zero, List.set_cons_succ]))
      refine wpSched_done ?_
      have HBW := seqB hbw3 hb6
      have HPK := below_of hb6 hh3
      clear hb4 gg c1 c2 c3 c4 c5 c6 b0 b1 b2 b3 hbw3 hv3 hh3
      have hh5 : W5.heap[B]? = some (.cells (linkCells LL) 23 (0, 0)) := hhL
      have hbw5 : Below w.heap.size w W5 := HBW
      obtain ⟨j0, j1, j2, j3, j4, j5⟩ := link_cells hh5
      have hs5 := h.below hbw5
      have hp5 : W5.heap[w.heap.size]? = some (.cells (packCells k (.slice pa k.opts.length pc)) 36 (0, 0)) := HPK
      have hv5 := hv.below hbw5
      have hBq : B ≠ p := by omega
      obtain ⟨e1, e2, e3, e4, e5, e6⟩ := hs5.blk.owns
      have g1 := hs5.blk.frozen 1
      have g2 := hs5.blk.frozen (1 + 1)
      have g3 := hs5.blk.frozen (1 + 2)
      have g4 := hs5.blk.frozen (1 + 3)
      have g5 := hs5.blk.frozen (1 + 4)
      have g6 := hs5.blk.frozen (1 + 5)
      clear HBW HPK hhL hb6
      go_upto_region 22 with fail
      have hW6 : (((((W5.setCell ⟨p, 1, none⟩ (.int .i64 LL.mru)).setCell ⟨p, 2, none⟩ (.int .i64 LL.magic)).setCell ⟨p, 3, none⟩ (.int .i64 LL.mrru)).setCell ⟨p, 4, none⟩ (.bool LL.short)).setCell ⟨p, 5, none⟩ (.string LL.disc)).setCell ⟨p, 6, none⟩ (.int .i64 LL.num) = setLink W5 p 1 LL := rfl
      rw [hW6]
      clear hW6
      have hO6 := setLink_only W5 p 1 LL
      have hn6 := rsetLink_own hs5.blk LL
      have hp6 := hO6.heap hp5 hql
      have hs6 : RSide (setLink W5 p 1 LL) p av { s with own := LL } := ⟨hn6, SeqAt.only hs5.os hO6 hs5.op, hs5.op, ⟨hs5.good.st, hs5.good.left, hs5.good.tries, hs5.good.id, hLm⟩⟩
      have hv6 : OptsIn (setLink W5 p 1 LL) (.slice pa k.opts.length pc) k.opts := hv5.only hO6 hvp
      have hend2 := rtake_end p av (.slice pa k.opts.length pc) s { s with own := LL } k w (setLink W5 p 1 LL) ⟨k, 0, 0, []⟩ (.slice none 0 0) 9 rfl h rfl ((Only.ofBelow hbw5).trans hO6) hs6 hv6 hvp (OptsIn.nil _) (fun _ b hb => by cases hb) hsz hz (fun e => absurd e (by decide))
      dsimp only at hend2
      obtain ⟨X, hX⟩ : ∃ X, runM { s with own := LL } 9 ⟨k, 0, 0, []⟩ = X := ⟨_, rfl⟩
      have HEX : Hid (learnX s k = X) := Lib.hid (by unfold learnX; rw [HLL.out, hX])
      rw [hX] at hend2
      obtain ⟨W6, hW6⟩ : ∃ W6, setLink W5 p 1 LL = W6 := ⟨_, rfl⟩
      rw [hW6] at hend2 hp6 ⊢
      obtain ⟨b0, b1, b2, b3⟩ := packet_cell hp6
      clear hX hW6 hs5 hp5 hv5 hs6 hv6 hn6 hO6 hp6 j0 j1 j2 j3 j4 j5 e1 e2 e3 e4 e5 e6 g1 g2 g3 g4 g5 g6 hh5 hbw5
      go_wp2_with fail
      refine hend2.mono ?_
      rintro e w9 ⟨v', rfl, hfin⟩
      clear hend2
      go_wp2_with fail
      go_ret2
      rw [HEX.out]
      exact hfin
    · refine tree_step (fun Q1 K hK => ?_)
      go_wp2_with fail
      have gg := fun {a : Addr} {v : Value} (h : w3.cell? a = some v) => fsm_below_cell (W := w3) hbz h
      refine QRun_normal (hK.out _ _ ⟨gg c1, gg c2, gg c3, gg c4, gg c5, gg c6, gg b0, gg b2⟩ ?_)
      clear hK K
      have hhz := heap_alloc_last w3 (.cells #[.int .i64 0, .int .i64 0, .int .i64 0, .bool false, .string ⟨#[]⟩, .int .i64 0] 23)
      obtain ⟨w4, hw4⟩ : ∃ w4, w3.alloc (.cells #[.int .i64 0, .int .i64 0, .int .i64 0, .bool false, .string ⟨#[]⟩, .int .i64 0] 23) = w4 := ⟨_, rfl⟩
      rw [hw4] at hbz hhz gg ⊢
      clear hw4
      show wpSchedL _ _ _ _ _ _ _
      refine wpSched_run (fun K hK => ?_)
      go_wp2_with fail
      refine (hle _ (hv3.below hbz)).mono ?_
      rintro e w5 ⟨rfl, hb5⟩
      have hb35 := seqB hbz hb5
      have hhl5 : LinkAt w5 w3.heap.size linkZ := below_of hb5 hhz
      have gg := fun {a : Addr} {v : Value} (h : w3.cell? a = some v) => fsm_below_cell (W := w3) hb35 h
      go_wp2_with fail
      refine QRun_normal (hK.out _ _ ⟨gg c1, gg c2, gg c3, gg c4, gg c5, gg c6, gg b0, gg b2⟩ ?_)
      clear hK K
      repeat (first | (refine' wpSched_take _ (by rfl) (fun wS hS => ?_) ?_; rotate_left; (focus (obtain ⟨c1, c2, c3, c4, c5, c6, b0, b2⟩ := hS; go_simp; first | done | rfl)); (try simp only [Act.put, List.setIfInBounds_toArray, List.set_cons_zero, List.set_cons_succ])) | (refine wpSched_skip (by rfl) ?_; try simp only [Act.put, List.setIfInBounds_toArray, List.set_cons_zero, List.set_cons_succ]))
      obtain ⟨i0, i1, i2, i3, i4, i5⟩ := link_cells hhl5
      have f0 := packet_frozen hhl5 0
      have f1 := packet_frozen hhl5 1
      have f2 := packet_frozen hhl5 2
      have f3 := packet_frozen hhl5 3
      have f4 := packet_frozen hhl5 4
      have f5 := packet_frozen hhl5 5
      refine wpSched_run (fun K hK => ?_)
      go_wp2_with fail
      have hW5 : (((((w5.setCell ⟨w3.heap.size, 0, none⟩ (.int .i64 LL.mru)).setCell ⟨w3.heap.size, 1, none⟩ (.int .i64 LL.magic)).setCell ⟨w3.heap.size, 2, none⟩ (.int .i64 LL.mrru)).setCell ⟨w3.heap.size, 3, none⟩ (.bool LL.short)).setCell ⟨w3.heap.size, 4, none⟩ (.string LL.disc)).setCell ⟨w3.heap.size, 5, none⟩ (.int .i64 LL.num) = setLink w5 w3.heap.size 0 LL := rfl
      rw [hW5]
      clear hW5
      have hhL : LinkAt (setLink w5 w3.heap.size 0 LL) w3.heap.size LL := setLink_link hhl5 LL
      have hb6 : Below w3.heap.size w3 (setLink w5 w3.heap.size 0 LL) := hb35.trans ((setLink_only w5 w3.heap.size 0 LL).below hb35.size (fun k e => Nat.le_of_eq e.symm))
      have hB0 : w.heap.size ≤ w3.heap.size := hbw3.size
      obtain ⟨W5, hW5⟩ : ∃ W5, setLink w5 w3.heap.size 0 LL = W5 := ⟨_, rfl⟩
      have HBW0 := seqB hbw3 hb6
      have HPK0 := below_of hb6 hh3
      have gg := fun {a : Addr} {v : Value} (h : w3.cell? a = some v) => fsm_below_cell (W := w3) hb6 h
      rw [hW5] at hb6 hhL HBW0 HPK0 gg ⊢
      have HBW : Below w.heap.size w W5 := HBW0
      have HPK := HPK0
      refine QRun_normal (hK.out _ _ ⟨gg c1, gg c2, gg c3, gg c4, gg c5, gg c6, gg b0, gg b2⟩ ?_)
      clear hK K hle
      repeat (first | (refine' wpSched_take _ (by rfl) (fun wS hS => ?_) ?_; rotate_left; (focus (obtain ⟨c1, c2, c3, c4, c5, c6, b0, b2⟩ := hS; go_simp; first | done | rfl)); (try simp only [Act.put, List.setIfInBounds_toArray, List.set_cons_zero, List.set_cons_succ])) | (refine wpSched_skip (by rfl) ?_; try simp only [Act.put, List.setIfInBounds_toArray, List.set_cons_zero, List.set_cons_succ]))
      refine wpSched_done ?_
      obtain ⟨B, hBB⟩ : ∃ B, w3.heap.size = B := ⟨_, rfl⟩
      rw [hBB] at hhL hB0 ⊢
      clear hBB hW5 HBW0 HPK0 hb35 hb5 hhl5 hhz hbz gg c1 c2 c3 c4 c5 c6 b0 b1 b2 b3 hbw3 hv3 hh3 i0 i1 i2 i3 i4 i5 f0 f1 f2 f3 f4 f5
      have hh5 : W5.heap[B]? = some (.cells (linkCells LL) 23 (0, 0)) := hhL
      have hbw5 : Below w.heap.size w W5 := HBW
      obtain ⟨j0, j1, j2, j3, j4, j5⟩ := link_cells hh5
      have hs5 := h.below hbw5
      have hp5 : W5.heap[w.heap.size]? = some (.cells (packCells k (.slice pa k.opts.length pc)) 36 (0, 0)) := HPK
      have hv5 := hv.below hbw5
      have hBq : B ≠ p := by omega
      obtain ⟨e1, e2, e3, e4, e5, e6⟩ := hs5.blk.owns
      have g1 := hs5.blk.frozen 1
      have g2 := hs5.blk.frozen (1 + 1)
      have g3 := hs5.blk.frozen (1 + 2)
      have g4 := hs5.blk.frozen (1 + 3)
      have g5 := hs5.blk.frozen (1 + 4)
      have g6 := hs5.blk.frozen (1 + 5)
      clear HBW HPK hhL hb6
      go_upto_region 22 with fail
      have hW6 : (((((W5.setCell ⟨p, 1, none⟩ (.int .i64 LL.mru)).setCell ⟨p, 2, none⟩ (.int .i64 LL.magic)).setCell ⟨p, 3, none⟩ (.int .i64 LL.mrru)).setCell ⟨p, 4, none⟩ (.bool LL.short)).setCell ⟨p, 5, none⟩ (.string LL.disc)).setCell ⟨p, 6, none⟩ (.int .i64 LL.num) = setLink W5 p 1 LL := rfl
      rw [hW6]
      clear hW6
      have hO6 := setLink_only W5 p 1 LL
      have hn6 := rsetLink_own hs5.blk LL
      have hp6 := hO6.heap hp5 hql
      have hs6 : RSide (setLink W5 p 1 LL) p av { s with own := LL } := ⟨hn6, SeqAt.only hs5.os hO6 hs5.op, hs5.op, ⟨hs5.good.st, hs5.good.left, hs5.good.tries, hs5.good.id, hLm⟩⟩
      have hv6 : OptsIn (setLink W5 p 1 LL) (.slice pa k.opts.length pc) k.opts := hv5.only hO6 hvp
      have hend2 := rtake_end p av (.slice pa k.opts.length pc) s { s with own := LL } k w (setLink W5 p 1 LL) ⟨k, 0, 0, []⟩ (.slice none 0 0) 9 rfl h rfl ((Only.ofBelow hbw5).trans hO6) hs6 hv6 hvp (OptsIn.nil _) (fun _ b hb => by cases hb) hsz hz (fun e => absurd e (by decide))
      dsimp only at hend2
      obtain ⟨X, hX⟩ : ∃ X, runM { s with own := LL } 9 ⟨k, 0, 0, []⟩ = X := ⟨_, rfl⟩
      have HEX : Hid (learnX s k = X) := Lib.hid (by unfold learnX; rw [HLL.out, hX])
      rw [hX] at hend2
      obtain ⟨W6, hW6⟩ : ∃ W6, setLink W5 p 1 LL = W6 := ⟨_, rfl⟩
      rw [hW6] at hend2 hp6 ⊢
      obtain ⟨b0, b1, b2, b3⟩ := packet_cell hp6
      clear hX hW6 hs5 hp5 hv5 hs6 hv6 hn6 hO6 hp6 j0 j1 j2 j3 j4 j5 e1 e2 e3 e4 e5 e6 g1 g2 g3 g4 g5 g6 hh5 hbw5
      go_wp2_with fail
      refine hend2.mono ?_
      rintro e w9 ⟨v', rfl, hfin⟩
      clear hend2
      go_wp2_with fail
      go_ret2
      rw [HEX.out]
      exact hfin
/-- Take answers as the model does -/
theorem rTake_any (p : Nat) (av v : Value) (s : NegM) (k : PacketM) (w : World) (h : RSide w p av s) (hv : OptsIn w v k.opts) (hvp : k.opts ≠ [] → ∀ b, v.ownBlock = some b → b ≠ p) (hsz : k.data.size ≤ 4611686018427387904) (hz : ∀ o ∈ k.opts, o.2.size ≤ 140737488351232) :
    Calls Tryz.prog 14 #[.pointer (some ⟨p, 0, none⟩), .agg (packCells k v)] w (RActPost p av s (takeM s k) w) := by
  by_cases he' : (controlM k).2 ≠ 0
  · have he := he'
    have e : takeM s k = (s, [], 1500) := by unfold takeM; rw [if_pos he]
    rw [e]
    exact rtake_form p av v s k w h hv hvp hsz hz he
  have he : (controlM k).2 = 0 := by omega
  by_cases hst : s.state = 0 ∨ s.state = 1
  · have e : takeM s k = (s, [], 1501) := by unfold takeM; rw [if_neg (fun e => e he), if_pos hst]
    rw [e]
    exact rtake_never p av v s k w h hv hvp hsz hz he hst
  by_cases h1 : k.code = 1
  · have e : takeM s k = reqX s k := take_some he hst (by unfold eventM; rw [if_pos h1])
    rw [e]
    exact rtake_req p av v s k w h hv hvp hsz hz he hst h1
  by_cases h2 : k.code = 2
  · have e : takeM s k = ackX s k := by
      unfold ackX
      by_cases hb : k.id = s.asked ∧ k.opts = s.os
      · rw [if_pos hb]
        exact take_some he hst (by unfold eventM; rw [if_neg h1, if_pos h2, if_pos hb])
      · rw [if_neg hb]
        exact take_none (r := ⟨k, 0, 0, []⟩) he hst (by unfold eventM; rw [if_neg h1, if_pos h2, if_neg hb])
    rw [e]
    exact rtake_ack p av v s k w h hv hvp hsz hz he hst h2
  by_cases h34 : k.code = 3 ∨ k.code = 4
  · by_cases hi : k.id = s.asked
    · have e : takeM s k = learnX s k := take_some he hst (by unfold eventM; rw [if_neg h1, if_neg h2, if_pos h34, if_pos hi])
      rw [e]
      exact rtake_learn p av v s k w h hv hvp hsz hz he hst h34 hi
    · have e : takeM s k = (s, [], 0) := take_none (r := ⟨k, 0, 0, []⟩) he hst (by unfold eventM; rw [if_neg h1, if_neg h2, if_pos h34, if_neg hi])
      rw [e]
      exact rtake_stale p av v s k w h hv hvp hsz hz he hst h34 hi
  · have e : takeM s k = runM s (evOf k.code) ⟨k, 0, 0, []⟩ := take_some he hst (by unfold eventM; rw [if_neg h1, if_neg h2, if_neg h34]; rfl)
    rw [e]
    exact rtake_plain p av v s k w h hv hvp hsz hz he hst ⟨h1, h2, fun e => h34 (.inl e), fun e => h34 (.inr e)⟩
end Go.Proofs.YtagnbdenecphcaaGreatDoor
