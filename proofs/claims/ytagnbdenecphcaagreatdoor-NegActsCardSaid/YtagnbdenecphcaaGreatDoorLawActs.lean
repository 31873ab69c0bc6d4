/- NegActs: a side and the reference's side, act by act. -/
import Derived.Test.YtagnbdenecphcaaGreatDoorRu
import Derived.Test.YtagnbdenecphcaaGreatDoorLinkEq
import Derived.Test.YtagnbdenecphcaaGreatDoorNegAw2
namespace Go.Proofs.YtagnbdenecphcaaGreatDoor
open Go.RowKit
set_option linter.unusedVariables false
set_option linter.unusedSimpArgs false
set_option maxRecDepth 100000 in
set_option maxHeartbeats 8000000 in
theorem acts_bad (own : LinkM) (tries : Int) (v : Value) (ml : Int) (w : World) (hm : MaxLenIs w ml) (hk : newOk own tries = false) :
    Calls Tryz.prog 3 #[.agg (linkCells own), .int .i64 tries, v] w fun e w' => e = .returned (.bool true) ∧ Below w.heap.size w w' := by
  have hb0 := allocB (Below.refl w.heap.size w) (.cells (linkCells own) 23)
  have hnew := fun w => new_bad own tries w hk
  have hrnew := fun w => rnew_bad own tries w hk
  have hh := heap_alloc_last w (.cells (linkCells own) 23)
  have hm0 := hm.below hb0
  obtain ⟨W, hW⟩ : ∃ W, w.alloc (.cells (linkCells own) 23) = W := ⟨_, rfl⟩
  have hW2 := hW
  rw [hW] at hb0 hh hm0
  simp only [linkCells_eq] at hnew hrnew hW2 ⊢
  have HW := Lib.hid hW2
  clear hW hW2
  go_enter Tryz.func3, Tryz.ntmps3
  go_wp2_with fail
  rw [HW.out]
  refine (hnew _).mono ?_
  rintro e w1 ⟨rfl, hb1⟩
  obtain ⟨c0, c1, c2, c3, c4, c5⟩ := link_cells (below_of hb1 hh)
  have hbw1 := seqB hb0 hb1
  have hm1 := hm0.below hb1
  clear hnew hb1 hh hb0 hm0 HW
  go_wp2_with fail
  refine (hrnew _).mono ?_
  rintro e w2 ⟨rfl, hb2⟩
  have hbw2 := seqB hbw1 hb2
  have haw := awake_any ml w2 (hm1.below hb2)
  clear hrnew hb2 hbw1 hm1 c0 c1 c2 c3 c4 c5
  go_wp2_with fail
  refine (num_any _ _).mono ?_
  rintro e w3 ⟨rfl, rfl⟩
  go_wp2_with fail
  refine haw.mono ?_
  rintro e w4 ⟨rfl, hb4⟩
  have hbw4 := seqB hbw2 hb4
  clear haw
  go_wp2_with fail
  go_ret
  exact ⟨rfl, hbw4⟩
set_option maxRecDepth 100000 in
set_option maxHeartbeats 16000000 in
theorem acts_good (own : LinkM) (tries : Int) (v : Value) (l : List ActV) (ml : Int) (w : World) (hm : MaxLenIs w ml) (ha : ActsAt w v l) (hk : newOk own tries = true) :
    Calls Tryz.prog 3 #[.agg (linkCells own), .int .i64 tries, v] w fun e w' => e = .returned (.bool true) ∧ Below w.heap.size w w' := by
  have hb0 := allocB (Below.refl w.heap.size w) (.cells (linkCells own) 23)
  have hk2 : mayM own = true ∧ 1 ≤ tries ∧ tries ≤ 10 := by
    unfold newOk at hk
    simpa [and_assoc] using hk
  obtain ⟨hmay, ht1, ht2⟩ := hk2
  have hh := heap_alloc_last w (.cells (linkCells own) 23)
  have hm0 := hm.below hb0
  obtain ⟨W, hW⟩ : ∃ W, w.alloc (.cells (linkCells own) 23) = W := ⟨_, rfl⟩
  have hW2 := hW
  rw [hW] at hb0 hh hm0
  have hnew := new_side own tries ml W hm0 hmay ht1 ht2
  have hrnew := fun w => rnew_good own tries w hk
  have hgood := good_new hmay ht1 ht2
  have HN0 : Hid (newM own tries = newM own tries) := Lib.hid rfl
  obtain ⟨s0, hs0⟩ : ∃ s0, newM own tries = s0 := ⟨_, rfl⟩
  have hs0o : s0.os = [] := by rw [← hs0]; rfl
  rw [hs0] at hnew hrnew hgood
  simp only [linkCells_eq] at hnew hrnew hW2 ⊢
  have HW := Lib.hid hW2
  have HS0 := Lib.hid hs0o
  obtain ⟨a, c, rfl, hlc, hcm⟩ := ha.form
  have hcn : c ≤ 9223372036854775807 := by unfold maxLen at hcm; omega
  obtain ⟨n, hn⟩ : ∃ n, l.length = n := ⟨_, rfl⟩
  have HN := Lib.hid hn
  have HA := Lib.hid ha
  have HM := Lib.hid hm
  rw [hn] at hlc HA ⊢
  clear hW hW2 hs0 hs0o hk ha hn hm HN0 hmay
  go_enter Tryz.func3, Tryz.ntmps3
  go_wp2_with fail
  rw [HW.out]
  refine hnew.mono ?_
  rintro e w1 ⟨p, t, rfl, hs1, hpw, hm1, hb1⟩
  obtain ⟨c0, c1, c2, c3, c4, c5⟩ := link_cells (below_of hb1 hh)
  have hbw1 := seqB hb0 hb1
  clear hnew hh hm0 HW
  go_wp2_with fail
  refine (hrnew _).mono ?_
  rintro e w2 ⟨q, rfl, hq1, hr2, hb2⟩
  have hbw2 := seqB hbw1 hb2
  have hpl := hs1.blk.lt
  have htl := hs1.tlt
  have hpq : p ≠ q := by omega
  have hws : w.heap.size ≤ W.heap.size := hb0.size
  have hpw0 : w.heap.size ≤ p := by omega
  have hqw0 : w.heap.size ≤ q := by have := hb1.size; omega
  have hB2 : Both w2 p t (.slice none 0 0) q (.slice none 0 0) s0 := ⟨hs1.below hb2, ⟨hr2, by rw [HS0.out]; exact OptsAt.nil _, (fun k hk => by cases hk), hgood⟩, hpq, by omega, (fun k hk => by cases hk), (fun k hk => by cases hk)⟩
  clear hrnew hb1 hb2 hb0 hbw1 hm1 hs1 hr2 c0 c1 c2 c3 c4 c5 hpw hq1 htl hpl hgood hws
  go_wp2_with (go_at_call 6; refine (num_any _ _).mono ?_; rintro e w3 ⟨rfl, rfl⟩)
  go_loopw [11] (fun i wr => ∃ (k : Nat) (o a' : Value) (s : NegM), k ≤ n ∧ i = .int .i64 k ∧ Both wr p t o q a' s ∧ Below w.heap.size w wr) (fun i _ => n - (intOf i).toNat)
  case atStart => exact ⟨0, _, _, _, Nat.zero_le _, rfl, hB2, hbw2⟩
  case round =>
    obtain ⟨k, o, a', s, hk, rfl, hB, hbw⟩ := hrel
    by_cases hlt : k < n ∧ k < 100
    · obtain ⟨hlt, h100⟩ := hlt
      have hkl : k < l.length := by rw [HN.out]; exact hlt
      have hkn : k + 1 ≤ n := hlt
      obtain ⟨g, og, cc, hv, hgl, d0, d1, d2, d3, d4, d5⟩ := HA.out.cell k hkl
      have hmem := List.getElem_mem hkl
      have hop := HA.out.opts _ hmem
      have hda := HA.out.data _ hmem
      have htx := HA.out.texts _ hmem
      have hro := HA.out.room _ hmem
      obtain ⟨x, hx⟩ : ∃ x, l[k] = x := ⟨_, rfl⟩
      rw [hx] at d0 d1 d2 d3 d4 d5 hop hda htx hro
      obtain ⟨kind, N, pk, sa, sc⟩ := x
      simp only [Value.slice.injEq] at hv
      obtain ⟨rfl, -, rfl⟩ := hv
      unfold slOf at d4 hop
      dsimp only at d0 d1 d2 d3 d4 d5 hop hda htx hro
      have HTX := Lib.hid htx
      have hm4 := HM.out.below hbw
      have gg := fun {a : Addr} {v : Value} (h : w.cell? a = some v) => fsm_below_cell (W := w) hbw h
      replace d0 := gg d0; replace d1 := gg d1; replace d2 := gg d2; replace d3 := gg d3; replace d4 := gg d4; replace d5 := gg d5
      have hsl : pk.opts ≠ [] → ∀ b, (Value.slice sa pk.opts.length sc).ownBlock = some b → b ≠ q := fun hne b e e2 => by have := SeqAt.lt (hop.at hne) b e; omega
      clear hx hmem gg htx
      have hB1 := hB.below (allocB (Below.refl wr.heap.size wr) (.cells #[.int .i64 kind, .int .i64 N, .int .i64 pk.code, .int .i64 pk.id, .slice sa pk.opts.length sc, .string pk.data] 38))
      have hb1 := allocB hbw (.cells #[.int .i64 kind, .int .i64 N, .int .i64 pk.code, .int .i64 pk.id, .slice sa pk.opts.length sc, .string pk.data] 38)
      have hm1 := hm4.below (allocB (Below.refl wr.heap.size wr) (.cells #[.int .i64 kind, .int .i64 N, .int .i64 pk.code, .int .i64 pk.id, .slice sa pk.opts.length sc, .string pk.data] 38))
      have hhA := heap_alloc_last wr (.cells #[.int .i64 kind, .int .i64 N, .int .i64 pk.code, .int .i64 pk.id, .slice sa pk.opts.length sc, .string pk.data] 38)
      have hpA : p ≠ wr.heap.size := Nat.ne_of_lt hB.sd.blk.lt
      have hqA : q ≠ wr.heap.size := Nat.ne_of_lt hB.rs.blk.lt
      clear hB
      go_upto_region 11 with fail
      obtain ⟨W1, hW1⟩ : ∃ W1, wr.alloc (.cells #[.int .i64 kind, .int .i64 N, .int .i64 pk.code, .int .i64 pk.id, .slice sa pk.opts.length sc, .string pk.data] 38) = W1 := ⟨_, rfl⟩
      rw [hW1] at hB1 hb1 hm1 hhA ⊢
      clear hW1 d0 d1 d2 d3 d4 d5 hm4
      obtain ⟨B, hBB⟩ : ∃ B, wr.heap.size = B := ⟨_, rfl⟩
      rw [hBB] at hhA hpA hqA ⊢
      have hBlt : B < W1.heap.size := (Array.getElem?_eq_some_iff.1 hhA).1
      clear hBB
      have e0 : W1.cell? ⟨B, 0, none⟩ = some (.int .i64 kind) := by simp [World.cell?, hhA]
      have e1 : W1.cell? ⟨B, 1, none⟩ = some (.int .i64 N) := by simp [World.cell?, hhA]
      by_cases hk5 : kind < 5
      · have hd := nDo_any p t o s N ml W1 hB1.sd hm1
        have hgX := good_do hB1.sd.good N
        obtain ⟨X, hX⟩ : ∃ X, doM s N = X := ⟨_, rfl⟩
        have hrd := fun W (h : RSide W q a' s) => rDo_any q a' s N W h
        rw [hX] at hd hrd
        clear hX hgX
        obtain ⟨X, ps, xe⟩ := X
        go_wp2_with fail
        refine hd.mono ?_
        rintro e w2 ⟨v2, l2, o2, rfl, hl2, hq2, hs2, ⟨hk2, hps2⟩, hO2, hm2⟩
        have f1 := hO2.cell (a := ⟨B, 1, none⟩) e1 (fun e => hpA e.symm)
        have hrs2 := hB1.rside hO2
        dsimp only at hq2 hs2 hk2
        clear hd e0 e1
        go_wp2_with fail
        refine (hrd _ hrs2).mono ?_
        rintro e w3 ⟨v3, l3, a3, rfl, hl3, hq3, hs3, hk3, hO3⟩
        dsimp only at hq3 hs3 hk3
        obtain ⟨hB3, hl23⟩ := hB1.acted hs2 hk2 hl2 hO2 hs3 hk3 hO3
        have hsp := samepacks_in v2 v3 l2 l3 w3 hl23.at hl3 (hq2.trans hq3.symm)
        have hO13 : Below w.heap.size w w3 := (hb1.trans (hO2.below hb1.size (fun k e => by omega))).trans (hO3.below (Nat.le_trans hb1.size hO2.size) (fun k e => by omega))
        clear hrd f1 hrs2 hq2 hq3 hl3 hs3 hs2
        go_wp2_with fail
        refine hsp.mono ?_
        rintro e w4 ⟨rfl, hb4⟩
        have hl24 := hl23.below hb4
        have hB4 := hB3.below hb4
        have hbw4 := seqB hO13 hb4
        have hxe : (xe != xe) = false := by simp
        clear hsp hB3 hO13 hl23
        go_wp2_with (go_at_call 6; refine (num_any _ _).mono ?_; rintro e w5 ⟨rfl, rfl⟩)
        refine (spoilpacks_any v2 l2 w4 hl24.packsL).mono ?_
        rintro e w6 ⟨rfl, hO6⟩
        obtain ⟨hB6, hS6⟩ := hB1.spoilt hl2 hk2 hps2 hk3 hO2 hB4 hO6
        have hbw6 : Below w.heap.size w w6 := hbw4.trans (hO6.below hbw4.size (fun k e => Nat.le_trans hb1.size (hS6 k e)))
        clear hB4 hbw4 hl24 hb4 hl2 hk2 hps2 hk3 hO2 hO3 hO6 hS6 hxe hB1 hb1 hhA
        obtain ⟨w4, rfl⟩ : ∃ w4 : World, w4 = w6 := ⟨_, rfl⟩
        have hB4 := hB6
        have hbw4 := hbw6
        clear hB6 hbw6
        have hn4 := hB4.sd.blk
        obtain ⟨c1, c2, c3, c4, c5, c6⟩ := hB4.rs.blk.owns
        obtain ⟨c7, c8, c9, c10, c11, c12⟩ := hB4.rs.blk.others
        obtain ⟨c0, c13, -, -, -, -⟩ := hB4.rs.blk.rest
        have hne1 := link_neq X.own
        have hne2 := link_neq X.other
        simp only [linkCells_eq] at hne1 hne2
        have hst := fun W (h : NegBlk W p t o2 X) => state_any p t o2 X W h
        have hle := fun W (h : NegBlk W p t o2 X) => left_any p t o2 X W h
        have how := fun W (h : NegBlk W p t o2 X) => own_any p t o2 X W h
        have hot := fun W (h : NegBlk W p t o2 X) => other_any p t o2 X W h
        simp only [linkCells_eq] at how hot
        have HB4 := Lib.hid hB4
        clear hB4
        go_wp2_with fail
        refine wp_schedL (fun w' => NegBlk w' p t o2 X ∧ w'.cell? ⟨q, 0, none⟩ = some (.int .i64 X.state) ∧ w'.cell? ⟨q, 1, none⟩ = some (.int .i64 X.own.mru) ∧ w'.cell? ⟨q, 1 + 1, none⟩ = some (.int .i64 X.own.magic) ∧ w'.cell? ⟨q, 1 + 2, none⟩ = some (.int .i64 X.own.mrru) ∧ w'.cell? ⟨q, 1 + 3, none⟩ = some (.bool X.own.short) ∧ w'.cell? ⟨q, 1 + 4, none⟩ = some (.string X.own.disc) ∧ w'.cell? ⟨q, 1 + 5, none⟩ = some (.int .i64 X.own.num) ∧ w'.cell? ⟨q, 7, none⟩ = some (.int .i64 X.other.mru) ∧ w'.cell? ⟨q, 7 + 1, none⟩ = some (.int .i64 X.other.magic) ∧ w'.cell? ⟨q, 7 + 2, none⟩ = some (.int .i64 X.other.mrru) ∧ w'.cell? ⟨q, 7 + 3, none⟩ = some (.bool X.other.short) ∧ w'.cell? ⟨q, 7 + 4, none⟩ = some (.string X.other.disc) ∧ w'.cell? ⟨q, 7 + 5, none⟩ = some (.int .i64 X.other.num) ∧ w'.cell? ⟨q, 13, none⟩ = some (.int .i64 X.left)) [(0, true), (2, true), (3, true), (4, true), (5, true), (1, false), (6, true), (7, true), (8, true), (10, true), (11, true), (12, true), (13, true), (9, false), (14, true), (15, true), (16, true), (17, true), (19, true), (20, true), (21, true), (22, true), (18, false), (23, true), (24, true), (25, true), (26, true), (28, true), (29, true), (30, true), (31, true), (27, false), (32, true), (33, true)] (by kernel_rfl) (by kernel_rfl) rfl (by kernel_rfl) (by kernel_rfl) ⟨hn4.below (Below.refl _ _).drew, c0, c1, c2, c3, c4, c5, c6, c7, c8, c9, c10, c11, c12, c13⟩ (fun _ d _ _ _ h => by cases d <;> exact h) ?_
        obtain ⟨w5, hw5⟩ : ∃ w5, w4.drew = w5 := ⟨_, rfl⟩
        have hb45 : Below w4.heap.size w4 w5 := by rw [← hw5]; exact (Below.refl _ _).drew
        rw [hw5]
        have hn5 := hn4.below hb45
        have gg := fun {a : Addr} {v : Value} (h : w4.cell? a = some v) => fsm_below_cell (W := w4) hb45 h
        simp only [schedOps, List.filterMap_cons, List.filterMap_nil, List.getElem?_toArray, List.getElem?_cons_zero, List.getElem?_cons_succ, Option.map_some]
        repeat (first | (refine' wpSched_take _ (by rfl) (fun wS hS => ?_) ?_; rotate_left; (focus (obtain ⟨hn, c0, c1, c2, c3, c4, c5, c6, c7, c8, c9, c10, c11, c12, c13⟩ := hS; go_simp; first | done | rfl)); (try simp only [Act.put, List.setIfInBounds_toArray, List.set_cons_zero, List.set_cons_succ])) | (refine wpSched_skip (by rfl) ?_; try simp only [Act.put, List.setIfInBounds_toArray, List.set_cons_zero, List.set_cons_succ]))
        refine wpSched_run (fun K hK => ?_)
        go_wp2_with (go_at_call 16; refine (hst _ hn5).mono ?_; rintro e w6 ⟨rfl, rfl⟩)
        refine QRun_normal (hK.out _ _ ⟨hn5, gg c0, gg c1, gg c2, gg c3, gg c4, gg c5, gg c6, gg c7, gg c8, gg c9, gg c10, gg c11, gg c12, gg c13⟩ ?_)
        clear hK K hst
        repeat (first | (refine' wpSched_take _ (by rfl) (fun wS hS => ?_) ?_; rotate_left; (focus (obtain ⟨hn, c0, c1, c2, c3, c4, c5, c6, c7, c8, c9, c10, c11, c12, c13⟩ := hS; go_simp; first | done | rfl)); (try simp only [Act.put, List.setIfInBounds_toArray, List.set_cons_zero, List.set_cons_succ])) | (refine wpSched_skip (by rfl) ?_; try simp only [Act.put, List.setIfInBounds_toArray, List.set_cons_zero, List.set_cons_succ]))
        refine wpSched_run (fun K hK => ?_)
        go_wp2_with (go_at_call 17; refine (how _ hn5).mono ?_; rintro e w7 ⟨rfl, hb7⟩)
        have hn7 := hn5.below hb7
        have hb47 := seqB hb45 hb7
        have gg := fun {a : Addr} {v : Value} (h : w4.cell? a = some v) => fsm_below_cell (W := w4) hb47 h
        refine QRun_normal (hK.out _ _ ⟨hn7, gg c0, gg c1, gg c2, gg c3, gg c4, gg c5, gg c6, gg c7, gg c8, gg c9, gg c10, gg c11, gg c12, gg c13⟩ ?_)
        clear hK K how
        repeat (first | (refine' wpSched_take _ (by rfl) (fun wS hS => ?_) ?_; rotate_left; (focus (obtain ⟨hn, c0, c1, c2, c3, c4, c5, c6, c7, c8, c9, c10, c11, c12, c13⟩ := hS; go_simp; first | done | rfl)); (try simp only [Act.put, List.setIfInBounds_toArray, List.set_cons_zero, List.set_cons_succ])) | (refine wpSched_skip (by rfl) ?_; try simp only [Act.put, List.setIfInBounds_toArray, List.set_cons_zero, List.set_cons_succ]))
        refine wpSched_run (fun K hK => ?_)
        go_wp2_with (go_at_call 18; refine (hot _ hn7).mono ?_; rintro e w8 ⟨rfl, hb8⟩)
        have hn8 := hn7.below hb8
        have hb48 := seqB hb47 hb8
        have gg := fun {a : Addr} {v : Value} (h : w4.cell? a = some v) => fsm_below_cell (W := w4) hb48 h
        refine QRun_normal (hK.out _ _ ⟨hn8, gg c0, gg c1, gg c2, gg c3, gg c4, gg c5, gg c6, gg c7, gg c8, gg c9, gg c10, gg c11, gg c12, gg c13⟩ ?_)
        clear hK K hot
        repeat (first | (refine' wpSched_take _ (by rfl) (fun wS hS => ?_) ?_; rotate_left; (focus (obtain ⟨hn, c0, c1, c2, c3, c4, c5, c6, c7, c8, c9, c10, c11, c12, c13⟩ := hS; go_simp; first | done | rfl)); (try simp only [Act.put, List.setIfInBounds_toArray, List.set_cons_zero, List.set_cons_succ])) | (refine wpSched_skip (by rfl) ?_; try simp only [Act.put, List.setIfInBounds_toArray, List.set_cons_zero, List.set_cons_succ]))
        refine wpSched_run (fun K hK => ?_)
        go_wp2_with (go_at_call 19; refine (hle _ hn8).mono ?_; rintro e w9 ⟨rfl, rfl⟩)
        refine QRun_normal (hK.out _ _ ⟨hn8, gg c0, gg c1, gg c2, gg c3, gg c4, gg c5, gg c6, gg c7, gg c8, gg c9, gg c10, gg c11, gg c12, gg c13⟩ ?_)
        clear hK K hle
        repeat (first | (refine' wpSched_take _ (by rfl) (fun wS hS => ?_) ?_; rotate_left; (focus (obtain ⟨hn, c0, c1, c2, c3, c4, c5, c6, c7, c8, c9, c10, c11, c12, c13⟩ := hS; go_simp; first | done | rfl)); (try simp only [Act.put, List.setIfInBounds_toArray, List.set_cons_zero, List.set_cons_succ])) | (refine wpSched_skip (by rfl) ?_; try simp only [Act.put, List.setIfInBounds_toArray, List.set_cons_zero, List.set_cons_succ]))
        refine wpSched_done ?_
        have hfin := HB4.out.below hb48
        have hbf := seqB hbw4 hb48
        clear gg hn4 hn5 hn7 hn8 hb45 hb47 hb48 hb7 hb8 hne1 hne2 c0 c1 c2 c3 c4 c5 c6 c7 c8 c9 c10 c11 c12 c13 hbw4 HB4
        go_wp2_with fail
        go_roundw
        case rel => exact ⟨k + 1, o2, a3, X, hkn, by go_num, hfin, hbf⟩
        case measure => simp [intOf]; omega
      · have hk5b : decide (kind < 5) = false := decide_eq_false hk5
        have e2 : W1.cell? ⟨B, 2, none⟩ = some (.int .i64 pk.code) := by simp [World.cell?, hhA]
        have e3 : W1.cell? ⟨B, 2 + 1, none⟩ = some (.int .i64 pk.id) := by simp [World.cell?, hhA]
        have e4 : W1.cell? ⟨B, 2 + 2, none⟩ = some (.slice sa pk.opts.length sc) := by simp [World.cell?, hhA]
        have e5 : W1.cell? ⟨B, 2 + 3, none⟩ = some (.string pk.data) := by simp [World.cell?, hhA]
        have e44 : W1.cell? ⟨B, 4, none⟩ = some (.slice sa pk.opts.length sc) := e4
        have hb2 := allocB (Below.refl W1.heap.size W1) (.cells #[.int .i64 pk.code, .int .i64 pk.id, .slice sa pk.opts.length sc, .string pk.data] 36)
        have hhP := heap_alloc_last W1 (.cells #[.int .i64 pk.code, .int .i64 pk.id, .slice sa pk.opts.length sc, .string pk.data] 36)
        go_upto_region 18 with fail
        obtain ⟨W2, hW2⟩ : ∃ W2, W1.alloc (.cells #[.int .i64 pk.code, .int .i64 pk.id, .slice sa pk.opts.length sc, .string pk.data] 36) = W2 := ⟨_, rfl⟩
        rw [hW2] at hb2 hhP ⊢
        obtain ⟨C, hC⟩ : ∃ C, W1.heap.size = C := ⟨_, rfl⟩
        have hCp : p ≠ C := by have := hB1.sd.blk.lt; omega
        have hCq : q ≠ C := by have := hB1.rs.blk.lt; omega
        have hCB : C ≠ B := by omega
        have hC1 : C ≤ W1.heap.size := by omega
        have hC1' : W1.heap.size ≤ C := by omega
        rw [hC] at hhP ⊢
        have hCl : C < W2.heap.size := (Array.getElem?_eq_some_iff.1 hhP).1
        have hopW : OptsIn W2 (.slice sa pk.opts.length sc) pk.opts := OptsIn.below (w := W1) (hop.only (S := fun _ => False) (Only.ofBelow hb1) (fun _ _ _ h => h)) hb2
        have hlend := lendopts_any (.slice sa pk.opts.length sc) pk.opts W2 hopW hro
        have gg := fun {a : Addr} {v : Value} (h : W1.cell? a = some v) => fsm_below_cell (W := W1) hb2 h
        replace e2 := gg e2; replace e3 := gg e3; replace e4 := gg e4; replace e5 := gg e5; replace e44 := gg e44
        clear hW2 hC e0 e1 gg hopW
        go_wp2_with fail
        refine hlend.mono ?_
        rintro e w3 ⟨v', rfl, hln, hb3⟩
        obtain ⟨g', c', rfl, hlo⟩ := hln
        have hln : Lent w3 W2.heap.size (.slice (some ⟨g', 0, none⟩) pk.opts.length c') pk.opts := ⟨g', c', rfl, hlo⟩
        have hhP3 := below_of hb3 hhP
        have i2 : w3.cell? ⟨C, 2, none⟩ = some (.slice sa pk.opts.length sc) := by simp [World.cell?, hhP3]
        have j2 : w3.frozen? ⟨C, 2, none⟩ = false := packet_frozen hhP3 2
        have hO4 := only_set w3 C 2 (.slice (some ⟨g', 0, none⟩) pk.opts.length c')
        have hhP4 : (w3.setCell ⟨C, 2, none⟩ (.slice (some ⟨g', 0, none⟩) pk.opts.length c')).heap[C]? = some (.cells (packCells pk (.slice (some ⟨g', 0, none⟩) pk.opts.length c')) 36 (0, 0)) := heap_setCell_same w3 C 2 _ 36 (.slice (some ⟨g', 0, none⟩) pk.opts.length c') hhP3
        have hln4 : Lent (w3.setCell ⟨C, 2, none⟩ (.slice (some ⟨g', 0, none⟩) pk.opts.length c')) W2.heap.size (.slice (some ⟨g', 0, none⟩) pk.opts.length c') pk.opts := hln.only hO4 (fun k e e2 => by have := hln.block k e; omega)
        have hb14 : Below W1.heap.size W1 (w3.setCell ⟨C, 2, none⟩ (.slice (some ⟨g', 0, none⟩) pk.opts.length c')) := (seqB hb2 hb3).trans (hO4.below (seqB hb2 hb3).size (fun k e => by omega))
        clear hlend hhP hhP3 hln hlo hO4 hb2 hb3 e2 e3 e4 e5 e44 hro
        go_upto_region 19 with fail
        obtain ⟨w4, hw4⟩ : ∃ w4, w3.setCell ⟨C, 2, none⟩ (.slice (some ⟨g', 0, none⟩) pk.opts.length c') = w4 := ⟨_, rfl⟩
        rw [hw4] at hhP4 hln4 hb14 ⊢
        clear hw4 i2 j2
        have hB4 := hB1.below hb14
        have hhA4 := below_of hb14 hhA
        have hbw4 := seqB hb1 hb14
        have hm4 := hm1.below hb14
        have hd := nTake_any p t o (.slice (some ⟨g', 0, none⟩) pk.opts.length c') s pk ml w4 hB4.sd hm4 hln4.at (by omega)
        have hgX := good_take hB4.sd.good pk
        have hrd := fun W (h : RSide W q a' s) (hv : OptsIn W (.slice sa pk.opts.length sc) pk.opts) => rTake_any q a' (.slice sa pk.opts.length sc) s pk W h hv hsl (by omega) HTX.out
        obtain ⟨X, hX⟩ : ∃ X, takeM s pk = X := ⟨_, rfl⟩
        rw [hX] at hd hrd
        clear hX hgX
        unfold packCells at hd hrd
        obtain ⟨X, ps, xe⟩ := X
        obtain ⟨b0, b1, b2, b3⟩ := packet_cell hhP4
        go_wp2_with fail
        refine hd.mono ?_
        rintro e w5 ⟨v2, l2, o2, rfl, hl2, hq2, hs2, ⟨hk2, hps2⟩, hO2, hm2⟩
        have hrs2 := hB4.rside hO2
        have hhA5 := hO2.heap hhA4 (fun e => hpA e.symm)
        have hhP5 := hO2.heap hhP4 (fun e => hCp e.symm)
        have hbw5 : Below w.heap.size w w5 := hbw4.trans (hO2.below hbw4.size (fun k e => by omega))
        have hop5 : OptsIn w5 (.slice sa pk.opts.length sc) pk.opts := hop.below hbw5
        have hln5 : Lent w5 W2.heap.size (.slice (some ⟨g', 0, none⟩) pk.opts.length c') pk.opts := hln4.only hO2 (fun k e e2 => by have := hln4.block k e; have h1 := hB1.sd.blk.lt; omega)
        have e2 : w5.cell? ⟨B, 2, none⟩ = some (.int .i64 pk.code) := by simp [World.cell?, hhA5]
        have e3 : w5.cell? ⟨B, 2 + 1, none⟩ = some (.int .i64 pk.id) := by simp [World.cell?, hhA5]
        have e4 : w5.cell? ⟨B, 2 + 2, none⟩ = some (.slice sa pk.opts.length sc) := by simp [World.cell?, hhA5]
        have e5 : w5.cell? ⟨B, 2 + 3, none⟩ = some (.string pk.data) := by simp [World.cell?, hhA5]
        dsimp only at hq2 hs2 hk2
        clear hd b0 b1 b2 b3 hhA4 hhP4 hln4
        go_wp2_with fail
        refine (hrd _ hrs2 hop5).mono ?_
        rintro e w6 ⟨v3, l3, a3, rfl, hl3, hq3, hs3, hk3, hO3⟩
        dsimp only at hq3 hs3 hk3
        obtain ⟨hB6, hl26⟩ := hB4.acted hs2 hk2 hl2 hO2 hs3 hk3 hO3
        have hsp := samepacks_in v2 v3 l2 l3 w6 hl26.at hl3 (hq2.trans hq3.symm)
        have hbw6 : Below w.heap.size w w6 := hbw5.trans (hO3.below hbw5.size (fun k e => by omega))
        have hhA6 := hO3.heap hhA5 (fun e => hqA e.symm)
        have hhP6 := hO3.heap hhP5 (fun e => hCq e.symm)
        have hln6 : Lent w6 W2.heap.size (.slice (some ⟨g', 0, none⟩) pk.opts.length c') pk.opts := hln5.only hO3 (fun k e e2 => by have := hln5.block k e; have := hB4.rs.blk.lt; have h1 := hB1.rs.blk.lt; omega)
        clear hrd hrs2 hq2 hq3 hl3 hs3 hs2 e2 e3 e4 e5 hhA5 hhP5 hln5 hop5 hbw5
        go_wp2_with fail
        refine hsp.mono ?_
        rintro e w7 ⟨rfl, hb7⟩
        have hl27 := hl26.below hb7
        have hB7 := hB6.below hb7
        have hbw7 := seqB hbw6 hb7
        have hln7 : Lent w7 W2.heap.size (.slice (some ⟨g', 0, none⟩) pk.opts.length c') pk.opts := hln6.only (S := fun _ => False) (Only.ofBelow hb7) (fun _ _ h => h)
        have hhA7 := below_of hb7 hhA6
        have hhP7 := below_of hb7 hhP6
        have hop7 : OptsIn w7 (.slice sa pk.opts.length sc) pk.opts := hop.below hbw7
        have hkp := keptopts_any _ _ _ pk.opts w7 hln7 hop7
        have i2 : w7.cell? ⟨C, 2, none⟩ = some (.slice (some ⟨g', 0, none⟩) pk.opts.length c') := by simp [World.cell?, hhP7, packCells]
        have i4 : w7.cell? ⟨B, 2 + 2, none⟩ = some (.slice sa pk.opts.length sc) := by simp [World.cell?, hhA7]
        have i44 : w7.cell? ⟨B, 4, none⟩ = some (.slice sa pk.opts.length sc) := i4
        have hxe : (xe != xe) = false := by simp
        clear hsp hB6 hbw6 hl26 hb7 hln6 hln7 hhA6 hhP6 hop7 hhA7 hhP7
        go_wp2_with (first | (go_at_call 6; refine (num_any _ _).mono ?_; rintro e w8 ⟨rfl, rfl⟩))
        refine hkp.mono ?_
        rintro e w8 ⟨rfl, hb8⟩
        have hl28 := hl27.below hb8
        have hB8 := hB7.below hb8
        have hbw8 := seqB hbw7 hb8
        clear hkp hB7 hbw7 hl27 hb8 i2 i4 i44
        go_wp2_with fail
        refine (spoilpacks_any v2 l2 w8 hl28.packsL).mono ?_
        rintro e w9 ⟨rfl, hO9⟩
        obtain ⟨hB9, hS9⟩ := hB4.spoilt hl2 hk2 hps2 hk3 hO2 hB8 hO9
        have hbw9 : Below w.heap.size w w9 := hbw8.trans (hO9.below hbw8.size (fun k e => Nat.le_trans hbw4.size (hS9 k e)))
        clear hB8 hbw8 hl28 hl2 hk2 hps2 hk3 hO2 hO3 hO9 hS9 hxe hB1 hb1 hhA hB4 hbw4 hm4 hb14
        obtain ⟨w4, rfl⟩ : ∃ w4 : World, w4 = w9 := ⟨_, rfl⟩
        have hB4 := hB9
        have hbw4 := hbw9
        clear hB9 hbw9
        have hn4 := hB4.sd.blk
        obtain ⟨c1, c2, c3, c4, c5, c6⟩ := hB4.rs.blk.owns
        obtain ⟨c7, c8, c9, c10, c11, c12⟩ := hB4.rs.blk.others
        obtain ⟨c0, c13, -, -, -, -⟩ := hB4.rs.blk.rest
        have hne1 := link_neq X.own
        have hne2 := link_neq X.other
        simp only [linkCells_eq] at hne1 hne2
        have hst := fun W (h : NegBlk W p t o2 X) => state_any p t o2 X W h
        have hle := fun W (h : NegBlk W p t o2 X) => left_any p t o2 X W h
        have how := fun W (h : NegBlk W p t o2 X) => own_any p t o2 X W h
        have hot := fun W (h : NegBlk W p t o2 X) => other_any p t o2 X W h
        simp only [linkCells_eq] at how hot
        have HB4 := Lib.hid hB4
        clear hB4
        go_wp2_with fail
        refine wp_schedL (fun w' => NegBlk w' p t o2 X ∧ w'.cell? ⟨q, 0, none⟩ = some (.int .i64 X.state) ∧ w'.cell? ⟨q, 1, none⟩ = some (.int .i64 X.own.mru) ∧ w'.cell? ⟨q, 1 + 1, none⟩ = some (.int .i64 X.own.magic) ∧ w'.cell? ⟨q, 1 + 2, none⟩ = some (.int .i64 X.own.mrru) ∧ w'.cell? ⟨q, 1 + 3, none⟩ = some (.bool X.own.short) ∧ w'.cell? ⟨q, 1 + 4, none⟩ = some (.string X.own.disc) ∧ w'.cell? ⟨q, 1 + 5, none⟩ = some (.int .i64 X.own.num) ∧ w'.cell? ⟨q, 7, none⟩ = some (.int .i64 X.other.mru) ∧ w'.cell? ⟨q, 7 + 1, none⟩ = some (.int .i64 X.other.magic) ∧ w'.cell? ⟨q, 7 + 2, none⟩ = some (.int .i64 X.other.mrru) ∧ w'.cell? ⟨q, 7 + 3, none⟩ = some (.bool X.other.short) ∧ w'.cell? ⟨q, 7 + 4, none⟩ = some (.string X.other.disc) ∧ w'.cell? ⟨q, 7 + 5, none⟩ = some (.int .i64 X.other.num) ∧ w'.cell? ⟨q, 13, none⟩ = some (.int .i64 X.left)) [(0, true), (2, true), (3, true), (4, true), (5, true), (1, false), (6, true), (7, true), (8, true), (10, true), (11, true), (12, true), (13, true), (9, false), (14, true), (15, true), (16, true), (17, true), (19, true), (20, true), (21, true), (22, true), (18, false), (23, true), (24, true), (25, true), (26, true), (28, true), (29, true), (30, true), (31, true), (27, false), (32, true), (33, true)] (by kernel_rfl) (by kernel_rfl) rfl (by kernel_rfl) (by kernel_rfl) ⟨hn4.below (Below.refl _ _).drew, c0, c1, c2, c3, c4, c5, c6, c7, c8, c9, c10, c11, c12, c13⟩ (fun _ d _ _ _ h => by cases d <;> exact h) ?_
        obtain ⟨w5, hw5⟩ : ∃ w5, w4.drew = w5 := ⟨_, rfl⟩
        have hb45 : Below w4.heap.size w4 w5 := by rw [← hw5]; exact (Below.refl _ _).drew
        rw [hw5]
        have hn5 := hn4.below hb45
        have gg := fun {a : Addr} {v : Value} (h : w4.cell? a = some v) => fsm_below_cell (W := w4) hb45 h
        simp only [schedOps, List.filterMap_cons, List.filterMap_nil, List.getElem?_toArray, List.getElem?_cons_zero, List.getElem?_cons_succ, Option.map_some]
        repeat (first | (refine' wpSched_take _ (by rfl) (fun wS hS => ?_) ?_; rotate_left; (focus (obtain ⟨hn, c0, c1, c2, c3, c4, c5, c6, c7, c8, c9, c10, c11, c12, c13⟩ := hS; go_simp; first | done | rfl)); (try simp only [Act.put, List.setIfInBounds_toArray, List.set_cons_zero, List.set_cons_succ])) | (refine wpSched_skip (by rfl) ?_; try simp only [Act.put, List.setIfInBounds_toArray, List.set_cons_zero, List.set_cons_succ]))
        refine wpSched_run (fun K hK => ?_)
        go_wp2_with (go_at_call 16; refine (hst _ hn5).mono ?_; rintro e w6 ⟨rfl, rfl⟩)
        refine QRun_normal (hK.out _ _ ⟨hn5, gg c0, gg c1, gg c2, gg c3, gg c4, gg c5, gg c6, gg c7, gg c8, gg c9, gg c10, gg c11, gg c12, gg c13⟩ ?_)
        clear hK K hst
        repeat (first | (refine' wpSched_take _ (by rfl) (fun wS hS => ?_) ?_; rotate_left; (focus (obtain ⟨hn, c0, c1, c2, c3, c4, c5, c6, c7, c8, c9, c10, c11, c12, c13⟩ := hS; go_simp; first | done | rfl)); (try simp only [Act.put, List.setIfInBounds_toArray, List.set_cons_zero, List.set_cons_succ])) | (refine wpSched_skip (by rfl) ?_; try simp only [Act.put, List.setIfInBounds_toArray, List.set_cons_zero, List.set_cons_succ]))
        refine wpSched_run (fun K hK => ?_)
        go_wp2_with (go_at_call 17; refine (how _ hn5).mono ?_; rintro e w7 ⟨rfl, hb7⟩)
        have hn7 := hn5.below hb7
        have hb47 := seqB hb45 hb7
        have gg := fun {a : Addr} {v : Value} (h : w4.cell? a = some v) => fsm_below_cell (W := w4) hb47 h
        refine QRun_normal (hK.out _ _ ⟨hn7, gg c0, gg c1, gg c2, gg c3, gg c4, gg c5, gg c6, gg c7, gg c8, gg c9, gg c10, gg c11, gg c12, gg c13⟩ ?_)
        clear hK K how
        repeat (first | (refine' wpSched_take _ (by rfl) (fun wS hS => ?_) ?_; rotate_left; (focus (obtain ⟨hn, c0, c1, c2, c3, c4, c5, c6, c7, c8, c9, c10, c11, c12, c13⟩ := hS; go_simp; first | done | rfl)); (try simp only [Act.put, List.setIfInBounds_toArray, List.set_cons_zero, List.set_cons_succ])) | (refine wpSched_skip (by rfl) ?_; try simp only [Act.put, List.setIfInBounds_toArray, List.set_cons_zero, List.set_cons_succ]))
        refine wpSched_run (fun K hK => ?_)
        go_wp2_with (go_at_call 18; refine (hot _ hn7).mono ?_; rintro e w8 ⟨rfl, hb8⟩)
        have hn8 := hn7.below hb8
        have hb48 := seqB hb47 hb8
        have gg := fun {a : Addr} {v : Value} (h : w4.cell? a = some v) => fsm_below_cell (W := w4) hb48 h
        refine QRun_normal (hK.out _ _ ⟨hn8, gg c0, gg c1, gg c2, gg c3, gg c4, gg c5, gg c6, gg c7, gg c8, gg c9, gg c10, gg c11, gg c12, gg c13⟩ ?_)
        clear hK K hot
        repeat (first | (refine' wpSched_take _ (by rfl) (fun wS hS => ?_) ?_; rotate_left; (focus (obtain ⟨hn, c0, c1, c2, c3, c4, c5, c6, c7, c8, c9, c10, c11, c12, c13⟩ := hS; go_simp; first | done | rfl)); (try simp only [Act.put, List.setIfInBounds_toArray, List.set_cons_zero, List.set_cons_succ])) | (refine wpSched_skip (by rfl) ?_; try simp only [Act.put, List.setIfInBounds_toArray, List.set_cons_zero, List.set_cons_succ]))
        refine wpSched_run (fun K hK => ?_)
        go_wp2_with (go_at_call 19; refine (hle _ hn8).mono ?_; rintro e w9 ⟨rfl, rfl⟩)
        refine QRun_normal (hK.out _ _ ⟨hn8, gg c0, gg c1, gg c2, gg c3, gg c4, gg c5, gg c6, gg c7, gg c8, gg c9, gg c10, gg c11, gg c12, gg c13⟩ ?_)
        clear hK K hle
        repeat (first | (refine' wpSched_take _ (by rfl) (fun wS hS => ?_) ?_; rotate_left; (focus (obtain ⟨hn, c0, c1, c2, c3, c4, c5, c6, c7, c8, c9, c10, c11, c12, c13⟩ := hS; go_simp; first | done | rfl)); (try simp only [Act.put, List.setIfInBounds_toArray, List.set_cons_zero, List.set_cons_succ])) | (refine wpSched_skip (by rfl) ?_; try simp only [Act.put, List.setIfInBounds_toArray, List.set_cons_zero, List.set_cons_succ]))
        refine wpSched_done ?_
        have hfin := HB4.out.below hb48
        have hbf := seqB hbw4 hb48
        clear gg hn4 hn5 hn7 hn8 hb45 hb47 hb48 hb7 hb8 hne1 hne2 c0 c1 c2 c3 c4 c5 c6 c7 c8 c9 c10 c11 c12 c13 hbw4 HB4
        go_wp2_with fail
        go_roundw
        case rel => exact ⟨k + 1, o2, a3, X, hkn, by go_num, hfin, hbf⟩
        case measure => simp [intOf]; omega
    · have haw := awake_any ml wr (HM.out.below hbw)
      by_cases hkn : k < n
      · have h100 : ¬ k < 100 := fun h => hlt ⟨hkn, h⟩
        clear hlt hB
        go_wp2_with fail
        refine haw.mono ?_
        rintro e w9 ⟨rfl, hb9⟩
        have hbf := seqB hbw hb9
        clear haw
        go_wp2_with fail
        go_ret
        exact ⟨rfl, hbf⟩
      · clear hlt hB
        go_wp2_with fail
        refine haw.mono ?_
        rintro e w9 ⟨rfl, hb9⟩
        have hbf := seqB hbw hb9
        clear haw
        go_wp2_with fail
        go_ret
        exact ⟨rfl, hbf⟩
theorem acts_walk (own : LinkM) (tries : Int) (v : Value) (l : List ActV) (ml : Int) (w : World) (hm : MaxLenIs w ml) (ha : ActsAt w v l) :
    Calls Tryz.prog 3 #[.agg (linkCells own), .int .i64 tries, v] w fun e w' => e = .returned (.bool true) ∧ Below w.heap.size w w' := by
  cases hk : newOk own tries with
  | false => exact acts_bad own tries v ml w hm hk
  | true => exact acts_good own tries v l ml w hm ha hk
end Go.Proofs.YtagnbdenecphcaaGreatDoor
