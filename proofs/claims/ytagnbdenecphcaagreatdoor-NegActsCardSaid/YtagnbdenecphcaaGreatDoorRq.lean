/- The reference: Take, the four kinds that configure. -/
import Derived.Test.YtagnbdenecphcaaGreatDoorRp
namespace Go.Proofs.YtagnbdenecphcaaGreatDoor
open Go.RowKit
set_option linter.unusedVariables false
set_option linter.unusedSimpArgs false
/-- what Take comes to at a request, at an acknowledgement -/
def reqX (s : NegM) (k : PacketM) : NegM × List PacketM × Int := runM s (if (judgeM s.own k.opts).1 = 0 then 6 else 7) ⟨k, 0, (judgeM s.own k.opts).1, (judgeM s.own k.opts).2.1⟩
def ackX (s : NegM) (k : PacketM) : NegM × List PacketM × Int := if k.id = s.asked ∧ k.opts = s.os then runM s 8 ⟨k, 0, 0, []⟩ else (s, [], 0)
theorem opts_fitM {os : List OptM} (h : (optsM os).2 = 0) : ∀ o ∈ os, fitM o = true := by
  unfold optsM at h
  split at h
  · cases h
  · rename_i h1
    split at h
    · cases h
    · rename_i h2
      intro o ho
      have a1 : ¬ ((decide (o.1 < 0) || decide (255 < o.1)) = true) := fun e => h1 (List.any_eq_true.2 ⟨o, ho, e⟩)
      obtain ⟨j, hj, rfl⟩ := List.getElem_of_mem ho
      have a2 : ¬ (optLong os j = true) := fun e => h2 (List.any_eq_true.2 ⟨j, List.mem_range.2 hj, e⟩)
      rw [optLong_at os j hj] at a2
      unfold fitM
      simp at a1 a2 ⊢
      omega
theorem judge_zero {own : LinkM} {os : List OptM} (hm : mayM own = true) (hf : ∀ o ∈ os, fitM o = true) (h : (judgeM own os).1 = 0) : os = (judgeM own os).2.1 := by
  unfold judgeM at h ⊢
  have h0 : ¬ (mayM own = false ∨ (os.any fun o => !fitM o) = true) := by
    rintro (e | e)
    · rw [hm] at e; cases e
    · obtain ⟨o, ho, e⟩ := List.any_eq_true.1 e
      rw [hf o ho] at e; cases e
  rw [if_neg h0] at h ⊢
  by_cases h1 : badsTo own os os.length ≠ []
  · rw [if_pos h1] at h; exact absurd (show (2 : Int) = 0 from h) (by decide)
  · rw [if_neg h1] at h ⊢
    by_cases h2 : bettersTo own os os.length ≠ []
    · rw [if_pos h2] at h; exact absurd (show (1 : Int) = 0 from h) (by decide)
    · rw [if_neg h2]
theorem control_confs {k : PacketM} (h : (controlM k).2 = 0) : (optsM k.opts).2 = 0 := by
  by_cases e : (optsM k.opts).2 = 0
  · exact e
  · exfalso
    unfold controlM at h
    by_cases h1 : octetM k.code = false ∨ octetM k.id = false
    · rw [if_pos h1] at h; exact absurd h (by decide)
    · rw [if_neg h1, if_pos (.inl e)] at h; exact absurd h (by decide)
set_option maxRecDepth 100000 in
set_option maxHeartbeats 8000000 in
theorem rtake_req (p : Nat) (av v : Value) (s : NegM) (k : PacketM) (w : World) (h : RSide w p av s) (hv : OptsIn w v k.opts) (hvp : k.opts ≠ [] → ∀ b, v.ownBlock = some b → b ≠ p) (hsz : k.data.size ≤ 4611686018427387904) (hz : ∀ o ∈ k.opts, o.2.size ≤ 140737488351232) (he : (controlM k).2 = 0) (hst : ¬ (s.state = 0 ∨ s.state = 1)) (hc : k.code = 1) :
    Calls Tryz.prog 14 #[.pointer (some ⟨p, 0, none⟩), .agg (packCells k v)] w (RActPost p av s (reqX s k) w) := by
  have hf := opts_fitM (control_confs he)
  have hlen : k.opts.length ≤ 1000000 := Nat.le_trans (opts_short (control_confs he)) (by decide)
  have HJZ := Lib.hid (judge_zero (os := k.opts) h.good.may hf)
  have HF := Lib.hid hf
  have hc1 := Lib.hid hc
  clear hf hc
  have hbx := allocB (Below.refl w.heap.size w) (.cells #[.int .i64 k.code, .int .i64 k.id, v, .string k.data] 36)
  have hhx := heap_alloc_last w (.cells #[.int .i64 k.code, .int .i64 k.id, v, .string k.data] 36)
  obtain ⟨pa, pc, rfl, hpc1, hpc2⟩ := hv.form
  have hct := rcontrol_any _ k _ (hv.below hbx) hz hsz
  have hpl := h.blk.lt
  obtain ⟨T, hT⟩ : ∃ x, bytesOf (controlM k).1 = x := ⟨_, rfl⟩
  obtain ⟨er, her⟩ : ∃ x, (controlM k).2 = x := ⟨_, rfl⟩
  rw [hT, her] at hct
  obtain rfl : er = 0 := her ▸ he
  clear hT her he
  unfold packCells at hct ⊢
  go_enter Tryz.func14, Tryz.ntmps14
  go_wp2_with fail
  refine hct.mono ?_
  rintro e w1 ⟨rfl, hb1⟩
  clear hct
  have hh1 : w1.heap[w.heap.size]? = some (.cells (packCells k (.slice pa k.opts.length pc)) 36 (0, 0)) := below_of hb1 hhx
  have hbw := seqB hbx hb1
  clear hbx hhx hb1
  obtain ⟨b0, b1, b2, b3⟩ := packet_cell hh1
  have hs1 := h.below hbw
  have hv1 := hv.below hbw
  have c0 : w1.cell? ⟨p, 0, none⟩ = some (.int .i64 s.state) := hs1.blk.cell 0
  have q0 : (s.state == 0) = false := beq_eq_false_iff_ne.2 (fun e => hst (.inl e))
  have q1 : (s.state == 1) = false := beq_eq_false_iff_ne.2 (fun e => hst (.inr e))
  have hql : w.heap.size ≠ p := by omega
  obtain ⟨c1, c2, c3, c4, c5, c6⟩ := hs1.blk.owns
  have hj := rjudge_any s.own (.slice pa k.opts.length pc) k.opts w1.drew h.good.may (hv1.below (Below.refl _ _).drew) HF.out hlen
  simp only [linkCells_eq] at hj
  obtain ⟨JV, hJV⟩ : ∃ x, (judgeM s.own k.opts).1 = x := ⟨_, rfl⟩
  obtain ⟨JO, hJO⟩ : ∃ x, (judgeM s.own k.opts).2.1 = x := ⟨_, rfl⟩
  have HJV := Lib.hid hJV
  have HJO := Lib.hid hJO
  rw [hJV, hJO] at hj
  have HJZ2 : Hid (JV = 0 → k.opts = JO) := Lib.hid (by rw [← hJV, ← hJO]; exact HJZ.out)
  have zc : (k.code == 1) = true := beq_iff_eq.2 hc1.out
  clear hJV hJO hc1 HJZ HF hlen hv
  go_wp2_with fail
  refine wp_schedL (fun w' => w'.cell? ⟨p, 1, none⟩ = some (.int .i64 s.own.mru) ∧ w'.cell? ⟨p, 1 + 1, none⟩ = some (.int .i64 s.own.magic) ∧ w'.cell? ⟨p, 1 + 2, none⟩ = some (.int .i64 s.own.mrru) ∧ w'.cell? ⟨p, 1 + 3, none⟩ = some (.bool s.own.short) ∧ w'.cell? ⟨p, 1 + 4, none⟩ = some (.string s.own.disc) ∧ w'.cell? ⟨p, 1 + 5, none⟩ = some (.int .i64 s.own.num) ∧ w'.cell? ⟨w.heap.size, 2, none⟩ = some (.slice pa k.opts.length pc)) [(0, true), (1, true), (2, true), (3, true), (4, true), (5, true), (6, false), (7, true), (8, true), (9, true), (10, true), (11, true), (12, true), (13, true)] (by kernel_rfl) (by kernel_rfl) rfl (by kernel_rfl) (by kernel_rfl) ⟨c1, c2, c3, c4, c5, c6, b2⟩ (fun _ d _ _ _ h => by cases d <;> exact h) ?_
  simp only [schedOps, List.filterMap_cons, List.filterMap_nil, List.getElem?_toArray, List.getElem?_cons_zero, List.getElem?_cons_succ, Option.map_some]
  repeat (first | (refine' wpSched_take _ (by rfl) (fun wS hS => ?_) ?_; rotate_left; (focus (obtain ⟨c1, c2, c3, c4, c5, c6, b2⟩ := hS; go_simp; first | done | rfl)); (try simp only [Act.put, List.setIfInBounds_toArray, List.set_cons_zero, List.set_cons_succ])) | (refine wpSched_skip (by rfl) ?_; try simp only [Act.put, List.setIfInBounds_toArray, List.set_cons_zero, List.set_cons_succ]))
  refine wpSched_run (fun K hK => ?_)
  go_wp2_with (go_at_call 32; refine hj.mono ?_; rintro e w2 ⟨ov, rfl, hov2, hb2⟩)
  have gg := fun {a : Addr} {v : Value} (h : w1.cell? a = some v) => fsm_below_cell (W := w1.drew) hb2 h
  refine QRun_normal (hK.out _ _ ⟨gg c1, gg c2, gg c3, gg c4, gg c5, gg c6, gg b2⟩ ?_)
  clear hK K
  repeat (first | (refine' wpSched_take _ (by rfl) (fun wS hS => ?_) ?_; rotate_left; (focus (obtain ⟨c1, c2, c3, c4, c5, c6, b2⟩ := hS; go_simp; first | done | rfl)); (try simp only [Act.put, List.setIfInBounds_toArray, List.set_cons_zero, List.set_cons_succ])) | (refine wpSched_skip (by rfl) ?_; try simp only [Act.put, List.setIfInBounds_toArray, List.set_cons_zero, List.set_cons_succ]))
  refine wpSched_done ?_
  have b0' := gg b0
  have b1' := gg b1
  have b2' := gg b2
  have b3' := gg b3
  have hbw2 : Below w.heap.size w w2 := seqB hbw.drew hb2
  have hs2 := h.below hbw2
  have hv2 : OptsIn w2 (.slice pa k.opts.length pc) k.opts := OptsIn.below (w := w1.drew) (hv1.below (Below.refl _ _).drew) hb2
  have hovp : ∀ b, ov.ownBlock = some b → b ≠ p := fun b hb e => by
    have h1 := hov2.block b hb
    have h2 : w1.drew.heap.size = w1.heap.size := rfl
    have h3 := hbw.size
    omega
  have hend := fun ev h8 => rtake_end p av (.slice pa k.opts.length pc) s s k w w2 ⟨k, 0, JV, JO⟩ ov ev rfl h rfl (Only.ofBelow hbw2) hs2 hv2 hvp (OptsAt.ins hov2.at) (fun _ => hovp) hsz hz h8
  dsimp only at hend
  obtain ⟨oa, oc, rfl, _, _⟩ := SeqAt.form hov2.at
  clear gg hj hov2 hb2 c0 c1 c2 c3 c4 c5 c6 b0 b1 b2 b3 hs1 hv1 hs2 hv2 hovp hbw2 hbw h hh1
  by_cases hj0 : JV = 0
  · have h6 := hend 6 (fun _ => HJZ2.out hj0)
    obtain ⟨X, hX⟩ : ∃ X, runM s 6 ⟨k, 0, JV, JO⟩ = X := ⟨_, rfl⟩
    have HEX : Hid (reqX s k = X) := Lib.hid (by unfold reqX; rw [HJV.out, HJO.out, if_pos hj0, hX])
    rw [hX] at h6
    have zj : (JV == 0) = true := beq_iff_eq.2 hj0
    clear hX hend hj0
    go_wp2_with fail
    refine h6.mono ?_
    rintro e w5 ⟨v', rfl, hfin⟩
    clear h6
    go_wp2_with fail
    go_ret2
    rw [HEX.out]
    exact hfin
  · have h7 := hend 7 (fun e => absurd e (by decide))
    obtain ⟨X, hX⟩ : ∃ X, runM s 7 ⟨k, 0, JV, JO⟩ = X := ⟨_, rfl⟩
    have HEX : Hid (reqX s k = X) := Lib.hid (by unfold reqX; rw [HJV.out, HJO.out, if_neg hj0, hX])
    rw [hX] at h7
    have zj : (JV == 0) = false := beq_eq_false_iff_ne.2 hj0
    clear hX hend hj0
    go_wp2_with fail
    refine h7.mono ?_
    rintro e w5 ⟨v', rfl, hfin⟩
    clear h7
    go_wp2_with fail
    go_ret2
    rw [HEX.out]
    exact hfin
set_option maxRecDepth 100000 in
set_option maxHeartbeats 8000000 in
theorem rtake_ack (p : Nat) (av v : Value) (s : NegM) (k : PacketM) (w : World) (h : RSide w p av s) (hv : OptsIn w v k.opts) (hvp : k.opts ≠ [] → ∀ b, v.ownBlock = some b → b ≠ p) (hsz : k.data.size ≤ 4611686018427387904) (hz : ∀ o ∈ k.opts, o.2.size ≤ 140737488351232) (he : (controlM k).2 = 0) (hst : ¬ (s.state = 0 ∨ s.state = 1)) (hc : k.code = 2) :
    Calls Tryz.prog 14 #[.pointer (some ⟨p, 0, none⟩), .agg (packCells k v)] w (RActPost p av s (ackX s k) w) := by
  have hc0 := Lib.hid hc
  clear hc
  have hbx := allocB (Below.refl w.heap.size w) (.cells #[.int .i64 k.code, .int .i64 k.id, v, .string k.data] 36)
  have hhx := heap_alloc_last w (.cells #[.int .i64 k.code, .int .i64 k.id, v, .string k.data] 36)
  obtain ⟨pa, pc, rfl, hpc1, hpc2⟩ := hv.form
  have hct := rcontrol_any _ k _ (hv.below hbx) hz hsz
  have hpl := h.blk.lt
  obtain ⟨T, hT⟩ : ∃ x, bytesOf (controlM k).1 = x := ⟨_, rfl⟩
  obtain ⟨er, her⟩ : ∃ x, (controlM k).2 = x := ⟨_, rfl⟩
  rw [hT, her] at hct
  obtain rfl : er = 0 := her ▸ he
  clear hT her he
  unfold packCells at hct ⊢
  go_enter Tryz.func14, Tryz.ntmps14
  go_wp2_with fail
  refine hct.mono ?_
  rintro e w1 ⟨rfl, hb1⟩
  clear hct
  have hh1 : w1.heap[w.heap.size]? = some (.cells (packCells k (.slice pa k.opts.length pc)) 36 (0, 0)) := below_of hb1 hhx
  have hbw := seqB hbx hb1
  clear hbx hhx hb1
  obtain ⟨b0, b1, b2, b3⟩ := packet_cell hh1
  have hs1 := h.below hbw
  have hv1 := hv.below hbw
  have c0 : w1.cell? ⟨p, 0, none⟩ = some (.int .i64 s.state) := hs1.blk.cell 0
  have q0 : (s.state == 0) = false := beq_eq_false_iff_ne.2 (fun e => hst (.inl e))
  have q1 : (s.state == 1) = false := beq_eq_false_iff_ne.2 (fun e => hst (.inr e))
  have hql : w.heap.size ≠ p := by omega
  obtain ⟨-, -, -, -, c16, c17⟩ := hs1.blk.rest
  have hal := ralike_any (.slice pa k.opts.length pc) av k.opts s.os w1.drew (hv1.below (Below.refl _ _).drew) (OptsAt.below hs1.os (Below.refl _ _).drew).ins
  have zc1 : (k.code == 1) = false := by rw [hc0.out]; rfl
  have zc : (k.code == 2) = true := beq_iff_eq.2 hc0.out
  clear hv
  by_cases hid : k.id = s.asked
  · have zi : (k.id != s.asked) = false := bne_eq_false_iff_eq.2 hid
    have HID := Lib.hid hid
    clear hid
    go_wp2_with fail
    refine wp_schedL (fun w' => w'.cell? ⟨w.heap.size, 1, none⟩ = some (.int .i64 k.id) ∧ w'.cell? ⟨w.heap.size, 2, none⟩ = some (.slice pa k.opts.length pc) ∧ w'.cell? ⟨p, 16, none⟩ = some (.int .i64 s.asked) ∧ w'.cell? ⟨p, 17, none⟩ = some av) [(0, true), (1, true), (2, true), (3, true), (4, true), (5, true), (6, true), (7, true), (8, true), (9, true), (10, true), (11, true), (12, true), (13, true), (14, false), (15, true), (16, true)] (by kernel_rfl) (by kernel_rfl) rfl (by kernel_rfl) (by kernel_rfl) ⟨b1, b2, c16, c17⟩ (fun _ d _ _ _ h => by cases d <;> exact h) ?_
    simp only [schedOps, List.filterMap_cons, List.filterMap_nil, List.getElem?_toArray, List.getElem?_cons_zero, List.getElem?_cons_succ, Option.map_some]
    repeat (first | (refine' wpSched_take _ (by rfl) (fun wS hS => ?_) ?_; rotate_left; (focus (obtain ⟨b1, b2, c16, c17⟩ := hS; go_simp; first | done | rfl)); (try simp only [Act.put, List.setIfInBounds_toArray, List.set_cons_zero, List.set_cons_succ])) | (refine wpSched_skip (by rfl) ?_; try simp only [Act.put, List.setIfInBounds_toArray, List.set_cons_zero, List.set_cons_succ]))
    refine wpSched_run (fun K hK => ?_)
    go_wp2_with (go_at_call 33; refine hal.mono ?_; rintro e w2 ⟨b, rfl, hbi, hb2⟩)
    have gg := fun {a : Addr} {v : Value} (h : w1.cell? a = some v) => fsm_below_cell (W := w1.drew) hb2 h
    refine QRun_normal (hK.out _ _ ⟨gg b1, gg b2, gg c16, gg c17⟩ ?_)
    clear hK K
    repeat (first | (refine' wpSched_take _ (by rfl) (fun wS hS => ?_) ?_; rotate_left; (focus (obtain ⟨b1, b2, c16, c17⟩ := hS; go_simp; first | done | rfl)); (try simp only [Act.put, List.setIfInBounds_toArray, List.set_cons_zero, List.set_cons_succ])) | (refine wpSched_skip (by rfl) ?_; try simp only [Act.put, List.setIfInBounds_toArray, List.set_cons_zero, List.set_cons_succ]))
    refine wpSched_done ?_
    have b0' := gg b0
    have b1' := gg b1
    have b2' := gg b2
    have b3' := gg b3
    have hbw2 : Below w.heap.size w w2 := seqB hbw.drew hb2
    have hs2 := h.below hbw2
    have hv2 : OptsIn w2 (.slice pa k.opts.length pc) k.opts := OptsIn.below (w := w1.drew) (hv1.below (Below.refl _ _).drew) hb2
    have hend2 := rtake_end p av (.slice pa k.opts.length pc) s s k w w2 ⟨k, 0, 0, []⟩ (.slice none 0 0) 8 rfl h rfl (Only.ofBelow hbw2) hs2 hv2 hvp (OptsIn.nil _) (fun _ b hb => by cases hb) hsz hz (fun e => absurd e (by decide))
    dsimp only at hend2
    cases b with
    | true =>
      obtain ⟨X, hX⟩ : ∃ X, runM s 8 ⟨k, 0, 0, []⟩ = X := ⟨_, rfl⟩
      have HEX : Hid (ackX s k = X) := Lib.hid (by unfold ackX; rw [if_pos ⟨HID.out, hbi.1 rfl⟩, hX])
      rw [hX] at hend2
      clear hX gg hal hb2 c0 c16 c17 b0 b1 b2 b3 hs1 hv1 hs2 hv2 hbw2 hbw h hh1 hbi
      go_wp2_with fail
      refine hend2.mono ?_
      rintro e w5 ⟨v', rfl, hfin⟩
      clear hend2
      go_wp2_with fail
      go_ret2
      rw [HEX.out]
      exact hfin
    | false =>
      have HEX : Hid (ackX s k = (s, [], 0)) := Lib.hid (by unfold ackX; rw [if_neg (fun e => by have := hbi.2 e.2; cases this)])
      have hfin : RActPost p av s (s, [], 0) w (.returned (.tuple #[.slice none 0 0, .int .i64 0])) w2 := RActPost.stay h hbw2
      clear hend2 gg hal hb2 c0 c16 c17 b0 b1 b2 b3 hs1 hv1 hs2 hv2 hbw2 hbw h hh1 hbi
      go_wp2_with fail
      go_ret2
      rw [HEX.out]
      exact hfin
  · have zi : (k.id != s.asked) = true := bne_iff_ne.2 hid
    have HEX : Hid (ackX s k = (s, [], 0)) := Lib.hid (by unfold ackX; rw [if_neg (fun e => hid e.1)])
    clear hid hal
    go_wp2_with fail
    refine wp_schedL (fun w' => w'.cell? ⟨w.heap.size, 1, none⟩ = some (.int .i64 k.id) ∧ w'.cell? ⟨w.heap.size, 2, none⟩ = some (.slice pa k.opts.length pc) ∧ w'.cell? ⟨p, 16, none⟩ = some (.int .i64 s.asked) ∧ w'.cell? ⟨p, 17, none⟩ = some av) [(0, true), (1, true), (2, true), (3, true), (4, true), (5, true), (6, true), (7, true), (8, true), (9, true), (10, true), (11, true), (12, true), (13, true), (14, false), (15, true), (16, true)] (by kernel_rfl) (by kernel_rfl) rfl (by kernel_rfl) (by kernel_rfl) ⟨b1, b2, c16, c17⟩ (fun _ d _ _ _ h => by cases d <;> exact h) ?_
    simp only [schedOps, List.filterMap_cons, List.filterMap_nil, List.getElem?_toArray, List.getElem?_cons_zero, List.getElem?_cons_succ, Option.map_some]
    repeat (first | (refine' wpSched_take _ (by rfl) (fun wS hS => ?_) ?_; rotate_left; (focus (obtain ⟨b1, b2, c16, c17⟩ := hS; go_simp; first | done | rfl)); (try simp only [Act.put, List.setIfInBounds_toArray, List.set_cons_zero, List.set_cons_succ])) | (refine wpSched_skip (by rfl) ?_; try simp only [Act.put, List.setIfInBounds_toArray, List.set_cons_zero, List.set_cons_succ]))
    refine wpSched_run (fun K hK => ?_)
    go_wp2_with fail
    refine QRun_normal (hK.out _ _ ⟨b1, b2, c16, c17⟩ ?_)
    clear hK K
    repeat (first | (refine' wpSched_take _ (by rfl) (fun wS hS => ?_) ?_; rotate_left; (focus (obtain ⟨b1, b2, c16, c17⟩ := hS; go_simp; first | done | rfl)); (try simp only [Act.put, List.setIfInBounds_toArray, List.set_cons_zero, List.set_cons_succ])) | (refine wpSched_skip (by rfl) ?_; try simp only [Act.put, List.setIfInBounds_toArray, List.set_cons_zero, List.set_cons_succ]))
    refine wpSched_done ?_
    have hfin : RActPost p av s (s, [], 0) w (.returned (.tuple #[.slice none 0 0, .int .i64 0])) w1.drew := RActPost.stay h hbw.drew
    go_wp2_with fail
    go_ret2
    rw [HEX.out]
    exact hfin
set_option maxRecDepth 100000 in
set_option maxHeartbeats 8000000 in
theorem rtake_stale (p : Nat) (av v : Value) (s : NegM) (k : PacketM) (w : World) (h : RSide w p av s) (hv : OptsIn w v k.opts) (hvp : k.opts ≠ [] → ∀ b, v.ownBlock = some b → b ≠ p) (hsz : k.data.size ≤ 4611686018427387904) (hz : ∀ o ∈ k.opts, o.2.size ≤ 140737488351232) (he : (controlM k).2 = 0) (hst : ¬ (s.state = 0 ∨ s.state = 1)) (hc : k.code = 3 ∨ k.code = 4) (hi : k.id ≠ s.asked) :
    Calls Tryz.prog 14 #[.pointer (some ⟨p, 0, none⟩), .agg (packCells k v)] w (RActPost p av s (s, [], 0) w) := by
  have hbx := allocB (Below.refl w.heap.size w) (.cells #[.int .i64 k.code, .int .i64 k.id, v, .string k.data] 36)
  have hhx := heap_alloc_last w (.cells #[.int .i64 k.code, .int .i64 k.id, v, .string k.data] 36)
  obtain ⟨pa, pc, rfl, hpc1, hpc2⟩ := hv.form
  have hct := rcontrol_any _ k _ (hv.below hbx) hz hsz
  have hpl := h.blk.lt
  obtain ⟨T, hT⟩ : ∃ x, bytesOf (controlM k).1 = x := ⟨_, rfl⟩
  obtain ⟨er, her⟩ : ∃ x, (controlM k).2 = x := ⟨_, rfl⟩
  rw [hT, her] at hct
  obtain rfl : er = 0 := her ▸ he
  clear hT her he
  unfold packCells at hct ⊢
  go_enter Tryz.func14, Tryz.ntmps14
  go_wp2_with fail
  refine hct.mono ?_
  rintro e w1 ⟨rfl, hb1⟩
  clear hct
  have hh1 : w1.heap[w.heap.size]? = some (.cells (packCells k (.slice pa k.opts.length pc)) 36 (0, 0)) := below_of hb1 hhx
  have hbw := seqB hbx hb1
  clear hbx hhx hb1
  obtain ⟨b0, b1, b2, b3⟩ := packet_cell hh1
  have hs1 := h.below hbw
  have hv1 := hv.below hbw
  have c0 : w1.cell? ⟨p, 0, none⟩ = some (.int .i64 s.state) := hs1.blk.cell 0
  have q0 : (s.state == 0) = false := beq_eq_false_iff_ne.2 (fun e => hst (.inl e))
  have q1 : (s.state == 1) = false := beq_eq_false_iff_ne.2 (fun e => hst (.inr e))
  have hql : w.heap.size ≠ p := by omega
  obtain ⟨-, -, -, -, c16, c17⟩ := hs1.blk.rest
  have zi : (k.id != s.asked) = true := bne_iff_ne.2 hi
  have hfin : RActPost p av s (s, [], 0) w (.returned (.tuple #[.slice none 0 0, .int .i64 0])) w1.drew := RActPost.stay h hbw.drew
  clear hv hi
  rcases hc with hc | hc
  all_goals
    have zc1 : (k.code == 1) = false := by rw [hc]; rfl
    have zc2 : (k.code == 2) = false := by rw [hc]; rfl
    have zc3 : (k.code == 3) = decide (k.code = 3) := rfl
    rw [hc] at b0 zc3
    clear hc
    go_wp2_with fail
    refine wp_schedL (fun w' => w'.cell? ⟨w.heap.size, 1, none⟩ = some (.int .i64 k.id) ∧ w'.cell? ⟨p, 16, none⟩ = some (.int .i64 s.asked)) [(0, true), (1, true), (2, true), (3, true), (4, true), (5, true), (6, true)] (by kernel_rfl) (by kernel_rfl) rfl (by kernel_rfl) (by kernel_rfl) ⟨b1, c16⟩ (fun _ d _ _ _ h => by cases d <;> exact h) ?_
    simp only [schedOps, List.filterMap_cons, List.filterMap_nil, List.getElem?_toArray, List.getElem?_cons_zero, List.getElem?_cons_succ, Option.map_some]
    repeat (first | (refine' wpSched_take _ (by rfl) (fun wS hS => ?_) ?_; rotate_left; (focus (obtain ⟨b1, c16⟩ := hS; go_simp; first | done | rfl)); (try simp only [Act.put, List.setIfInBounds_toArray, List.set_cons_zero, List.set_cons_succ])) | (refine wpSched_skip (by rfl) ?_; try simp only [Act.put, List.setIfInBounds_toArray, List.set_cons_zero, List.set_cons_succ]))
    refine wpSched_done ?_
    go_wp2_with fail
    go_ret2
    exact hfin
end Go.Proofs.YtagnbdenecphcaaGreatDoor
