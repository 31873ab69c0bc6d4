/- neg.event. neg.event: a Configure-Ack. neg.event: a Configure-Nak or -Reject. neg.event joined; neg.Take. -/
import Derived.Test.YtagnbdenecphcaaGreatDoorMo
import Derived.BigQuiet
import Derived.Test.YtagnbdenecphcaaGreatDoorMg1
/-! neg.event. -/
namespace Go.Proofs.YtagnbdenecphcaaGreatDoor
open Go.RowKit
set_option linter.unusedVariables false
set_option linter.unusedSimpArgs false
def evOf (c : Int) : Int := if c = 5 then 10 else if c = 6 then 11 else if c = 7 ∨ c = 8 then 13 else if c = 9 ∨ c = 10 ∨ c = 11 then 15 else 12
set_option maxRecDepth 100000 in
set_option maxHeartbeats 8000000 in
theorem event_plain (p q : Nat) (po ov : Value) (r : ReplyM) (w : World) (hr : ReplyBlk w q po ov r) (hc : r.p.code ≠ 1 ∧ r.p.code ≠ 2 ∧ r.p.code ≠ 3 ∧ r.p.code ≠ 4) :
    Calls Tryz.prog 30 #[.pointer (some ⟨p, 0, none⟩), .pointer (some ⟨q, 0, none⟩)] w fun e w' => e = .returned (.tuple #[.int .i64 (evOf r.p.code), .bool true]) ∧ w' = w := by
  obtain ⟨c0, c1, c2, c3, c4, c5, c6⟩ := hr.cells
  obtain ⟨c, hcc⟩ : ∃ x, r.p.code = x := ⟨_, rfl⟩
  rw [hcc] at c0 hc ⊢
  clear hcc hr c1 c2 c3 c4 c5 c6
  obtain ⟨h1, h2, h3, h4⟩ := hc
  have q1 : (c == 1) = false := beq_eq_false_iff_ne.2 h1
  have q2 : (c == 2) = false := beq_eq_false_iff_ne.2 h2
  have q3 : (c == 3) = false := beq_eq_false_iff_ne.2 h3
  have q4 : (c == 4) = false := beq_eq_false_iff_ne.2 h4
  by_cases hd : c = 5 ∨ c = 6 ∨ c = 7 ∨ c = 8 ∨ c = 9 ∨ c = 10 ∨ c = 11
  · rcases hd with rfl | rfl | rfl | rfl | rfl | rfl | rfl
    all_goals
      go_enter Tryz.func30, Tryz.ntmps30
      go_wp2_with fail
      go_ret2
      exact ⟨rfl, rfl⟩
  · have q5 : (c == 5) = false := beq_eq_false_iff_ne.2 (by omega)
    have q6 : (c == 6) = false := beq_eq_false_iff_ne.2 (by omega)
    have q7 : (c == 7) = false := beq_eq_false_iff_ne.2 (by omega)
    have q8 : (c == 8) = false := beq_eq_false_iff_ne.2 (by omega)
    have q9 : (c == 9) = false := beq_eq_false_iff_ne.2 (by omega)
    have q10 : (c == 10) = false := beq_eq_false_iff_ne.2 (by omega)
    have q11 : (c == 11) = false := beq_eq_false_iff_ne.2 (by omega)
    have HE := Lib.hid (show evOf c = 12 by unfold evOf; rw [if_neg (by omega), if_neg (by omega), if_neg (by omega), if_neg (by omega)])
    go_enter Tryz.func30, Tryz.ntmps30
    go_wp2_with fail
    go_ret2
    rw [HE.out]
    exact ⟨rfl, rfl⟩
theorem setReply {w : World} {q : Nat} {po ov : Value} {r : ReplyM} (h : ReplyBlk w q po ov r) (vd : Int) (ov' : Value) (os : List OptM) : ReplyBlk ((w.setCell ⟨q, 5, none⟩ (.int .i64 vd)).setCell ⟨q, 6, none⟩ ov') q po ov' { r with verdict := vd, os := os } := by
  have h1 := heap_setCell_same w q 5 _ 65 (.int .i64 vd) h
  exact heap_setCell_same _ q 6 _ 65 ov' h1
set_option maxRecDepth 100000 in
set_option maxHeartbeats 8000000 in
theorem event_req (p t q : Nat) (o po ov : Value) (s : NegM) (r : ReplyM) (w : World) (h : NegBlk w p t o s) (hm : mayM s.own = true) (hr : ReplyBlk w q po ov r) (hpo : OptsAt w po r.p.opts) (hn : r.p.opts.length ≤ 1000000) (hqp : q ≠ p) (hc : r.p.code = 1) :
    Calls Tryz.prog 30 #[.pointer (some ⟨p, 0, none⟩), .pointer (some ⟨q, 0, none⟩)] w fun e w' => ∃ ov', e = .returned (.tuple #[.int .i64 (if (judgeM s.own r.p.opts).1 = 0 then 6 else 7), .bool true]) ∧ ReplyBlk w' q po ov' { r with verdict := (judgeM s.own r.p.opts).1, os := (judgeM s.own r.p.opts).2.1 } ∧ OwnE optE w' w.heap.size ov' (judgeM s.own r.p.opts).2.1 ∧ Only (· = q) w w' := by
  have hql := hr.lt
  have hpl := h.lt
  have hj := pjudge_any s.own po r.p.opts w.drew hm (hpo.below (Below.refl _ _).drew) hn
  obtain ⟨pa, pc, rfl, hpc1, hpc2⟩ := SeqAt.form hpo
  obtain ⟨c0, c1, c2, c3, c4, c5, c6⟩ := hr.cells
  obtain ⟨e0, e1, e2, e3, e4, e5⟩ := h.owns
  rw [hc] at c0
  obtain ⟨J, hJ⟩ : ∃ J, judgeM s.own r.p.opts = J := ⟨_, rfl⟩
  rw [hJ] at hj ⊢
  obtain ⟨vd, jo, je⟩ := J
  unfold linkCells at hj
  dsimp only at hj ⊢
  obtain ⟨own, hon⟩ : ∃ x, s.own = x := ⟨_, rfl⟩
  rw [hon] at hj e0 e1 e2 e3 e4 e5
  obtain ⟨n, hno⟩ : ∃ n, r.p.opts.length = n := ⟨_, rfl⟩
  rw [hno] at c2 hj hr ⊢
  have HR := Lib.hid hr
  clear hJ hon hno hm hpo hc hr h hn c1 c3
  go_enter Tryz.func30, Tryz.ntmps30
  go_wp2_with fail
  refine wp_schedL (fun w' => w'.cell? ⟨p, 4, none⟩ = some (.int .i64 own.mru) ∧ w'.cell? ⟨p, 4 + 1, none⟩ = some (.int .i64 own.magic) ∧ w'.cell? ⟨p, 4 + 2, none⟩ = some (.int .i64 own.mrru) ∧ w'.cell? ⟨p, 4 + 3, none⟩ = some (.bool own.short) ∧ w'.cell? ⟨p, 4 + 4, none⟩ = some (.string own.disc) ∧ w'.cell? ⟨p, 4 + 5, none⟩ = some (.int .i64 own.num) ∧ w'.cell? ⟨q, 2, none⟩ = some (.slice pa n pc)) [(0, true), (1, true), (2, true), (3, true), (4, true), (5, true), (6, true), (7, true), (8, true), (9, true), (10, true), (11, false), (12, true), (13, true), (14, true), (15, true), (16, true), (17, true), (18, false), (19, true), (20, true), (21, false)] (by kernel_rfl) (by kernel_rfl) rfl (by kernel_rfl) (by kernel_rfl) ⟨e0, e1, e2, e3, e4, e5, c2⟩ (fun _ d _ _ _ h => by cases d <;> exact h) ?_
  simp only [schedOps, List.filterMap_cons, List.filterMap_nil, List.getElem?_toArray, List.getElem?_cons_zero, List.getElem?_cons_succ, Option.map_some]
  repeat (first | (refine' wpSched_take _ (by rfl) (fun wS hS => ?_) ?_; rotate_left; (focus (obtain ⟨k0, k1, k2, k3, k4, k5, k6⟩ := hS; go_simp; first | done | rfl)); (try simp only [Act.put, List.setIfInBounds_toArray, List.set_cons_zero, List.set_cons_succ])) | (refine wpSched_skip (by rfl) ?_; try simp only [Act.put, List.setIfInBounds_toArray, List.set_cons_zero, List.set_cons_succ]))
  refine wpSched_run (fun K hK => ?_)
  go_wp2_with (go_at_call 49; refine hj.mono ?_; rintro e w1 ⟨jv, rfl, hjo, hb1⟩; obtain ⟨ja, jc, rfl, hjc1, hjc2⟩ := SeqAt.form hjo.at)
  have g := fun {a : Addr} {v : Value} (h : w.cell? a = some v) => fsm_below_cell (W := w.drew) hb1 h
  have j0 := g e0; have j1 := g e1; have j2 := g e2; have j3 := g e3; have j4 := g e4; have j5 := g e5; have j6 := g c2
  refine QRun_normal (hK.out _ _ ⟨j0, j1, j2, j3, j4, j5, j6⟩ ?_)
  clear hK K
  repeat (first | (refine' wpSched_take _ (by rfl) (fun wS hS => ?_) ?_; rotate_left; (focus (obtain ⟨k0, k1, k2, k3, k4, k5, k6⟩ := hS; go_simp; first | done | rfl)); (try simp only [Act.put, List.setIfInBounds_toArray, List.set_cons_zero, List.set_cons_succ])) | (refine wpSched_skip (by rfl) ?_; try simp only [Act.put, List.setIfInBounds_toArray, List.set_cons_zero, List.set_cons_succ]))
  have hr1 : ReplyBlk w1 q (.slice pa n pc) ov r := ReplyBlk.below (w := w.drew) HR.out hb1
  have hs5 : ReplyBlk (w1.setCell ⟨q, 5, none⟩ (.int .i64 vd)) q (.slice pa n pc) ov { r with verdict := vd } := heap_setCell_same w1 q 5 _ 65 (.int .i64 vd) hr1
  have x5 : w1.cell? ⟨q, 5, none⟩ = some (.int .i64 r.verdict) := hr1.cell 5
  have y5 := hr1.frozen 5
  have y6 := hr1.frozen 6
  have hqp' : ¬ p = q := fun e => hqp e.symm
  have h5 := only_set w1 q 5 (.int .i64 vd)
  refine wpSched_run (fun K hK => ?_)
  go_wp2_with fail
  refine QRun_normal (hK.out _ _ ⟨h5.cell (a := ⟨p, 4, none⟩) j0 hqp', h5.cell (a := ⟨p, 4 + 1, none⟩) j1 hqp', h5.cell (a := ⟨p, 4 + 2, none⟩) j2 hqp', h5.cell (a := ⟨p, 4 + 3, none⟩) j3 hqp', h5.cell (a := ⟨p, 4 + 4, none⟩) j4 hqp', h5.cell (a := ⟨p, 4 + 5, none⟩) j5 hqp', hs5.cell 2⟩ ?_)
  clear hK K
  repeat (first | (refine' wpSched_take _ (by rfl) (fun wS hS => ?_) ?_; rotate_left; (focus (obtain ⟨k0, k1, k2, k3, k4, k5, k6⟩ := hS; go_simp; first | done | rfl)); (try simp only [Act.put, List.setIfInBounds_toArray, List.set_cons_zero, List.set_cons_succ])) | (refine wpSched_skip (by rfl) ?_; try simp only [Act.put, List.setIfInBounds_toArray, List.set_cons_zero, List.set_cons_succ]))
  have x6 : (w1.setCell ⟨q, 5, none⟩ (.int .i64 vd)).cell? ⟨q, 6, none⟩ = some ov := hs5.cell 6
  have z6 := hs5.frozen 6
  have h6 := h5.trans (only_set (w1.setCell ⟨q, 5, none⟩ (.int .i64 vd)) q 6 (.slice ja jo.length jc))
  have hs6 := setReply hr1 vd (.slice ja jo.length jc) jo
  have hwf : OwnE optE ((w1.setCell ⟨q, 5, none⟩ (.int .i64 vd)).setCell ⟨q, 6, none⟩ (.slice ja jo.length jc)) w.heap.size (.slice ja jo.length jc) jo := OwnE.only hjo h6 (fun k hk e => by have h1 := hjo.block k hk; have h3 : w.drew.heap.size = w.heap.size := rfl; omega)
  have hOw : Only (· = q) w ((w1.setCell ⟨q, 5, none⟩ (.int .i64 vd)).setCell ⟨q, 6, none⟩ (.slice ja jo.length jc)) := ((Only.refl (· = q) w).drew.then (w1 := w.drew) hb1).trans h6
  refine wpSched_run (fun K hK => ?_)
  go_wp2_with fail
  refine QRun_normal (hK.out _ _ ⟨h6.cell (a := ⟨p, 4, none⟩) j0 hqp', h6.cell (a := ⟨p, 4 + 1, none⟩) j1 hqp', h6.cell (a := ⟨p, 4 + 2, none⟩) j2 hqp', h6.cell (a := ⟨p, 4 + 3, none⟩) j3 hqp', h6.cell (a := ⟨p, 4 + 4, none⟩) j4 hqp', h6.cell (a := ⟨p, 4 + 5, none⟩) j5 hqp', hs6.cell 2⟩ ?_)
  clear hK K
  repeat (first | (refine' wpSched_take _ (by rfl) (fun wS hS => ?_) ?_; rotate_left; (focus (obtain ⟨k0, k1, k2, k3, k4, k5, k6⟩ := hS; go_simp; first | done | rfl)); (try simp only [Act.put, List.setIfInBounds_toArray, List.set_cons_zero, List.set_cons_succ])) | (refine wpSched_skip (by rfl) ?_; try simp only [Act.put, List.setIfInBounds_toArray, List.set_cons_zero, List.set_cons_succ]))
  refine wpSched_done ?_
  have v5 : ((w1.setCell ⟨q, 5, none⟩ (.int .i64 vd)).setCell ⟨q, 6, none⟩ (.slice ja jo.length jc)).cell? ⟨q, 5, none⟩ = some (.int .i64 vd) := hs6.cell 5
  obtain ⟨W, hW⟩ : ∃ W, (w1.setCell ⟨q, 5, none⟩ (.int .i64 vd)).setCell ⟨q, 6, none⟩ (.slice ja jo.length jc) = W := ⟨_, rfl⟩
  rw [hW] at v5 hs6 hwf hOw ⊢
  clear hW h5 h6 hs5 hr1 x5 x6 y5 y6 z6 j0 j1 j2 j3 j4 j5 j6 g e0 e1 e2 e3 e4 e5 c0 c2 c4 c5 c6 hb1 hjo hj
  by_cases hv : vd = 0
  · subst hv
    go_wp2_with fail
    go_ret2
    exact ⟨rfl, .slice ja jo.length jc, hs6, hwf, hOw⟩
  · have qv : (vd == 0) = false := beq_eq_false_iff_ne.2 hv
    have HV := Lib.hid hv
    clear hv
    go_wp2_with fail
    go_ret2
    exact ⟨by first | rfl | (rw [if_neg HV.out]; rfl), .slice ja jo.length jc, hs6, hwf, hOw⟩
end Go.Proofs.YtagnbdenecphcaaGreatDoor
/-! neg.event: a Configure-Ack. -/
namespace Go.Proofs.YtagnbdenecphcaaGreatDoor
open Go.RowKit
set_option linter.unusedVariables false
set_option linter.unusedSimpArgs false
set_option maxRecDepth 100000 in
set_option maxHeartbeats 8000000 in
theorem event_ack (p t q : Nat) (o po ov : Value) (s : NegM) (r : ReplyM) (w : World) (h : NegBlk w p t o s) (hos : OptsAt w o s.os) (hr : ReplyBlk w q po ov r) (hpo : OptsAt w po r.p.opts) (hc : r.p.code = 2) :
    Calls Tryz.prog 30 #[.pointer (some ⟨p, 0, none⟩), .pointer (some ⟨q, 0, none⟩)] w fun e w' => e = .returned (.tuple #[.int .i64 8, .bool (decide (r.p.id = s.asked) && decide (r.p.opts = s.os))]) ∧ Below w.heap.size w w' := by
  have hql := hr.lt
  have hpl := h.lt
  have hj := sequal_any po o r.p.opts s.os w.drew (hpo.below (Below.refl _ _).drew) (hos.below (Below.refl _ _).drew)
  obtain ⟨pa, pc, rfl, hpc1, hpc2⟩ := SeqAt.form hpo
  obtain ⟨oa, oc, rfl, hoc1, hoc2⟩ := SeqAt.form hos
  obtain ⟨c0, c1, c2, c3, c4, c5, c6⟩ := hr.cells
  rw [hc] at c0
  have e17 : w.cell? ⟨p, 17, none⟩ = some (.int .i64 s.asked) := h.cell 17
  have e18 : w.cell? ⟨p, 18, none⟩ = some (.slice oa s.os.length oc) := h.cell 18
  obtain ⟨b2, hb2⟩ : ∃ x, decide (r.p.opts = s.os) = x := ⟨_, rfl⟩
  rw [hb2] at hj ⊢
  obtain ⟨n, hno⟩ : ∃ n, r.p.opts.length = n := ⟨_, rfl⟩
  obtain ⟨m, hmo⟩ : ∃ n, s.os.length = n := ⟨_, rfl⟩
  obtain ⟨id, hid⟩ : ∃ x, r.p.id = x := ⟨_, rfl⟩
  obtain ⟨ask, hask⟩ : ∃ x, s.asked = x := ⟨_, rfl⟩
  rw [hno] at c2 hj
  rw [hmo] at e18 hj
  rw [hid] at c1 ⊢
  rw [hask] at e17 ⊢
  clear hb2 hno hmo hid hask hpo hos hc hr h c3 c4 c5 c6 hpc1 hoc1
  by_cases hi : id = ask
  · subst hi
    have hdd : decide (id = id) = true := decide_eq_true rfl
    rw [hdd, Bool.true_and]
    have hqq : (id == id) = true := by simp
    go_enter Tryz.func30, Tryz.ntmps30
    go_wp2_with fail
    refine wp_schedL (fun w' => w'.cell? ⟨q, 1, none⟩ = some (.int .i64 id) ∧ w'.cell? ⟨q, 2, none⟩ = some (.slice pa n pc) ∧ w'.cell? ⟨p, 17, none⟩ = some (.int .i64 id) ∧ w'.cell? ⟨p, 18, none⟩ = some (.slice oa m oc)) [(0, true), (1, true), (2, true), (3, true), (4, true), (5, true), (6, true), (7, true), (8, true), (9, true), (10, true), (11, true), (12, true), (13, true), (14, true), (15, true), (16, true), (17, true), (18, true), (19, true), (20, false), (21, true), (22, true), (23, true)] (by kernel_rfl) (by kernel_rfl) rfl (by kernel_rfl) (by kernel_rfl) ⟨c1, c2, e17, e18⟩ (fun _ d _ _ _ h => by cases d <;> exact h) ?_
    simp only [schedOps, List.filterMap_cons, List.filterMap_nil, List.getElem?_toArray, List.getElem?_cons_zero, List.getElem?_cons_succ, Option.map_some]
    repeat (first | (refine' wpSched_take _ (by rfl) (fun wS hS => ?_) ?_; rotate_left; (focus (obtain ⟨k0, k1, k2, k3⟩ := hS; go_simp; first | done | rfl)); (try simp only [Act.put, List.setIfInBounds_toArray, List.set_cons_zero, List.set_cons_succ])) | (refine wpSched_skip (by rfl) ?_; try simp only [Act.put, List.setIfInBounds_toArray, List.set_cons_zero, List.set_cons_succ]))
    refine wpSched_run (fun K hK => ?_)
    go_wp2_with (go_at_call 50; refine hj.mono ?_; rintro e w1 ⟨rfl, hb1⟩)
    have g := fun {a : Addr} {v : Value} (h : w.cell? a = some v) => fsm_below_cell (W := w.drew) hb1 h
    refine QRun_normal (hK.out _ _ ⟨g c1, g c2, g e17, g e18⟩ ?_)
    clear hK K
    repeat (first | (refine' wpSched_take _ (by rfl) (fun wS hS => ?_) ?_; rotate_left; (focus (obtain ⟨k0, k1, k2, k3⟩ := hS; go_simp; first | done | rfl)); (try simp only [Act.put, List.setIfInBounds_toArray, List.set_cons_zero, List.set_cons_succ])) | (refine wpSched_skip (by rfl) ?_; try simp only [Act.put, List.setIfInBounds_toArray, List.set_cons_zero, List.set_cons_succ]))
    refine wpSched_done ?_
    have hBf : Below w.heap.size w w1 := (Below.refl _ _).drew.trans hb1
    clear g hj hb1 c1 c2 e17 e18
    go_wp2_with fail
    go_ret2
    exact ⟨rfl, hBf⟩
  · have hdd : decide (id = ask) = false := decide_eq_false hi
    rw [hdd, Bool.false_and]
    have hqq : (id == ask) = false := beq_eq_false_iff_ne.2 hi
    go_enter Tryz.func30, Tryz.ntmps30
    go_wp2_with fail
    refine wp_schedL (fun w' => w'.cell? ⟨q, 1, none⟩ = some (.int .i64 id) ∧ w'.cell? ⟨q, 2, none⟩ = some (.slice pa n pc) ∧ w'.cell? ⟨p, 17, none⟩ = some (.int .i64 ask) ∧ w'.cell? ⟨p, 18, none⟩ = some (.slice oa m oc)) [(0, true), (1, true), (2, true), (3, true), (4, true), (5, true), (6, true), (7, true), (8, true), (9, true), (10, true), (11, true), (12, true), (13, true), (14, true), (15, true), (16, true), (17, true), (18, true), (19, true), (20, false), (21, true), (22, true), (23, true)] (by kernel_rfl) (by kernel_rfl) rfl (by kernel_rfl) (by kernel_rfl) ⟨c1, c2, e17, e18⟩ (fun _ d _ _ _ h => by cases d <;> exact h) ?_
    simp only [schedOps, List.filterMap_cons, List.filterMap_nil, List.getElem?_toArray, List.getElem?_cons_zero, List.getElem?_cons_succ, Option.map_some]
    repeat (first | (refine' wpSched_take _ (by rfl) (fun wS hS => ?_) ?_; rotate_left; (focus (obtain ⟨k0, k1, k2, k3⟩ := hS; go_simp; first | done | rfl)); (try simp only [Act.put, List.setIfInBounds_toArray, List.set_cons_zero, List.set_cons_succ])) | (refine wpSched_skip (by rfl) ?_; try simp only [Act.put, List.setIfInBounds_toArray, List.set_cons_zero, List.set_cons_succ]))
    refine wpSched_run (fun K hK => ?_)
    go_wp2_with fail
    refine QRun_normal (hK.out _ _ ⟨c1, c2, e17, e18⟩ ?_)
    clear hK K
    repeat (first | (refine' wpSched_take _ (by rfl) (fun wS hS => ?_) ?_; rotate_left; (focus (obtain ⟨k0, k1, k2, k3⟩ := hS; go_simp; first | done | rfl)); (try simp only [Act.put, List.setIfInBounds_toArray, List.set_cons_zero, List.set_cons_succ])) | (refine wpSched_skip (by rfl) ?_; try simp only [Act.put, List.setIfInBounds_toArray, List.set_cons_zero, List.set_cons_succ]))
    refine wpSched_done ?_
    have hBf : Below w.heap.size w w.drew := (Below.refl _ _).drew
    clear hj c1 c2 e17 e18
    go_wp2_with fail
    go_ret2
    exact ⟨rfl, hBf⟩
end Go.Proofs.YtagnbdenecphcaaGreatDoor
/-! neg.event: a Configure-Nak or -Reject. -/
namespace Go.Proofs.YtagnbdenecphcaaGreatDoor
open Go.RowKit
set_option linter.unusedVariables false
set_option linter.unusedSimpArgs false
set_option maxRecDepth 100000 in
set_option maxHeartbeats 8000000 in
theorem event_stale (p t q : Nat) (o po ov : Value) (s : NegM) (r : ReplyM) (w : World) (h : NegBlk w p t o s) (hr : ReplyBlk w q po ov r) (hc : r.p.code = 3 ∨ r.p.code = 4) (hi : r.p.id ≠ s.asked) :
    Calls Tryz.prog 30 #[.pointer (some ⟨p, 0, none⟩), .pointer (some ⟨q, 0, none⟩)] w fun e w' => e = .returned (.tuple #[.int .i64 0, .bool false]) ∧ Below w.heap.size w w' := by
  obtain ⟨c0, c1, c2, c3, c4, c5, c6⟩ := hr.cells
  have e17 : w.cell? ⟨p, 17, none⟩ = some (.int .i64 s.asked) := h.cell 17
  obtain ⟨id, hid⟩ : ∃ x, r.p.id = x := ⟨_, rfl⟩
  obtain ⟨ask, hask⟩ : ∃ x, s.asked = x := ⟨_, rfl⟩
  obtain ⟨c, hcc⟩ : ∃ x, r.p.code = x := ⟨_, rfl⟩
  rw [hid] at c1 hi
  rw [hask] at e17 hi
  rw [hcc] at c0 hc
  have hqq : (id == ask) = false := beq_eq_false_iff_ne.2 hi
  have hqq2 : (id != ask) = true := by simp [hi]
  clear hid hask hcc h hr c2 c3 c4 c5 c6
  have hBf : Below w.heap.size w w.drew := (Below.refl _ _).drew
  rcases hc with rfl | rfl
  all_goals
    go_enter Tryz.func30, Tryz.ntmps30
    go_wp2_with fail
    refine wp_schedL (fun w' => w'.cell? ⟨q, 1, none⟩ = some (.int .i64 id) ∧ w'.cell? ⟨p, 17, none⟩ = some (.int .i64 ask)) [(0, true), (1, true), (2, true), (3, true), (4, true), (5, true), (6, true), (7, true), (8, true), (9, true)] (by kernel_rfl) (by kernel_rfl) rfl (by kernel_rfl) (by kernel_rfl) ⟨c1, e17⟩ (fun _ d _ _ _ h => by cases d <;> exact h) ?_
    simp only [schedOps, List.filterMap_cons, List.filterMap_nil, List.getElem?_toArray, List.getElem?_cons_zero, List.getElem?_cons_succ, Option.map_some]
    repeat (first | (refine' wpSched_take _ (by rfl) (fun wS hS => ?_) ?_; rotate_left; (focus (obtain ⟨k0, k1⟩ := hS; go_simp; first | done | rfl)); (try simp only [Act.put, List.setIfInBounds_toArray, List.set_cons_zero, List.set_cons_succ])) | (refine wpSched_skip (by rfl) ?_; try simp only [Act.put, List.setIfInBounds_toArray, List.set_cons_zero, List.set_cons_succ]))
    refine wpSched_done ?_
    clear c1 e17
    go_wp2_with fail
    go_ret2
    exact ⟨rfl, hBf⟩
set_option maxRecDepth 100000 in
set_option maxHeartbeats 8000000 in
theorem event_learn (p t q : Nat) (o po ov : Value) (s : NegM) (r : ReplyM) (w : World) (h : NegBlk w p t o s) (hm : mayM s.own = true) (hr : ReplyBlk w q po ov r) (hpo : OptsAt w po r.p.opts) (hqp : q ≠ p) (hc : r.p.code = 3 ∨ r.p.code = 4) (hi : r.p.id = s.asked) :
    Calls Tryz.prog 30 #[.pointer (some ⟨p, 0, none⟩), .pointer (some ⟨q, 0, none⟩)] w fun e w' => e = .returned (.tuple #[.int .i64 9, .bool true]) ∧ NegBlk w' p t o { s with own := (learnM s.own r.p.code r.p.opts).1 } ∧ Only (· = p) w w' := by
  have hj := plearn_any s.own r.p.code po r.p.opts w.drew.drew hm hc (hpo.below (Below.refl _ _).drew.drew)
  obtain ⟨pa, pc, rfl, hpc1, hpc2⟩ := SeqAt.form hpo
  obtain ⟨c0, c1, c2, c3, c4, c5, c6⟩ := hr.cells
  obtain ⟨e0, e1, e2, e3, e4, e5⟩ := h.owns
  have e17 : w.cell? ⟨p, 17, none⟩ = some (.int .i64 s.asked) := h.cell 17
  rw [hi] at c1
  obtain ⟨ask, hask⟩ : ∃ x, s.asked = x := ⟨_, rfl⟩
  rw [hask] at e17 c1
  obtain ⟨J, hJ⟩ : ∃ J, (learnM s.own r.p.code r.p.opts).1 = J := ⟨_, rfl⟩
  rw [hJ] at hj ⊢
  unfold linkCells at hj
  obtain ⟨own, hon⟩ : ∃ x, s.own = x := ⟨_, rfl⟩
  rw [hon] at hj e0 e1 e2 e3 e4 e5
  obtain ⟨n, hno⟩ : ∃ n, r.p.opts.length = n := ⟨_, rfl⟩
  rw [hno] at c2 hj
  obtain ⟨c, hcc⟩ : ∃ x, r.p.code = x := ⟨_, rfl⟩
  rw [hcc] at c0 hc hj
  have HN := Lib.hid h
  have hqq : (ask == ask) = true := by simp
  have hqq2 : (ask != ask) = false := by simp
  have hqp' : ¬ q = p := hqp
  have hpl := h.lt
  have hql := hr.lt
  clear hJ hon hno hm hpo hr h c3 c4 c5 c6 hcc hask hi hpc1
  rcases hc with rfl | rfl
  all_goals
    go_enter Tryz.func30, Tryz.ntmps30
    go_wp2_with fail
    refine wp_schedL (fun w' => w'.cell? ⟨q, 1, none⟩ = some (.int .i64 ask) ∧ w'.cell? ⟨p, 17, none⟩ = some (.int .i64 ask)) [(0, true), (1, true), (2, true), (3, true), (4, true), (5, true), (6, true), (7, true), (8, true), (9, true)] (by kernel_rfl) (by kernel_rfl) rfl (by kernel_rfl) (by kernel_rfl) ⟨c1, e17⟩ (fun _ d _ _ _ h => by cases d <;> exact h) ?_
    simp only [schedOps, List.filterMap_cons, List.filterMap_nil, List.getElem?_toArray, List.getElem?_cons_zero, List.getElem?_cons_succ, Option.map_some]
    repeat (first | (refine' wpSched_take _ (by rfl) (fun wS hS => ?_) ?_; rotate_left; (focus (obtain ⟨k0, k1⟩ := hS; go_simp; first | done | rfl)); (try simp only [Act.put, List.setIfInBounds_toArray, List.set_cons_zero, List.set_cons_succ])) | (refine wpSched_skip (by rfl) ?_; try simp only [Act.put, List.setIfInBounds_toArray, List.set_cons_zero, List.set_cons_succ]))
    refine wpSched_done ?_
    clear c1 e17
    go_wp2_with fail
    refine wp_schedS (fun w' => w'.cell? ⟨p, 4, none⟩ = some (.int .i64 own.mru) ∧ w'.cell? ⟨p, 4 + 1, none⟩ = some (.int .i64 own.magic) ∧ w'.cell? ⟨p, 4 + 2, none⟩ = some (.int .i64 own.mrru) ∧ w'.cell? ⟨p, 4 + 3, none⟩ = some (.bool own.short) ∧ w'.cell? ⟨p, 4 + 4, none⟩ = some (.string own.disc) ∧ w'.cell? ⟨p, 4 + 5, none⟩ = some (.int .i64 own.num) ∧ w'.cell? ⟨q, 2, none⟩ = some (.slice pa n pc) ∧ w'.cell? ⟨q, 0, none⟩ = some (.int .i64 _)) 21 [(0, 1), (1, 1), (2, 1), (3, 1), (4, 1), (5, 1), (6, 1), (7, 1), (8, 1), (9, 1), (10, 1), (11, 1), (12, 1), (13, 1), (14, 1), (15, 0), (16, 1), (17, 1), (18, 2), (19, 2), (20, 2), (21, 0)] (by kernel_rfl) (by kernel_rfl) rfl (by kernel_rfl) (by kernel_rfl) ⟨e0, e1, e2, e3, e4, e5, c2, c0⟩ (fun _ d _ _ _ h => by cases d <;> exact h) ?_
    simp only [schedOpsN, List.filterMap_cons, List.filterMap_nil, List.getElem?_toArray, List.getElem?_cons_zero, List.getElem?_cons_succ, Option.map_some]
    repeat (first | (refine' wpS_take _ (by rfl) (fun wS hS => ?_) ?_; rotate_left; (focus (obtain ⟨k0, k1, k2, k3, k4, k5, k6, k7⟩ := hS; go_simp; first | done | rfl)); (try simp only [Act.put, List.setIfInBounds_toArray, List.set_cons_zero, List.set_cons_succ])) | (refine' wpS_pure _ (by rfl) (fun wS => ?_) ?_; rotate_left; (focus (go_simp; first | done | rfl)); (try simp only [Act.put, List.setIfInBounds_toArray, List.set_cons_zero, List.set_cons_succ])) | (refine wpS_skip (by rfl) ?_; try simp only [Act.put, List.setIfInBounds_toArray, List.set_cons_zero, List.set_cons_succ]))
    refine wpS_run (fun K hK => ?_)
    go_wp2_with (go_at_call 51; refine hj.mono ?_; rintro e w1 ⟨rfl, hb1⟩)
    have g := fun {a : Addr} {v : Value} (h : w.cell? a = some v) => fsm_below_cell (W := w.drew.drew) hb1 h
    have j6 := g c2; have j7 := g c0
    refine QRun_normal (hK.out _ _ ⟨g e0, g e1, g e2, g e3, g e4, g e5, j6, j7⟩ ?_)
    clear hK K
    repeat (first | (refine' wpS_take _ (by rfl) (fun wS hS => ?_) ?_; rotate_left; (focus (obtain ⟨k0, k1, k2, k3, k4, k5, k6, k7⟩ := hS; go_simp; first | done | rfl)); (try simp only [Act.put, List.setIfInBounds_toArray, List.set_cons_zero, List.set_cons_succ])) | (refine' wpS_pure _ (by rfl) (fun wS => ?_) ?_; rotate_left; (focus (go_simp; first | done | rfl)); (try simp only [Act.put, List.setIfInBounds_toArray, List.set_cons_zero, List.set_cons_succ])) | (refine wpS_skip (by rfl) ?_; try simp only [Act.put, List.setIfInBounds_toArray, List.set_cons_zero, List.set_cons_succ]))
    have hn1 : NegBlk w1 p t o s := NegBlk.below (w := w.drew.drew) HN.out hb1
    obtain ⟨x0, x1, x2, x3, x4, x5⟩ := hn1.owns
    have f0 := hn1.frozen 4
    have f1 := hn1.frozen (4 + 1)
    have f2 := hn1.frozen (4 + 2)
    have f3 := hn1.frozen (4 + 3)
    have f4 := hn1.frozen (4 + 4)
    have f5 := hn1.frozen (4 + 5)
    have hsL := setLink_own hn1 J
    have hOL : Only (· = p) w (setLink w1 p 4 J) := (((Only.refl (· = p) w).drew.drew).then (w1 := w.drew.drew) hb1).trans (setLink_only w1 p 4 J)
    have hW2 : (((((w1.setCell ⟨p, 4, none⟩ (.int .i64 J.mru)).setCell ⟨p, 5, none⟩ (.int .i64 J.magic)).setCell ⟨p, 6, none⟩ (.int .i64 J.mrru)).setCell ⟨p, 7, none⟩ (.bool J.short)).setCell ⟨p, 8, none⟩ (.string J.disc)).setCell ⟨p, 9, none⟩ (.int .i64 J.num) = setLink w1 p 4 J := rfl
    clear hj hb1 g e0 e1 e2 e3 e4 e5 c2 c0 j6 j7 hn1
    refine wpS_last (fun K hK => ?_)
    go_wp2_with fail
    refine QRun_normal (hK.out _ _ ?_)
    clear hK K
    go_wp2_with fail
    go_ret2
    exact ⟨rfl, hsL, hOL⟩
end Go.Proofs.YtagnbdenecphcaaGreatDoor
/-! neg.event joined; neg.Take. -/
namespace Go.Proofs.YtagnbdenecphcaaGreatDoor
open Go.RowKit
set_option linter.unusedVariables false
set_option linter.unusedSimpArgs false
theorem opts_short {os : List OptM} (h : (optsM os).2 = 0) : os.length ≤ 1024 := by
  have hle := optsM_le os
  have e : optsM os = (optsTo os os.length, 0) := by
    unfold optsM at h ⊢
    split at h
    · cases h
    · split at h
      · cases h
      · rename_i h1 h2; rw [if_neg h1, if_neg h2]
  rw [e] at hle
  have h2 : ∀ l : List OptM, 2 * l.length ≤ (l.flatMap optB).length := by
    intro l
    induction l with
    | nil => simp
    | cons a l ih =>
      rw [List.flatMap_cons, List.length_append, optBP_len, List.length_cons]; omega
  have h3 := h2 os
  unfold optsTo at hle
  rw [List.take_length] at hle
  dsimp only at hle
  omega
theorem judge_len (own : LinkM) (os : List OptM) : (judgeM own os).2.1.length ≤ os.length := by
  unfold judgeM
  split
  · simp
  split
  · unfold badsTo
    exact Nat.le_trans (List.length_filterMap_le _ _) (by simp)
  split
  · unfold bettersTo
    exact Nat.le_trans (List.length_filterMap_le _ _) (by simp)
  · exact Nat.le_refl _
theorem eventM_os (s : NegM) (p : PacketM) : (eventM s p).1.os = s.os := by
  unfold eventM
  split
  · rfl
  split
  · rfl
  split
  · split <;> rfl
  · rfl
theorem event_any (p t q : Nat) (o po : Value) (s : NegM) (k : PacketM) (w : World) (h : NegBlk w p t o s) (hos : OptsAt w o s.os) (hg : GoodM s) (hop : ∀ b, o.ownBlock = some b → b ≠ p) (hr : RepAt w p q po (.slice none 0 0) ⟨k, 0, 0, []⟩) (hpq : po.ownBlock ≠ some q) (hn : k.opts.length ≤ 1000000) :
    Calls Tryz.prog 30 #[.pointer (some ⟨p, 0, none⟩), .pointer (some ⟨q, 0, none⟩)] w fun e w' => ∃ n b ov' r' s', e = .returned (.tuple #[.int .i64 n, .bool b]) ∧ eventM s k = (s', r', if b then some n else none) ∧ NegBlk w' p t o s' ∧ RepAt w' p q po ov' r' ∧ ov'.ownBlock ≠ some q ∧ Only (fun i => i = p ∨ i = q) w w' := by
  have hpl := h.lt
  have hql := hr.blk.lt
  by_cases h1 : k.code = 1
  · refine (event_req p t q o po _ s _ w h hg.may hr.blk hr.opts hn hr.qp h1).mono ?_
    rintro e w' ⟨ov', rfl, hb, hov, ho⟩
    have hnq : ∀ i, ov'.ownBlock = some i → w.heap.size ≤ i := hov.block
    refine ⟨_, true, ov', _, s, rfl, ?_, ho.heap h (fun e => hr.qp e.symm), ⟨hb, SeqAt.only hr.opts ho (fun i hi e => hpq (by rw [hi, e])), hov.at, ?_, hr.qp, hr.pop, fun i hi e => by have := hnq i hi; omega, hr.size⟩, fun e => by have := hnq q e; omega, ho.mono fun i _ e => .inr e⟩
    · unfold eventM
      rw [if_pos h1]
      rfl
    · exact Nat.le_trans (judge_len s.own k.opts) hn
  by_cases h2 : k.code = 2
  · refine (event_ack p t q o po _ s _ w h hos hr.blk hr.opts h2).mono ?_
    rintro e w' ⟨rfl, hb⟩
    refine ⟨8, _, .slice none 0 0, ⟨k, 0, 0, []⟩, s, rfl, ?_, h.below hb, hr.below hb, (fun e => by cases e), Only.ofBelow hb⟩
    unfold eventM
    rw [if_neg h1, if_pos h2]
    by_cases ha : k.id = s.asked ∧ k.opts = s.os
    · rw [if_pos ha, decide_eq_true ha.1, decide_eq_true ha.2]; rfl
    · rw [if_neg ha]
      by_cases hb1 : k.id = s.asked
      · have hb2 : ¬ k.opts = s.os := fun e => ha ⟨hb1, e⟩
        rw [decide_eq_false hb2, Bool.and_false]; rfl
      · rw [decide_eq_false hb1, Bool.false_and]; rfl
  by_cases h34 : k.code = 3 ∨ k.code = 4
  · by_cases hi : k.id = s.asked
    · refine (event_learn p t q o po _ s _ w h hg.may hr.blk hr.opts hr.qp h34 hi).mono ?_
      rintro e w' ⟨rfl, hb, ho⟩
      refine ⟨9, true, .slice none 0 0, ⟨k, 0, 0, []⟩, _, rfl, ?_, hb, hr.only ho, (fun e => by cases e), ho.mono fun i _ e => .inl e⟩
      unfold eventM
      rw [if_neg h1, if_neg h2, if_pos h34, if_pos hi]
      rfl
    · refine (event_stale p t q o po _ s _ w h hr.blk h34 hi).mono ?_
      rintro e w' ⟨rfl, hb⟩
      refine ⟨0, false, .slice none 0 0, ⟨k, 0, 0, []⟩, s, rfl, ?_, h.below hb, hr.below hb, (fun e => by cases e), Only.ofBelow hb⟩
      unfold eventM
      rw [if_neg h1, if_neg h2, if_pos h34, if_neg hi]
      rfl
  · refine (event_plain p q po _ _ w hr.blk ⟨h1, h2, fun e => h34 (.inl e), fun e => h34 (.inr e)⟩).mono ?_
    rintro e w' ⟨rfl, rfl⟩
    refine ⟨_, true, .slice none 0 0, ⟨k, 0, 0, []⟩, s, rfl, ?_, h, hr, (fun e => by cases e), Only.refl _ _⟩
    unfold eventM
    rw [if_neg h1, if_neg h2, if_neg h34]
    rfl
set_option maxRecDepth 100000 in
set_option maxHeartbeats 8000000 in
theorem take_form (p : Nat) (v : Value) (k : PacketM) (w : World) (hv : OptsAt w v k.opts) (hsz : k.data.size ≤ 4611686018427387904) (he : (controlM k).2 ≠ 0) :
    Calls Tryz.prog 13 #[.pointer (some ⟨p, 0, none⟩), .agg (packCells k v)] w fun e w' => e = .returned (.tuple #[.slice none 0 0, .int .i64 1500]) ∧ Below w.heap.size w w' := by
  have hct := fun W (hW : OptsAt W v k.opts) => cput_any v k W hW hsz
  obtain ⟨er, her⟩ : ∃ x, (controlM k).2 = x := ⟨_, rfl⟩
  rw [her] at hct he
  obtain ⟨bs, hbs⟩ : ∃ x, bytesOf (controlM k).1 = x := ⟨_, rfl⟩
  rw [hbs] at hct
  have hd : (er == 0) = false := beq_eq_false_iff_ne.2 he
  have hd2 : (er != 0) = true := by simp [he]
  have hB : ∀ ob : Obj, Below w.heap.size w (w.alloc ob) := fun ob => allocB (Below.refl _ _) ob
  obtain ⟨va, vc, rfl, hvc1, hvc2⟩ := SeqAt.form hv
  have hct1 := fun ob => hct _ (hv.below (hB ob))
  unfold packCells
  clear her hbs hct hv
  go_enter Tryz.func13, Tryz.ntmps13
  go_wp2_with fail
  refine (hct1 _).mono ?_
  rintro e w1 ⟨rfl, hb1⟩
  have hBf := seqB (hB _) hb1
  clear hct1 hB hb1
  go_wp2_with fail
  go_ret2
  exact ⟨rfl, hBf⟩
theorem run_state_ne {x y : Int} (h : ¬ (x = y)) : (x == y) = false := beq_eq_false_iff_ne.2 h
set_option maxRecDepth 100000 in
set_option maxHeartbeats 8000000 in
theorem take_never (p t : Nat) (o v : Value) (s : NegM) (k : PacketM) (w : World) (h : NegBlk w p t o s) (hv : OptsAt w v k.opts) (hsz : k.data.size ≤ 4611686018427387904) (he : (controlM k).2 = 0) (hs : s.state = 0 ∨ s.state = 1) :
    Calls Tryz.prog 13 #[.pointer (some ⟨p, 0, none⟩), .agg (packCells k v)] w fun e w' => e = .returned (.tuple #[.slice none 0 0, .int .i64 1501]) ∧ Below w.heap.size w w' := by
  have hct := fun W (hW : OptsAt W v k.opts) => cput_any v k W hW hsz
  rw [he] at hct
  obtain ⟨bs, hbs⟩ : ∃ x, bytesOf (controlM k).1 = x := ⟨_, rfl⟩
  rw [hbs] at hct
  have hB : ∀ ob : Obj, Below w.heap.size w (w.alloc ob) := fun ob => allocB (Below.refl _ _) ob
  obtain ⟨va, vc, rfl, hvc1, hvc2⟩ := SeqAt.form hv
  have hct1 := fun ob => hct _ (hv.below (hB ob))
  have c1 : w.cell? ⟨p, 1, none⟩ = some (.int .i64 s.state) := h.cell 1
  obtain ⟨st, hst⟩ : ∃ x, s.state = x := ⟨_, rfl⟩
  rw [hst] at c1 hs
  unfold packCells
  clear hbs hct hv hst h he
  rcases hs with rfl | rfl
  all_goals
    go_enter Tryz.func13, Tryz.ntmps13
    go_wp2_with fail
    refine (hct1 _).mono ?_
    rintro e w1 ⟨rfl, hb1⟩
    have hBf := seqB (hB _) hb1
    have d1 := fsm_below_cell hb1 (fsm_below_cell (hB _) c1)
    clear hct1 hB hb1 c1
    go_wp2_with fail
    go_ret2
    exact ⟨rfl, hBf⟩
theorem packet_blk {w : World} {x0 x1 x2 x3 : Value} : (w.alloc (.cells #[x0, x1, x2, x3] 36)).heap[w.heap.size]? = some (.cells #[x0, x1, x2, x3] 36 (0, 0)) := heap_alloc_last _ _
set_option maxRecDepth 100000 in
set_option maxHeartbeats 16000000 in
theorem take_good (p t : Nat) (o v : Value) (s : NegM) (k : PacketM) (ml : Int) (w : World) (h : Side w p t o s) (hm : MaxLenIs w ml) (hv : OptsAt w v k.opts) (hsz : k.data.size ≤ 4611686018427387904) (he : (controlM k).2 = 0) (hs : ¬ (s.state = 0 ∨ s.state = 1)) :
    Calls Tryz.prog 13 #[.pointer (some ⟨p, 0, none⟩), .agg (packCells k v)] w (ActPost p t o s (takeM s k) ml w) := by
  have hct := fun W (hW : OptsAt W v k.opts) => cput_any v k W hW hsz
  have hln : k.opts.length ≤ 1024 := by
    refine opts_short ?_
    cases hz : decide ((optsM k.opts).2 = 0) with
    | true => exact of_decide_eq_true hz
    | false =>
      exfalso
      have hz2 := of_decide_eq_false hz
      unfold controlM at he
      split at he
      · cases he
      · rw [if_pos (.inl hz2)] at he
        cases he
  rw [he] at hct
  obtain ⟨bs, hbs⟩ : ∃ x, bytesOf (controlM k).1 = x := ⟨_, rfl⟩
  rw [hbs] at hct
  have hB : ∀ ob : Obj, Below w.heap.size w (w.alloc ob) := fun ob => allocB (Below.refl _ _) ob
  obtain ⟨va, vc, rfl, hvc1, hvc2⟩ := SeqAt.form hv
  have hct1 := fun ob => hct _ (hv.below (hB ob))
  have c1 : w.cell? ⟨p, 1, none⟩ = some (.int .i64 s.state) := h.blk.cell 1
  have hpl := h.blk.lt
  have HT : ∀ (s' : NegM) (r' : ReplyM) (n : Int) (b : Bool), eventM s k = (s', r', if b = true then some n else none) → takeM s k = if b = true then runM s' n r' else (s', [], 0) := by
    intro s' r' n b hev
    cases b with
    | true => exact take_some he hs hev
    | false => exact take_none he hs hev
  have HT := Lib.hid HT
  have HS := Lib.hid h
  have HM := Lib.hid hm
  obtain ⟨st, hst⟩ : ∃ x, s.state = x := ⟨_, rfl⟩
  rw [hst] at c1 hs
  have q0 : (st == 0) = false := run_state_ne (fun e => hs (.inl e))
  have q1 : (st == 1) = false := run_state_ne (fun e => hs (.inr e))
  obtain ⟨n, hn⟩ : ∃ n, k.opts.length = n := ⟨_, rfl⟩
  have HN := Lib.hid hn
  have HV := Lib.hid hv
  unfold packCells
  rw [hn] at hct1 hvc1 hln ⊢
  clear hbs hct hv hst h hm he hs hn
  go_enter Tryz.func13, Tryz.ntmps13
  go_wp2_with fail
  refine (hct1 _).mono ?_
  rintro e w1 ⟨rfl, hb1⟩
  have hB1 := seqB (hB _) hb1
  have d1 := fsm_below_cell hb1 (fsm_below_cell (hB _) c1)
  have hh1 := below_of hb1 packet_blk
  have hv1 : OptsAt w1 (.slice va n vc) k.opts := by have := (HV.out.below (hB _)).below hb1; rw [HN.out] at this; exact this
  have hcl := clone_any _ _ w1 hv1 (by rw [HN.out]; omega)
  obtain ⟨z0, z1, z2, z3⟩ := packet_cells hh1
  clear hct1 hB hb1 c1 hv1
  go_wp2_with fail
  refine hcl.mono ?_
  rintro e w2 ⟨⟨v', rfl, hown2⟩, hb2⟩
  obtain ⟨ca, cc, rfl, hcc1, hcc2⟩ := SeqAt.form hown2.at
  rw [HN.out] at hown2 hcc1 ⊢
  have hh2 := below_of hb2 hh1
  have hB2 := seqB hB1 hb2
  have hw2 : w.heap.size < w2.heap.size := (Array.getElem?_eq_some_iff.1 hh2).1
  have hw1 : w.heap.size < w1.heap.size := (Array.getElem?_eq_some_iff.1 hh1).1
  obtain ⟨y0, y1, y2, y3⟩ := packet_cells hh2
  have f2 := packet_frozen hh2 2
  clear hcl z0 z1 z2 z3 d1 hh1 hb2
  have hS3 := only_set w2 w.heap.size 2 (.slice ca n cc)
  have hh3 : (w2.setCell ⟨w.heap.size, 2, none⟩ (.slice ca n cc)).heap[w.heap.size]? = some (.cells #[.int .i64 k.code, .int .i64 k.id, .slice ca n cc, .string k.data] 36 (0, 0)) := heap_setCell_same w2 w.heap.size 2 _ _ _ hh2
  obtain ⟨x0, x1, x2, x3⟩ := packet_cells hh3
  have hB3 : Below w.heap.size w (w2.setCell ⟨w.heap.size, 2, none⟩ (.slice ca n cc)) := ((Only.ofBelow (S := (· = w.heap.size)) hB2).trans hS3).below (Nat.le_refl _) (fun i e => by omega)
  have ho3 : OwnE optE (w2.setCell ⟨w.heap.size, 2, none⟩ (.slice ca n cc)) w1.heap.size (.slice ca n cc) k.opts := hown2.only hS3 (fun i hi e => by have := hown2.block i hi; omega)
  have hq3 : (w2.setCell ⟨w.heap.size, 2, none⟩ (.slice ca n cc)).heap.size = w2.heap.size := by simp [World.setCell]
  obtain ⟨W3, hW3⟩ : ∃ W3, w2.setCell ⟨w.heap.size, 2, none⟩ (.slice ca n cc) = W3 := ⟨_, rfl⟩
  rw [hW3] at hS3 hh3 x0 x1 x2 x3 hB3 ho3 hq3
  have HW := Lib.hid hW3
  have hbx : Below W3.heap.size W3 (W3.alloc (.cells #[.int .i64 k.code, .int .i64 k.id, .slice ca n cc, .string k.data, .int .i64 0, .int .i64 0, .slice none 0 0] 65)) := allocB (Below.refl _ _) _
  have hqx : (W3.alloc (.cells #[.int .i64 k.code, .int .i64 k.id, .slice ca n cc, .string k.data, .int .i64 0, .int .i64 0, .slice none 0 0] 65)).heap[w2.heap.size]? = some (.cells #[.int .i64 k.code, .int .i64 k.id, .slice ca n cc, .string k.data, .int .i64 0, .int .i64 0, .slice none 0 0] 65 (0, 0)) := by
    rw [← hq3]; exact heap_alloc_last _ _
  have hside4 : Side (W3.alloc (.cells #[.int .i64 k.code, .int .i64 k.id, .slice ca n cc, .string k.data, .int .i64 0, .int .i64 0, .slice none 0 0] 65)) p t o s := (HS.out.below hB3).below hbx
  have hm4 : MaxLenIs (W3.alloc (.cells #[.int .i64 k.code, .int .i64 k.id, .slice ca n cc, .string k.data, .int .i64 0, .int .i64 0, .slice none 0 0] 65)) ml := (HM.out.below hB3).below hbx
  have hO4 : Only (· = p) w (W3.alloc (.cells #[.int .i64 k.code, .int .i64 k.id, .slice ca n cc, .string k.data, .int .i64 0, .int .i64 0, .slice none 0 0] 65)) := (Only.ofBelow hB3).alloc _
  have hcb : ∀ i, (Value.slice ca n cc).ownBlock = some i → w1.heap.size ≤ i ∧ i < w2.heap.size := fun i hi => ⟨ho3.block i hi, by have := ho3.lt i hi; omega⟩
  have hrep : RepAt (W3.alloc (.cells #[.int .i64 k.code, .int .i64 k.id, .slice ca n cc, .string k.data, .int .i64 0, .int .i64 0, .slice none 0 0] 65)) p w2.heap.size (.slice ca n cc) (.slice none 0 0) ⟨k, 0, 0, []⟩ :=
    ⟨hqx, (ho3.at).below hbx, SeqAt.nil _ _, by simp, by omega, fun i hi e => by have := hcb i hi; omega, (fun i hi => by cases hi), hsz⟩
  have hev := event_any p t w2.heap.size o (.slice ca n cc) s k _ hside4.blk hside4.os hside4.good hside4.op hrep (fun e => by have := hcb _ e; omega) (by rw [HN.out]; omega)
  obtain ⟨W4, hW4⟩ : ∃ W4, W3.alloc (.cells #[.int .i64 k.code, .int .i64 k.id, .slice ca n cc, .string k.data, .int .i64 0, .int .i64 0, .slice none 0 0] 65) = W4 := ⟨_, rfl⟩
  rw [hW4] at hev hside4 hm4 hO4
  have hfin : ∀ (n' : Int) (b : Bool) (ov' : Value) (r' : ReplyM) (s' : NegM) (w5 : World), eventM s k = (s', r', if b = true then some n' else none) → NegBlk w5 p t o s' → Only (fun i => i = p ∨ i = w2.heap.size) W4 w5 →
      GoodM s' ∧ TableAt w5 t ∧ MaxLenIs w5 ml ∧ Only (· = p) w w5 ∧ s'.os = s.os ∧ Side w5 p t o s' := by
    intro n' b ov' r' s' w5 hE hn5 ho5
    have hO5 : Only (· = p) w w5 := hO4.and ho5 (fun i hi => hi.imp id fun e => by omega)
    have e1 : s' = (eventM s k).1 := by rw [hE]
    have e2 : s'.os = s.os := by rw [e1, eventM_os]
    have g : GoodM s' := by rw [e1]; exact good_event HS.out.good k
    have tb : TableAt w5 t := fun v s hv hs => hO5.cell (HS.out.tab v s hv hs) HS.out.tp
    exact ⟨g, tb, maxLen_only HM.out hO5 (fun e => HS.out.mlp e.symm), hO5, e2, ⟨hn5, tb, by rw [e2]; exact SeqAt.only HS.out.os hO5 HS.out.op, HS.out.tp, HS.out.op, g, HS.out.mlp⟩⟩
  have HF := Lib.hid hfin
  have HC := Lib.hid hcb
  clear hfin hcb hside4 hm4 hO4 hrep hqx hbx hS3 hh3 hB3 ho3 hh2 hB2 hB1 hown2
  go_wp2_with fail
  refine hev.mono ?_
  rintro e w5 ⟨n', b, ov', r', s', rfl, hE, hn5, hr5, hovq, ho5⟩
  obtain ⟨f1, f3, f4, f5, f6, f7⟩ := HF.out n' b ov' r' s' w5 hE hn5 ho5
  have hT := HT.out s' r' n' b hE
  have HT5 := Lib.hid hT
  have HE := Lib.hid hE
  clear hev hT hE hW4 hW3 HT HF
  cases b with
  | false =>
    have HT6 : Hid (takeM s k = (s', [], 0)) := Lib.hid (HT5.out.trans (by simp))
    clear HT5 HE
    go_wp2_with fail
    go_ret2
    rw [HT6.out]
    exact ⟨.slice none 0 0, [], o, rfl, ⟨OwnE.nil _ _ _, fun x hx => absurd hx (by simp)⟩, rfl, f7, ⟨.inl ⟨rfl, f6⟩, PSep.nil _⟩, f5, f4⟩
  | true =>
    have HT6 : Hid (takeM s k = runM s' n' r') := Lib.hid (HT5.out.trans (by simp))
    clear HT5 HE
    have hdo := ndo_any p t w2.heap.size o (.slice ca n cc) ov' s' n' ml r' w5 hn5 f1 f3 f4 hr5 ⟨fun e => by have := HC.out _ e; omega, hovq⟩ (fun k hk => Nat.lt_of_lt_of_le (HS.out.os.lt k hk) f5.size)
    have HG := Lib.hid (good_run f1 n' r')
    clear ho5 hr5 hn5
    have hq2 : w.heap.size ≤ w2.heap.size := by omega
    go_wp2_with fail
    refine hdo.mono ?_
    rintro e w6 ⟨v6, l6, o6, rfl, hl6, hmap6, hn6, ⟨hk6, hps6⟩, ho6⟩
    obtain ⟨k1, k2, k3, k4, k5⟩ := run_side HS.out HM.out f5 hq2 hn6 HG.out hk6 f6 ho6 hl6
    clear hdo hl6 hn6 hk6 ho6 f1 f3 f4 f5 f6 f7
    go_wp2_with fail
    go_ret2
    rw [HT6.out]
    exact ⟨v6, l6, o6, rfl, k1, hmap6, k2, ⟨k3, hps6⟩, k4, k5⟩
theorem nTake_any (p t : Nat) (o v : Value) (s : NegM) (k : PacketM) (ml : Int) (w : World) (h : Side w p t o s) (hm : MaxLenIs w ml) (hv : OptsAt w v k.opts) (hsz : k.data.size ≤ 4611686018427387904) :
    Calls Tryz.prog 13 #[.pointer (some ⟨p, 0, none⟩), .agg (packCells k v)] w (ActPost p t o s (takeM s k) ml w) := by
  by_cases hc : (controlM k).2 = 0
  · by_cases hs : s.state = 0 ∨ s.state = 1
    · have e : takeM s k = (s, [], 1501) := by unfold takeM; rw [if_neg (by omega), if_pos hs]
      rw [e]
      refine (take_never p t o v s k w h.blk hv hsz hc hs).mono ?_
      rintro e w' ⟨rfl, hb⟩
      exact ActPost.stay h hm hb
    · exact take_good p t o v s k ml w h hm hv hsz hc hs
  · have e : takeM s k = (s, [], 1500) := by unfold takeM; rw [if_pos hc]
    rw [e]
    refine (take_form p v k w hv hsz hc).mono ?_
    rintro e w' ⟨rfl, hb⟩
    exact ActPost.stay h hm hb
end Go.Proofs.YtagnbdenecphcaaGreatDoor
