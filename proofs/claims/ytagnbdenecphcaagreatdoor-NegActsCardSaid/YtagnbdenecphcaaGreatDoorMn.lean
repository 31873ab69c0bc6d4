/- send: act 8, a Configure-Ack. send: act 12, a Code-Reject. send, all acts; slices of packets. -/
import Derived.Test.YtagnbdenecphcaaGreatDoorMm
import Derived.Test.YtagnbdenecphcaaGreatDoorMl
/-! send: act 8, a Configure-Ack. -/
namespace Go.Proofs.YtagnbdenecphcaaGreatDoor
open Go.RowKit
set_option linter.unusedVariables false
set_option linter.unusedSimpArgs false
/-- the six cells of a link laid at place i of block p -/
def setLink (w : World) (p i : Nat) (l : LinkM) : World :=
  (((((w.setCell ⟨p, i, none⟩ (.int .i64 l.mru)).setCell ⟨p, i + 1, none⟩ (.int .i64 l.magic)).setCell ⟨p, i + 2, none⟩ (.int .i64 l.mrru)).setCell ⟨p, i + 3, none⟩ (.bool l.short)).setCell ⟨p, i + 4, none⟩ (.string l.disc)).setCell ⟨p, i + 5, none⟩ (.int .i64 l.num)
theorem setLink_only (w : World) (p i : Nat) (l : LinkM) : Only (· = p) w (setLink w p i l) := by
  have hset : ∀ (V : World), Only (· = p) w V → ∀ (i : Nat) (y : Value), Only (· = p) w (V.setCell ⟨p, i, none⟩ y) := fun V h i y => h.set (a := ⟨p, i, none⟩) (.inl rfl) y
  exact hset _ (hset _ (hset _ (hset _ (hset _ (hset _ (Only.refl _ w) _ _) _ _) _ _) _ _) _ _) _ _
theorem setLink_other {w : World} {p t : Nat} {o : Value} {s : NegM} (h : NegBlk w p t o s) (l : LinkM) : NegBlk (setLink w p 10 l) p t o { s with other := l } := by
  have h1 := h.set 10 (.int .i64 l.mru) o { s with other := { s.other with mru := l.mru } } rfl
  have h2 := h1.set 11 (.int .i64 l.magic) o { s with other := { s.other with mru := l.mru, magic := l.magic } } rfl
  have h3 := h2.set 12 (.int .i64 l.mrru) o { s with other := { s.other with mru := l.mru, magic := l.magic, mrru := l.mrru } } rfl
  have h4 := h3.set 13 (.bool l.short) o { s with other := { s.other with mru := l.mru, magic := l.magic, mrru := l.mrru, short := l.short } } rfl
  have h5 := h4.set 14 (.string l.disc) o { s with other := { s.other with mru := l.mru, magic := l.magic, mrru := l.mrru, short := l.short, disc := l.disc } } rfl
  exact h5.set 15 (.int .i64 l.num) o { s with other := l } rfl
theorem setLink_own {w : World} {p t : Nat} {o : Value} {s : NegM} (h : NegBlk w p t o s) (l : LinkM) : NegBlk (setLink w p 4 l) p t o { s with own := l } := by
  have h1 := h.set 4 (.int .i64 l.mru) o { s with own := { s.own with mru := l.mru } } rfl
  have h2 := h1.set 5 (.int .i64 l.magic) o { s with own := { s.own with mru := l.mru, magic := l.magic } } rfl
  have h3 := h2.set 6 (.int .i64 l.mrru) o { s with own := { s.own with mru := l.mru, magic := l.magic, mrru := l.mrru } } rfl
  have h4 := h3.set 7 (.bool l.short) o { s with own := { s.own with mru := l.mru, magic := l.magic, mrru := l.mrru, short := l.short } } rfl
  have h5 := h4.set 8 (.string l.disc) o { s with own := { s.own with mru := l.mru, magic := l.magic, mrru := l.mrru, short := l.short, disc := l.disc } } rfl
  exact h5.set 9 (.int .i64 l.num) o { s with own := l } rfl
theorem NegBlk.others {w : World} {p t : Nat} {o : Value} {s : NegM} (h : NegBlk w p t o s) :
    w.cell? ⟨p, 10, none⟩ = some (.int .i64 s.other.mru) ∧ w.cell? ⟨p, 10 + 1, none⟩ = some (.int .i64 s.other.magic) ∧ w.cell? ⟨p, 10 + 2, none⟩ = some (.int .i64 s.other.mrru) ∧ w.cell? ⟨p, 10 + 3, none⟩ = some (.bool s.other.short) ∧ w.cell? ⟨p, 10 + 4, none⟩ = some (.string s.other.disc) ∧ w.cell? ⟨p, 10 + 5, none⟩ = some (.int .i64 s.other.num) :=
  ⟨h.cell 10, h.cell 11, h.cell 12, h.cell 13, h.cell 14, h.cell 15⟩
theorem NegBlk.owns {w : World} {p t : Nat} {o : Value} {s : NegM} (h : NegBlk w p t o s) :
    w.cell? ⟨p, 4, none⟩ = some (.int .i64 s.own.mru) ∧ w.cell? ⟨p, 4 + 1, none⟩ = some (.int .i64 s.own.magic) ∧ w.cell? ⟨p, 4 + 2, none⟩ = some (.int .i64 s.own.mrru) ∧ w.cell? ⟨p, 4 + 3, none⟩ = some (.bool s.own.short) ∧ w.cell? ⟨p, 4 + 4, none⟩ = some (.string s.own.disc) ∧ w.cell? ⟨p, 4 + 5, none⟩ = some (.int .i64 s.own.num) :=
  ⟨h.cell 4, h.cell 5, h.cell 6, h.cell 7, h.cell 8, h.cell 9⟩
set_option maxRecDepth 100000 in
set_option maxHeartbeats 8000000 in
theorem send_ack (p t q : Nat) (o po ov : Value) (s : NegM) (r : ReplyM) (w : World) (h : NegBlk w p t o s) (hr : ReplyBlk w q po ov r) (hov : OptsAt w ov r.os) (hL : r.os.length ≤ 1000000) (hqp : q ≠ p) (hop : ∀ k, ov.ownBlock = some k → k ≠ p) :
    Calls Tryz.prog 39 #[.pointer (some ⟨p, 0, none⟩), .int .i64 8, .pointer (some ⟨q, 0, none⟩)] w fun e w' => ∃ v, e = .returned (.tuple #[.agg #[.int .i64 2, .int .i64 r.p.id, v, .string ⟨#[]⟩], .bool true]) ∧ OwnE optE w' w.heap.size v r.os ∧ NegBlk w' p t o { s with other := (takenM r.os).1 } ∧ Only (· = p) w w' := by
  have hB : ∀ ob : Obj, Below w.heap.size w (w.alloc ob) := fun ob => allocB (Below.refl _ _) ob
  have hql := hr.lt
  have hpl := h.lt
  obtain ⟨oa, oc, rfl, hoc1, hoc2⟩ := SeqAt.form hov
  obtain ⟨c0, c1, c2, c3, c4, c5, c6⟩ := hr.cells
  obtain ⟨id, hid⟩ : ∃ x, r.p.id = x := ⟨_, rfl⟩
  obtain ⟨os, hos⟩ : ∃ x, r.os = x := ⟨_, rfl⟩
  rw [hid] at c1 ⊢
  rw [hos] at c6 hov hL hoc1 hop ⊢
  have htk := fun W (hW : OptsAt W (.slice oa os.length oc) os) => ptaken_any _ os W hW
  obtain ⟨L, hLk⟩ : ∃ x, takenM os = x := ⟨_, rfl⟩
  rw [hLk] at htk ⊢
  obtain ⟨L, le⟩ := L
  unfold linkCells at htk
  dsimp only at htk ⊢
  clear hr hid hos hLk c0 c2 c3 c4 c5
  have hne : q ≠ w.heap.size := Nat.ne_of_lt hql
  have hpw : p ≠ w.heap.size := Nat.ne_of_lt hpl
  go_enter Tryz.func39, Tryz.ntmps39
  go_wp2_with fail
  have hBW := hB (.cells #[.int .i64 0, .int .i64 0, .slice none 0 0, .string ⟨#[]⟩] 36)
  have hh := heap_alloc_last w (.cells #[.int .i64 0, .int .i64 0, .slice none 0 0, .string ⟨#[]⟩] 36 (0, 0))
  obtain ⟨W, hW⟩ : ∃ W, w.alloc (.cells #[.int .i64 0, .int .i64 0, .slice none 0 0, .string ⟨#[]⟩] 36) = W := ⟨_, rfl⟩
  rw [hW] at hh hBW ⊢
  refine (htk _ (hov.below hBW)).mono ?_
  rintro e w1 ⟨rfl, hb1⟩
  clear hW hB htk
  have hn1 := (h.below hBW).below hb1
  have k1 := fsm_below_cell hb1 (fsm_below_cell hBW c1)
  have k6 := fsm_below_cell hb1 (fsm_below_cell hBW c6)
  have hh1 := below_of hb1 hh
  have hov1 := (hov.below hBW).below hb1
  have hB1 := seqB hBW hb1
  have hws := (Array.getElem?_eq_some_iff.1 hh1).1
  clear h c1 c6 hov hBW hh hb1
  obtain ⟨e0, e1, e2, e3, e4, e5⟩ := hn1.others
  have f0 := hn1.frozen 10
  have f1 := hn1.frozen (10 + 1)
  have f2 := hn1.frozen (10 + 2)
  have f3 := hn1.frozen (10 + 3)
  have f4 := hn1.frozen (10 + 4)
  have f5 := hn1.frozen (10 + 5)
  go_wp2_with fail
  have hW2 : (((((w1.setCell ⟨p, 10, none⟩ (.int .i64 L.mru)).setCell ⟨p, 11, none⟩ (.int .i64 L.magic)).setCell ⟨p, 12, none⟩ (.int .i64 L.mrru)).setCell ⟨p, 13, none⟩ (.bool L.short)).setCell ⟨p, 14, none⟩ (.string L.disc)).setCell ⟨p, 15, none⟩ (.int .i64 L.num) = setLink w1 p 10 L := rfl
  rw [hW2]
  clear hW2
  have hO2 := setLink_only w1 p 10 L
  have hn2 := setLink_other hn1 L
  obtain ⟨W2, hW2⟩ : ∃ W2, setLink w1 p 10 L = W2 := ⟨_, rfl⟩
  rw [hW2] at hO2 hn2 ⊢
  have j1 := hO2.cell (a := ⟨q, 1, none⟩) k1 hqp
  have j6 := hO2.cell (a := ⟨q, 6, none⟩) k6 hqp
  have hh2 := hO2.heap hh1 (fun e => hpw e.symm)
  have hov2 : OptsAt W2 (.slice oa os.length oc) os := hov1.only hO2 hop
  have hOw : Only (· = p) w W2 := (Only.ofBelow hB1).trans hO2
  clear hW2 e0 e1 e2 e3 e4 e5 f0 f1 f2 f3 f4 f5 hn1 k1 k6 hh1 hov1 hO2
  have hcl := clone_any (.slice oa os.length oc) os W2.drew (hov2.below (Below.refl _ _).drew) (by omega)
  refine wp_schedL (fun w' => w'.cell? ⟨q, 1, none⟩ = some (.int .i64 id) ∧ w'.cell? ⟨q, 6, none⟩ = some (.slice oa os.length oc)) [(0, true), (1, true), (2, true), (3, true), (4, true), (5, true), (6, true), (7, true), (8, true), (9, false), (10, true), (11, false), (12, true)] (by kernel_rfl) (by kernel_rfl) rfl (by kernel_rfl) (by kernel_rfl) ⟨j1, j6⟩ (fun _ d _ _ _ h => by cases d <;> exact h) ?_
  simp only [schedOps, List.filterMap_cons, List.filterMap_nil, List.getElem?_toArray, List.getElem?_cons_zero, List.getElem?_cons_succ, Option.map_some]
  repeat (first | (refine' wpSched_take _ (by rfl) (fun wS hS => ?_) ?_; rotate_left; (focus (obtain ⟨k1, k6⟩ := hS; go_simp; first | done | rfl)); (try simp only [Act.put, List.setIfInBounds_toArray, List.set_cons_zero, List.set_cons_succ])) | (refine wpSched_skip (by rfl) ?_; try simp only [Act.put, List.setIfInBounds_toArray, List.set_cons_zero, List.set_cons_succ]))
  refine wpSched_run (fun K hK => ?_)
  go_wp2_with (go_at_call 29; refine hcl.mono ?_; rintro e w6 ⟨⟨v', rfl, hown6⟩, hb6⟩; obtain ⟨va, vc, rfl, hvc1, hvc2⟩ := SeqAt.form hown6.at)
  have i1 := fsm_below_cell (W := W2.drew) hb6 j1
  have i6 := fsm_below_cell (W := W2.drew) hb6 j6
  refine QRun_normal (hK.out _ _ ⟨i1, i6⟩ ?_)
  clear hK K
  repeat (first | (refine' wpSched_take _ (by rfl) (fun wS hS => ?_) ?_; rotate_left; (focus (obtain ⟨k1, k6⟩ := hS; go_simp; first | done | rfl)); (try simp only [Act.put, List.setIfInBounds_toArray, List.set_cons_zero, List.set_cons_succ])) | (refine wpSched_skip (by rfl) ?_; try simp only [Act.put, List.setIfInBounds_toArray, List.set_cons_zero, List.set_cons_succ]))
  have hh6 := below_of (w := W2.drew) hb6 hh2
  have hn6 := NegBlk.below (w := W2.drew) hn2 hb6
  have hO6 : Only (· = p) w w6 := (hOw.drew).then hb6
  have hvk : ∀ k, (Value.slice va os.length vc).ownBlock = some k → ¬ k = w.heap.size := fun k hk e => by
    have h1 := hown6.block k hk
    have h2 : w.heap.size < W2.heap.size := (Array.getElem?_eq_some_iff.1 hh2).1
    have h3 : W2.drew.heap.size = W2.heap.size := rfl
    omega
  have hva6 : OwnE optE w6 w.heap.size (.slice va os.length vc) os := hown6.base hOw.size
  clear hcl hown6 hb6 hh2 hn2 hOw hov2 j1 j6
  obtain ⟨d0, d1, d2, d3⟩ := packet_cells hh6
  have g0 := packet_frozen hh6 0
  have g1 := packet_frozen hh6 1
  have g2 := packet_frozen hh6 2
  have g3 := packet_frozen hh6 3
  refine wpSched_run (fun K hK => ?_)
  go_wp2_with fail
  have hS4 := sets4_only w6 w.heap.size (.int .i64 2) (.int .i64 id) (.slice va os.length vc) (.string ⟨#[]⟩)
  refine QRun_normal (hK.out _ _ ⟨hS4.cell (a := ⟨q, 1, none⟩) i1 hne, hS4.cell (a := ⟨q, 6, none⟩) i6 hne⟩ ?_)
  clear hK K
  repeat (first | (refine' wpSched_take _ (by rfl) (fun wS hS => ?_) ?_; rotate_left; (focus (obtain ⟨k1, k6⟩ := hS; go_simp; first | done | rfl)); (try simp only [Act.put, List.setIfInBounds_toArray, List.set_cons_zero, List.set_cons_succ])) | (refine wpSched_skip (by rfl) ?_; try simp only [Act.put, List.setIfInBounds_toArray, List.set_cons_zero, List.set_cons_succ]))
  refine wpSched_done ?_
  have hO8 : Only (· = p) w _ := hO6.and hS4 (fun i hi => .inr (by omega))
  have hn8 := hS4.heap hn6 hpw
  have hva8 := hva6.only hS4 hvk
  obtain ⟨k0, k1, k2, k3⟩ := packet_cells (packet_after hh6 (.int .i64 2) (.int .i64 id) (.slice va os.length vc) (.string ⟨#[]⟩))
  clear hS4 hh6 hn6 hO6 hvk hva6 i1 i6 d0 d1 d2 d3 g0 g1 g2 g3
  go_wp2_with fail
  refine bodyPost_ret (v := .tuple #[.agg #[.int .i64 2, .int .i64 id, .slice va os.length vc, .string ⟨#[]⟩], .bool true]) (by simp [results, Tryz.results39, go_sem, k0, k1, k2, k3]) rfl ⟨_, rfl, hva8, hn8, hO8⟩
end Go.Proofs.YtagnbdenecphcaaGreatDoor
/-! send: act 12, a Code-Reject. -/
namespace Go.Proofs.YtagnbdenecphcaaGreatDoor
open Go.RowKit
set_option linter.unusedVariables false
set_option linter.unusedSimpArgs false
theorem ReplyBlk.packs {w : World} {q : Nat} {po ov : Value} {r : ReplyM} (h : ReplyBlk w q po ov r) :
    w.cell? ⟨q, 0, none⟩ = some (.int .i64 r.p.code) ∧ w.cell? ⟨q, 0 + 1, none⟩ = some (.int .i64 r.p.id) ∧ w.cell? ⟨q, 0 + 2, none⟩ = some po ∧ w.cell? ⟨q, 0 + 3, none⟩ = some (.string r.p.data) :=
  ⟨h.cell 0, h.cell 1, h.cell 2, h.cell 3⟩
set_option maxRecDepth 100000 in
set_option maxHeartbeats 8000000 in
theorem send_codrej (p t q : Nat) (o po ov : Value) (s : NegM) (r : ReplyM) (w : World) (h : NegBlk w p t o s) (hi : 0 ≤ s.id ∧ s.id ≤ 255) (hr : ReplyBlk w q po ov r) (hpo : OptsAt w po r.p.opts) (hsz : r.p.data.size ≤ 4611686018427387904) :
    Calls Tryz.prog 39 #[.pointer (some ⟨p, 0, none⟩), .int .i64 12, .pointer (some ⟨q, 0, none⟩)] w fun e w' => e = .returned (.tuple #[.agg #[.int .i64 7, .int .i64 (nextM s).id, .slice none 0 0, .string (bytesOf ((controlM r.p).1.take 64))], .bool true]) ∧ NegBlk w' p t o (nextM s) ∧ Only (· = p) w w' := by
  have hB : ∀ ob : Obj, Below w.heap.size w (w.alloc ob) := fun ob => allocB (Below.refl _ _) ob
  have hql := hr.lt
  have hpl := h.lt
  have hct := fun W (hW : OptsAt W po r.p.opts) => cput_any po r.p W hW hsz
  obtain ⟨pa, pc, rfl, hpc1, hpc2⟩ := SeqAt.form hpo
  have hBW := hB (.cells #[.int .i64 0, .int .i64 0, .slice none 0 0, .string ⟨#[]⟩] 36)
  obtain ⟨c0, c1, c2, c3⟩ := ReplyBlk.packs (hr.below hBW)
  have hh := heap_alloc_last w (.cells #[.int .i64 0, .int .i64 0, .slice none 0 0, .string ⟨#[]⟩] 36 (0, 0))
  have hS : bytesOf ((controlM r.p).1.take 64) = (bytesOf (controlM r.p).1).extract 0 (min (bytesOf (controlM r.p).1).size 64) := by
    rw [prefix_bytes, show (bytesOf (controlM r.p).1).data.toList = (controlM r.p).1 by simp [bytesOf]]
    congr 1
    rw [show (bytesOf (controlM r.p).1).size = (controlM r.p).1.length by simp [bytesOf, ByteArray.size]]
    rcases Nat.le_total (controlM r.p).1.length 64 with h | h
    · rw [Nat.min_eq_left h, List.take_of_length_le h, List.take_of_length_le (Nat.le_refl _)]
    · rw [Nat.min_eq_right h]
  rw [hS]
  obtain ⟨S, hSS⟩ : ∃ x, bytesOf (controlM r.p).1 = x := ⟨_, rfl⟩
  obtain ⟨er, her⟩ : ∃ x, (controlM r.p).2 = x := ⟨_, rfl⟩
  rw [hSS]
  rw [hSS, her] at hct
  clear hS hSS her
  obtain ⟨N, hN⟩ : ∃ x, min S.size 64 = x := ⟨_, rfl⟩
  have hNi : min (S.size : Int) 64 = (N : Int) := by omega
  have hN2 : N ≤ S.size := by omega
  rw [hN]
  clear hN
  have hnx := fun w1 (h1 : NegBlk w1 p t o s) => next_any p t o s w1 h1 hi
  obtain ⟨id', hid⟩ : ∃ x, (nextM s).id = x := ⟨_, rfl⟩
  rw [hid] at hnx ⊢
  clear hid
  go_enter Tryz.func39, Tryz.ntmps39
  go_wp2_with fail
  obtain ⟨W, hW⟩ : ∃ W, w.alloc (.cells #[.int .i64 0, .int .i64 0, .slice none 0 0, .string ⟨#[]⟩] 36) = W := ⟨_, rfl⟩
  rw [hW] at c0 c1 c2 c3 hh hBW ⊢
  refine (hct _ (hpo.below hBW)).mono ?_
  rintro e w1 ⟨rfl, hb1⟩
  have hn1 := (h.below hBW).below hb1
  have hh1 := below_of hb1 hh
  have hB1 := seqB hBW hb1
  clear hW hB hct h hr hpo c0 c1 c2 c3 hh hBW hb1
  have hpw : p ≠ w.heap.size := Nat.ne_of_lt hpl
  go_wp2_with fail
  have hnx1 := hnx w1.drew hn1
  clear hnx
  refine wp_schedL (fun w' => True) [(0, true), (2, true), (3, true), (4, true), (5, true), (6, true), (1, false), (7, true), (8, false), (9, true)] (by kernel_rfl) (by kernel_rfl) rfl (by kernel_rfl) (by kernel_rfl) trivial (fun _ d _ _ _ h => by cases d <;> exact h) ?_
  simp only [schedOps, List.filterMap_cons, List.filterMap_nil, List.getElem?_toArray, List.getElem?_cons_zero, List.getElem?_cons_succ, Option.map_some]
  repeat (first | (refine' wpSched_take _ (by rfl) (fun wS hS => ?_) ?_; rotate_left; (focus (obtain _ := hS; go_simp; first | done | rfl)); (try simp only [Act.put, List.setIfInBounds_toArray, List.set_cons_zero, List.set_cons_succ])) | (refine wpSched_skip (by rfl) ?_; try simp only [Act.put, List.setIfInBounds_toArray, List.set_cons_zero, List.set_cons_succ]))
  refine wpSched_run (fun K hK => ?_)
  go_wp2_with (go_at_call 62; refine hnx1.mono ?_; rintro e w6 ⟨rfl, hn6, ho6⟩)
  refine QRun_normal (hK.out _ _ trivial ?_)
  clear hK K
  repeat (first | (refine' wpSched_take _ (by rfl) (fun wS hS => ?_) ?_; rotate_left; (focus (obtain _ := hS; go_simp; first | done | rfl)); (try simp only [Act.put, List.setIfInBounds_toArray, List.set_cons_zero, List.set_cons_succ])) | (refine wpSched_skip (by rfl) ?_; try simp only [Act.put, List.setIfInBounds_toArray, List.set_cons_zero, List.set_cons_succ]))
  have hh6 := ho6.heap (show w1.drew.heap[w.heap.size]? = _ from hh1) (fun e => hpw e.symm)
  have hO6 : Only (· = p) w w6 := (Only.ofBelow hB1.drew).trans ho6
  clear hnx1 ho6 hh1 hn1
  obtain ⟨d0, d1, d2, d3⟩ := packet_cells hh6
  have g0 := packet_frozen hh6 0
  have g1 := packet_frozen hh6 1
  have g2 := packet_frozen hh6 2
  have g3 := packet_frozen hh6 3
  refine wpSched_run (fun K hK => ?_)
  go_wp2_with fail
  have hS4 := sets4_only w6 w.heap.size (.int .i64 7) (.int .i64 id') (.slice none 0 0) (.string (S.extract 0 N))
  refine QRun_normal (hK.out _ _ trivial ?_)
  clear hK K
  repeat (first | (refine' wpSched_take _ (by rfl) (fun wS hS => ?_) ?_; rotate_left; (focus (obtain _ := hS; go_simp; first | done | rfl)); (try simp only [Act.put, List.setIfInBounds_toArray, List.set_cons_zero, List.set_cons_succ])) | (refine wpSched_skip (by rfl) ?_; try simp only [Act.put, List.setIfInBounds_toArray, List.set_cons_zero, List.set_cons_succ]))
  refine wpSched_done ?_
  have hO8 : Only (· = p) w _ := hO6.and hS4 (fun i hi => .inr (by omega))
  have hn8 := hS4.heap hn6 hpw
  obtain ⟨k0, k1, k2, k3⟩ := packet_cells (packet_after hh6 (.int .i64 7) (.int .i64 id') (.slice none 0 0) (.string (S.extract 0 N)))
  clear hS4 hh6 hn6 hO6 d0 d1 d2 d3 g0 g1 g2 g3
  go_wp2_with fail
  refine bodyPost_ret (v := .tuple #[.agg #[.int .i64 7, .int .i64 id', .slice none 0 0, .string (S.extract 0 N)], .bool true]) (by simp [results, Tryz.results39, go_sem, k0, k1, k2, k3]) rfl ⟨rfl, hn8, hO8⟩
end Go.Proofs.YtagnbdenecphcaaGreatDoor
/-! send, all acts; slices of packets. -/
namespace Go.Proofs.YtagnbdenecphcaaGreatDoor
open Go.RowKit
set_option linter.unusedVariables false
set_option linter.unusedSimpArgs false
/-- a reply in memory, apart from the side's block p -/
structure RepAt (w : World) (p q : Nat) (po ov : Value) (r : ReplyM) : Prop where
  blk : ReplyBlk w q po ov r
  opts : OptsAt w po r.p.opts
  os : OptsAt w ov r.os
  len : r.os.length ≤ 1000000
  qp : q ≠ p
  pop : ∀ k, po.ownBlock = some k → k ≠ p
  ovp : ∀ k, ov.ownBlock = some k → k ≠ p
  size : r.p.data.size ≤ 4611686018427387904
theorem RepAt.only {w w' : World} {p q : Nat} {po ov : Value} {r : ReplyM} (h : RepAt w p q po ov r) (ho : Only (· = p) w w') : RepAt w' p q po ov r :=
  ⟨h.blk.only ho h.qp, SeqAt.only h.opts ho h.pop, SeqAt.only h.os ho h.ovp, h.len, h.qp, h.pop, h.ovp, h.size⟩
theorem RepAt.below {w w' : World} {p q : Nat} {po ov : Value} {r : ReplyM} (h : RepAt w p q po ov r) (hb : Below w.heap.size w w') : RepAt w' p q po ov r := h.only (Only.ofBelow hb)
theorem send_any (p t q : Nat) (o po ov : Value) (s : NegM) (act : Int) (r : ReplyM) (w : World) (h : NegBlk w p t o s) (hg : GoodM s) (hr : RepAt w p q po ov r) (hol : ∀ k, o.ownBlock = some k → k < w.heap.size) :
    Calls Tryz.prog 39 #[.pointer (some ⟨p, 0, none⟩), .int .i64 act, .pointer (some ⟨q, 0, none⟩)] w (SendPost p t o s act r w) := by
  by_cases h7 : act = 7
  · subst h7
    refine (send_req p t o s _ w h hg.id hg.left hg.may).mono ?_
    rintro e w' ⟨v, o', rfl, h1, h2, h3, h4, h5⟩
    exact ⟨⟨1, (reqM s).asked, askM s.own, ⟨#[]⟩⟩, v, o', rfl, fun k' hk => Option.some.inj hk, h1, h2, .inr h3, h4, h5⟩
  by_cases h10 : act = 10
  · subst h10
    refine (send_term p t o s _ w h hg.id hg.left).mono ?_
    rintro e w' ⟨rfl, h2, h4⟩
    exact ⟨⟨5, (nextM (countM s)).id, [], ⟨#[]⟩⟩, .slice none 0 0, o, rfl, fun k' hk => Option.some.inj hk, OwnE.nil _ _ _, h2, .inl ⟨rfl, rfl⟩, h4, fun k hk => by cases hk⟩
  by_cases h8 : act = 8
  · subst h8
    refine (send_ack p t q o po ov s r w h hr.blk hr.os hr.len hr.qp hr.ovp).mono ?_
    rintro e w' ⟨v, rfl, h1, h2, h4⟩
    exact ⟨⟨2, r.p.id, r.os, ⟨#[]⟩⟩, v, o, rfl, fun k' hk => Option.some.inj hk, h1, h2, .inl ⟨rfl, rfl⟩, h4, fun k hk e => by have := h1.block k hk; have := hol k e; omega⟩
  by_cases h9 : act = 9
  · subst h9
    refine (send_nak p q po ov r w hr.blk hr.os hr.len).mono ?_
    rintro e w' ⟨v, rfl, h1, h4⟩
    exact ⟨⟨if r.verdict = 2 then 4 else 3, r.p.id, r.os, ⟨#[]⟩⟩, v, o, rfl, fun k' hk => Option.some.inj hk, h1, h.below h4, .inl ⟨rfl, rfl⟩, Only.ofBelow h4, fun k hk e => by have := h1.block k hk; have := hol k e; omega⟩
  by_cases h11 : act = 11
  · subst h11
    refine (send_termack p q po ov r w hr.blk).mono ?_
    rintro e w' ⟨rfl, h4⟩
    exact ⟨⟨6, if r.event = 10 then r.p.id else 0, [], ⟨#[]⟩⟩, .slice none 0 0, o, rfl, fun k' hk => Option.some.inj hk, OwnE.nil _ _ _, h.below h4, .inl ⟨rfl, rfl⟩, Only.ofBelow h4, fun k hk => by cases hk⟩
  by_cases h12 : act = 12
  · subst h12
    refine (send_codrej p t q o po ov s r w h hg.id hr.blk hr.opts hr.size).mono ?_
    rintro e w' ⟨rfl, h2, h4⟩
    exact ⟨⟨7, (nextM s).id, [], bytesOf ((controlM r.p).1.take 64)⟩, .slice none 0 0, o, rfl, fun k' hk => Option.some.inj hk, OwnE.nil _ _ _, h2, .inl ⟨rfl, rfl⟩, h4, fun k hk => by cases hk⟩
  by_cases h13 : act = 13
  · subst h13
    refine (send_echo p q po ov r w hr.blk).mono ?_
    rintro e w' ⟨rfl, h4⟩
    have hs : sendM s 13 r = (s, if r.p.code = 9 then some ⟨10, r.p.id, [], r.p.data⟩ else none) := rfl
    refine ⟨⟨10, r.p.id, [], r.p.data⟩, .slice none 0 0, o, ?_, ?_, OwnE.nil _ _ _, ?_, .inl ⟨rfl, ?_⟩, Only.ofBelow h4, fun k hk => by cases hk⟩
    · rw [hs]
      by_cases hc : r.p.code = 9
      · rw [if_pos hc, hc]; rfl
      · rw [if_neg hc, beq_eq_false_iff_ne.2 hc]; rfl
    · rw [hs]
      intro k' hk
      dsimp only at hk
      split at hk
      · exact Option.some.inj hk
      · cases hk
    · rw [hs]; exact h.below h4
    · rw [hs]
  · refine (send_none p _ act w ⟨h7, h10, h8, h9, h11, h12, h13⟩).mono ?_
    rintro e w' ⟨rfl, h4⟩
    have hs : sendM s act r = (s, none) := by
      unfold sendM
      rw [if_neg h7, if_neg h10, if_neg h8, if_neg h9, if_neg h11, if_neg h12, if_neg h13]
    refine ⟨packetZ, .slice none 0 0, o, ?_, ?_, OwnE.nil _ _ _, ?_, .inl ⟨rfl, ?_⟩, Only.ofBelow h4, fun k hk => by cases hk⟩
    · rw [hs]; rfl
    · rw [hs]; intro k' hk; cases hk
    · rw [hs]; exact h.below h4
    · rw [hs]
/-! ### slices of packets: each with the slice of its options -/
abbrev PackV := PacketM × Option Addr × Nat
/-- the slice of a packet's options -/
def slOf (x : PackV) : Value := .slice x.2.1 x.1.opts.length x.2.2
def packE : Elem Tryz.prog PackV where
  tS := 39
  tE := 36
  size := 4
  bytes := 56
  z := .agg #[.int .i64 0, .int .i64 0, .slice none 0 0, .string ByteArray.empty]
  enc := fun x => [.int .i64 x.1.code, .int .i64 x.1.id, .slice x.2.1 x.1.opts.length x.2.2, .string x.1.data]
  und := Tryz.underlying39
  info := by kernel_rfl
  zs := rfl
  len := fun _ => rfl
  one := fun a u hu => by
    simp only [List.mem_cons, List.not_mem_nil, or_false] at hu
    rcases hu with rfl | rfl | rfl | rfl <;> rfl
  pos := by decide
/-- append of one value that was just laid in a row of its own, into a row that lies anywhere -/
theorem wpList_appB {P : Program} {α : Type} {ops : Array Oper} {rest : List Oper} {o : Oper} {act : Act} {w : World} {Q : Exit → Act → World → Prop} (E : Elem P α) (hgd : o.guard = none) (s x : Operand)
    (ho : o.op = .call { callee := .builtin .append, args := #[s, x], argTypes := #[E.tS, E.tS] })
    (b : Nat) (hb : b ≤ w.heap.size) (v : Value) (l : List α) (a : α) (c : Nat) (hown : OwnE E w b v l) (hs : act.eval s = v) (B : Nat) (hx : act.eval x = .slice (some ⟨B, 0, none⟩) 1 c) (hB : B = w.heap.size)
    (hlen : (l.length + 1) * E.bytes ≤ 140737488355328) (hb1 : 1 ≤ E.bytes)
    (h : ∀ v' w', OwnE E w' b v' (l ++ [a]) → Only (fun k => v.ownBlock = some k) w w' → (v'.ownBlock = v.ownBlock ∨ ∃ k, v'.ownBlock = some k ∧ w.heap.size ≤ k) → wpList P ops Q rest (act.put o.dst v') w') :
    wpList P ops Q (o :: rest) act (w.alloc (.cells (E.enc a).toArray E.tE)) := by
  subst hB
  obtain ⟨i0, hi, hz0, hz1, hz2⟩ := info_of E
  have hsz : b ≤ (w.alloc (.cells (E.enc a).toArray E.tE)).heap.size := by simp; omega
  refine wpList_append_own_at _ hgd s x _ ho b E.tE i0 E.z E.size E.bytes E.und hi hz0 hz1 hz2 E.zs E.pos v l.length (l.flatMap E.enc) hs (hown.below ((Below.refl _ _).alloc (Nat.le_refl _) _)) ⟨w.heap.size, 0, none⟩ 1 c (E.enc a) hx (by rw [E.len, Nat.one_mul]) ?_ (E.one a) ?_ hlen hsz ?_
  · intro j u hu
    have hadd : (⟨w.heap.size, 0, none⟩ : Addr).add j = ⟨w.heap.size, j, none⟩ := by unfold Addr.add; split <;> simp_all
    rw [hadd, World.cell?_alloc_new]
    simpa using hu
  · have := Nat.le_mul_of_pos_right (l.length + 1) hb1
    simp only [maxLen]; omega
  · intro v' w' hown' hg _ hat
    refine h v' w' ?_ ?_ (hat.imp id fun e => ⟨_, e, by simp⟩)
    · unfold OwnE
      rw [List.flatMap_append, List.length_append]
      simpa using hown'
    · refine (((Only.refl _ w).alloc (.cells (E.enc a).toArray E.tE)).and (T := fun k => v.ownBlock = some k) ⟨hg.os, hg.tape, hg.output, hg.size, fun k hk hn => hg.block k hk fun e => hn e.symm⟩ fun i hi => .inl hi)
/-- append of one packet that was just laid in a row of its own -/
theorem wpList_appP {ops : Array Oper} {rest : List Oper} {o : Oper} {act : Act} {w : World} {Q : Exit → Act → World → Prop} (hgd : o.guard = none) (s x : Operand)
    (ho : o.op = .call { callee := .builtin .append, args := #[s, x], argTypes := #[39, 39] })
    (b : Nat) (hb : b ≤ w.heap.size) (v : Value) (l : List PackV) (k : PacketM) (va : Option Addr) (vc : Nat) (c : Nat) (hown : OwnE packE w b v l) (hs : act.eval s = v) (B : Nat) (hx : act.eval x = .slice (some ⟨B, 0, none⟩) 1 c) (hB : B = w.heap.size)
    (hlen : (l.length + 1) * 56 ≤ 140737488355328)
    (h : ∀ v' w', OwnE packE w' b v' (l ++ [(k, va, vc)]) → Only (fun k => v.ownBlock = some k) w w' → (v'.ownBlock = v.ownBlock ∨ ∃ k, v'.ownBlock = some k ∧ w.heap.size ≤ k) → wpList Tryz.prog ops Q rest (act.put o.dst v') w') :
    wpList Tryz.prog ops Q (o :: rest) act (w.alloc (.cells #[.int .i64 k.code, .int .i64 k.id, .slice va k.opts.length vc, .string k.data] 36)) :=
  wpList_appB packE hgd s x ho b hb v l (k, va, vc) c hown hs B hx hB hlen (by decide) h
/-- rows of two kinds of cells are two rows -/
theorem own_ne {P : Program} {α β : Type} {E : Elem P α} {F : Elem P β} (hE : E.tE ≠ F.tE) {w : World} {b b' : Nat} {v v' : Value} {l : List α} {l' : List β} (h : OwnE E w b v l) (h' : OwnE F w b' v' l') : ∀ k, v.ownBlock = some k → v'.ownBlock = some k → False := by
  intro k hk hk'
  rcases h.2 with ⟨rfl, _⟩ | ⟨g, cap, cur, rfl, _, hh, _⟩
  · cases hk
  rcases h'.2 with ⟨rfl, _⟩ | ⟨g', cap', cur', rfl, _, hh', _⟩
  · cases hk'
  cases hk; cases hk'
  rw [hh] at hh'
  simp only [Option.some.injEq, Obj.cells.injEq] at hh'
  exact hE hh'.2.1
theorem opt_pack_ne : optE.tE ≠ packE.tE := by decide
end Go.Proofs.YtagnbdenecphcaaGreatDoor
