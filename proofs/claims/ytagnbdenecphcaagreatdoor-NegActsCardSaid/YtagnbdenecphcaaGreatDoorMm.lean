/- send: the acts that send nothing. send: act 10, a Terminate-Request. send: the reply's block; act 11, a Terminate-Ack; act 13, an echo. send: act 7, a Configure-Request. send: acts 9 and 8, the answers to a Configure-Request. -/
import Derived.Test.YtagnbdenecphcaaGreatDoorMk
/-! send: the acts that send nothing. -/
namespace Go.Proofs.YtagnbdenecphcaaGreatDoor
open Go.RowKit
set_option linter.unusedVariables false
set_option linter.unusedSimpArgs false
theorem packet_new (w : World) (x0 x1 x2 x3 : Value) : (w.alloc (.cells #[x0, x1, x2, x3] 36)).cell? ⟨w.heap.size, 0, none⟩ = some x0 ∧ (w.alloc (.cells #[x0, x1, x2, x3] 36)).cell? ⟨w.heap.size, 1, none⟩ = some x1 ∧ (w.alloc (.cells #[x0, x1, x2, x3] 36)).cell? ⟨w.heap.size, 2, none⟩ = some x2 ∧ (w.alloc (.cells #[x0, x1, x2, x3] 36)).cell? ⟨w.heap.size, 3, none⟩ = some x3 := by
  refine ⟨?_, ?_, ?_, ?_⟩ <;> (rw [World.cell?_alloc_new]; rfl)
set_option maxRecDepth 100000 in
set_option maxHeartbeats 4000000 in
theorem send_none (p : Nat) (rp : Value) (act : Int) (w : World) (h : act ≠ 7 ∧ act ≠ 10 ∧ act ≠ 8 ∧ act ≠ 9 ∧ act ≠ 11 ∧ act ≠ 12 ∧ act ≠ 13) :
    Calls Tryz.prog 39 #[.pointer (some ⟨p, 0, none⟩), .int .i64 act, rp] w fun e w' => e = .returned (.tuple #[.agg #[.int .i64 0, .int .i64 0, .slice none 0 0, .string ⟨#[]⟩], .bool false]) ∧ Below w.heap.size w w' := by
  obtain ⟨h7, h10, h8, h9, h11, h12, h13⟩ := h
  have q7 : (act == 7) = false := beq_eq_false_iff_ne.2 h7
  have q10 : (act == 10) = false := beq_eq_false_iff_ne.2 h10
  have q8 : (act == 8) = false := beq_eq_false_iff_ne.2 h8
  have q9 : (act == 9) = false := beq_eq_false_iff_ne.2 h9
  have q11 : (act == 11) = false := beq_eq_false_iff_ne.2 h11
  have q12 : (act == 12) = false := beq_eq_false_iff_ne.2 h12
  have q13 : (act == 13) = false := beq_eq_false_iff_ne.2 h13
  go_enter Tryz.func39, Tryz.ntmps39
  go_wp2_with fail
  obtain ⟨k0, k1, k2, k3⟩ := packet_new w (.int .i64 0) (.int .i64 0) (.slice none 0 0) (.string ⟨#[]⟩)
  refine bodyPost_ret (v := .tuple #[.agg #[.int .i64 0, .int .i64 0, .slice none 0 0, .string ⟨#[]⟩], .bool false]) (by simp [results, Tryz.results39, go_sem, k0, k1, k2, k3]) rfl ⟨rfl, allocB (Below.refl _ _) _⟩
end Go.Proofs.YtagnbdenecphcaaGreatDoor
/-! send: act 10, a Terminate-Request. -/
namespace Go.Proofs.YtagnbdenecphcaaGreatDoor
open Go.RowKit
set_option linter.unusedVariables false
set_option linter.unusedSimpArgs false
theorem packet_after {w : World} {B : Nat} {x0 x1 x2 x3 : Value} {T : TypeId} (hh : w.heap[B]? = some (.cells #[x0, x1, x2, x3] T (0, 0))) (y0 y1 y2 y3 : Value) :
    ((((w.setCell ⟨B, 0, none⟩ y0).setCell ⟨B, 1, none⟩ y1).setCell ⟨B, 2, none⟩ y2).setCell ⟨B, 3, none⟩ y3).heap[B]? = some (.cells #[y0, y1, y2, y3] T (0, 0)) := by
  simp [World.setCell, Array.getElem?_modify, hh]
theorem packet_cells {w : World} {B : Nat} {x0 x1 x2 x3 : Value} {T : TypeId} (hh : w.heap[B]? = some (.cells #[x0, x1, x2, x3] T (0, 0))) :
    w.cell? ⟨B, 0, none⟩ = some x0 ∧ w.cell? ⟨B, 1, none⟩ = some x1 ∧ w.cell? ⟨B, 2, none⟩ = some x2 ∧ w.cell? ⟨B, 3, none⟩ = some x3 := by
  refine ⟨?_, ?_, ?_, ?_⟩ <;> simp [World.cell?, hh]
theorem packet_frozen {w : World} {B : Nat} {x : Array Value} {T : TypeId} (hh : w.heap[B]? = some (.cells x T (0, 0))) (i : Nat) : w.frozen? ⟨B, i, none⟩ = false := by
  simp [World.frozen?, hh]
/-- the result's cells laid anew: nothing else turns -/
theorem packet_only {w w1 w2 : World} {p t : Nat} {o : Value} {s : NegM} {ob : Obj} (hn : NegBlk w2 p t o s) (h1 : Only (· = p) (w.alloc ob) w1) (h2 : Only (· = p) w1 w2) (hp : p < w.heap.size) (y0 y1 y2 y3 : Value) :
    NegBlk ((((w2.setCell ⟨w.heap.size, 0, none⟩ y0).setCell ⟨w.heap.size, 1, none⟩ y1).setCell ⟨w.heap.size, 2, none⟩ y2).setCell ⟨w.heap.size, 3, none⟩ y3) p t o s ∧ Only (· = p) w ((((w2.setCell ⟨w.heap.size, 0, none⟩ y0).setCell ⟨w.heap.size, 1, none⟩ y1).setCell ⟨w.heap.size, 2, none⟩ y2).setCell ⟨w.heap.size, 3, none⟩ y3) := by
  have hw2 : Only (· = p) w w2 := (((Only.refl (· = p) w).alloc ob).trans h1).trans h2
  have hset : ∀ (W : World), Only (fun k => k = w.heap.size) w2 W → ∀ (i : Nat) (y : Value), Only (fun k => k = w.heap.size) w2 (W.setCell ⟨w.heap.size, i, none⟩ y) := fun W h i y => h.set (a := ⟨w.heap.size, i, none⟩) (.inl rfl) y
  have h4 := hset _ (hset _ (hset _ (hset _ (Only.refl _ w2) 0 y0) 1 y1) 2 y2) 3 y3
  exact ⟨h4.heap hn (by omega), hw2.and h4 (fun i hi => .inr (by omega))⟩
set_option maxRecDepth 100000 in
set_option maxHeartbeats 4000000 in
theorem send_term (p t : Nat) (o : Value) (s : NegM) (rp : Value) (w : World) (h : NegBlk w p t o s) (hi : 0 ≤ s.id ∧ s.id ≤ 255) (hl : 0 ≤ s.left ∧ s.left ≤ 10) :
    Calls Tryz.prog 39 #[.pointer (some ⟨p, 0, none⟩), .int .i64 10, rp] w fun e w' => e = .returned (.tuple #[.agg #[.int .i64 5, .int .i64 (nextM (countM s)).id, .slice none 0 0, .string ⟨#[]⟩], .bool true]) ∧ NegBlk w' p t o (nextM (countM s)) ∧ Only (· = p) w w' := by
  have hB : ∀ ob : Obj, Below w.heap.size w (w.alloc ob) := fun ob => allocB (Below.refl _ _) ob
  have hcnt := fun ob => count_any p t o s (w.alloc ob) (h.below (hB ob)) hl
  have hnx := fun w1 (h1 : NegBlk w1 p t o (countM s)) => next_any p t o (countM s) w1 h1 hi
  have hpl := h.lt
  obtain ⟨id', hid⟩ : ∃ x, (nextM (countM s)).id = x := ⟨_, rfl⟩
  rw [hid] at hnx ⊢
  clear h hid
  go_enter Tryz.func39, Tryz.ntmps39
  go_wp2_with fail
  refine (hcnt _).mono ?_
  rintro e w1 ⟨rfl, hn1, ho1⟩
  go_wp2_with fail
  refine (hnx _ hn1).mono ?_
  rintro e w2 ⟨rfl, hn2, ho2⟩
  have hne : ¬ (w.heap.size = p) := by omega
  have hh2 := ho2.heap (ho1.heap (heap_alloc_last w (.cells #[.int .i64 0, .int .i64 0, .slice none 0 0, .string ⟨#[]⟩] 36 (0, 0))) hne) hne
  obtain ⟨d0, d1, d2, d3⟩ := packet_cells hh2
  have f0 := packet_frozen hh2 0
  have f1 := packet_frozen hh2 1
  have f2 := packet_frozen hh2 2
  have f3 := packet_frozen hh2 3
  go_wp2_with fail
  obtain ⟨k0, k1, k2, k3⟩ := packet_cells (packet_after hh2 (.int .i64 5) (.int .i64 id') (.slice none 0 0) (.string ⟨#[]⟩))
  obtain ⟨hn4, hon⟩ := packet_only hn2 ho1 ho2 hpl (.int .i64 5) (.int .i64 id') (.slice none 0 0) (.string ⟨#[]⟩)
  refine bodyPost_ret (v := .tuple #[.agg #[.int .i64 5, .int .i64 id', .slice none 0 0, .string ⟨#[]⟩], .bool true]) (by simp [results, Tryz.results39, go_sem, k0, k1, k2, k3]) rfl ⟨rfl, hn4, hon⟩
end Go.Proofs.YtagnbdenecphcaaGreatDoor
/-! send: the reply's block; act 11, a Terminate-Ack; act 13, an echo. -/
namespace Go.Proofs.YtagnbdenecphcaaGreatDoor
open Go.RowKit
set_option linter.unusedVariables false
set_option linter.unusedSimpArgs false
/-- the cells of a reply: po the packet's options, ov the options answered -/
def replyCells (po ov : Value) (r : ReplyM) : Array Value := #[.int .i64 r.p.code, .int .i64 r.p.id, po, .string r.p.data, .int .i64 r.event, .int .i64 r.verdict, ov]
def ReplyBlk (w : World) (q : Nat) (po ov : Value) (r : ReplyM) : Prop := w.heap[q]? = some (.cells (replyCells po ov r) 65 (0, 0))
theorem ReplyBlk.cell {w : World} {q : Nat} {po ov : Value} {r : ReplyM} (h : ReplyBlk w q po ov r) (i : Nat) : w.cell? ⟨q, i, none⟩ = (replyCells po ov r)[i]? := by
  unfold ReplyBlk at h
  simp [World.cell?, h]
theorem ReplyBlk.frozen {w : World} {q : Nat} {po ov : Value} {r : ReplyM} (h : ReplyBlk w q po ov r) (i : Nat) : w.frozen? ⟨q, i, none⟩ = false := by
  unfold ReplyBlk at h
  simp [World.frozen?, h]
theorem ReplyBlk.lt {w : World} {q : Nat} {po ov : Value} {r : ReplyM} (h : ReplyBlk w q po ov r) : q < w.heap.size := (Array.getElem?_eq_some_iff.1 h).1
theorem ReplyBlk.below {w w' : World} {q : Nat} {po ov : Value} {r : ReplyM} (h : ReplyBlk w q po ov r) (hb : Below w.heap.size w w') : ReplyBlk w' q po ov r := below_of hb h
theorem ReplyBlk.only {w w' : World} {S : Nat → Prop} {q : Nat} {po ov : Value} {r : ReplyM} (h : ReplyBlk w q po ov r) (ho : Only S w w') (hn : ¬ S q) : ReplyBlk w' q po ov r := ho.heap h hn
theorem ReplyBlk.cells {w : World} {q : Nat} {po ov : Value} {r : ReplyM} (h : ReplyBlk w q po ov r) :
    w.cell? ⟨q, 0, none⟩ = some (.int .i64 r.p.code) ∧ w.cell? ⟨q, 1, none⟩ = some (.int .i64 r.p.id) ∧ w.cell? ⟨q, 2, none⟩ = some po ∧ w.cell? ⟨q, 3, none⟩ = some (.string r.p.data) ∧ w.cell? ⟨q, 4, none⟩ = some (.int .i64 r.event) ∧ w.cell? ⟨q, 5, none⟩ = some (.int .i64 r.verdict) ∧ w.cell? ⟨q, 6, none⟩ = some ov :=
  ⟨h.cell 0, h.cell 1, h.cell 2, h.cell 3, h.cell 4, h.cell 5, h.cell 6⟩
/-- a packet's block, behind one more block -/
theorem packet_new2 (w : World) (x0 x1 x2 x3 : Value) {ob : Obj} : ((w.alloc (.cells #[x0, x1, x2, x3] 36)).alloc ob).cell? ⟨w.heap.size, 0, none⟩ = some x0 ∧ ((w.alloc (.cells #[x0, x1, x2, x3] 36)).alloc ob).cell? ⟨w.heap.size, 1, none⟩ = some x1 ∧ ((w.alloc (.cells #[x0, x1, x2, x3] 36)).alloc ob).cell? ⟨w.heap.size, 2, none⟩ = some x2 ∧ ((w.alloc (.cells #[x0, x1, x2, x3] 36)).alloc ob).cell? ⟨w.heap.size, 3, none⟩ = some x3 := by
  obtain ⟨k0, k1, k2, k3⟩ := packet_new w x0 x1 x2 x3
  have hb : Below (w.alloc (.cells #[x0, x1, x2, x3] 36)).heap.size (w.alloc (.cells #[x0, x1, x2, x3] 36)) ((w.alloc (.cells #[x0, x1, x2, x3] 36)).alloc ob) := allocB (Below.refl _ _) _
  exact ⟨fsm_below_cell hb k0, fsm_below_cell hb k1, fsm_below_cell hb k2, fsm_below_cell hb k3⟩
/-- a packet's block laid anew: nothing else turns -/
theorem sets4_only (W : World) (B : Nat) (y0 y1 y2 y3 : Value) : Only (fun k => k = B) W ((((W.setCell ⟨B, 0, none⟩ y0).setCell ⟨B, 1, none⟩ y1).setCell ⟨B, 2, none⟩ y2).setCell ⟨B, 3, none⟩ y3) := by
  have hset : ∀ (V : World), Only (fun k => k = B) W V → ∀ (i : Nat) (y : Value), Only (fun k => k = B) W (V.setCell ⟨B, i, none⟩ y) := fun V h i y => h.set (a := ⟨B, i, none⟩) (.inl rfl) y
  exact hset _ (hset _ (hset _ (hset _ (Only.refl _ W) 0 y0) 1 y1) 2 y2) 3 y3
def packCells (k : PacketM) (v : Value) : Array Value := #[.int .i64 k.code, .int .i64 k.id, v, .string k.data]
/-- what send leaves behind -/
def SendPost (p t : Nat) (o : Value) (s : NegM) (act : Int) (r : ReplyM) (w : World) (e : Ending) (w' : World) : Prop :=
  ∃ k v o', e = .returned (.tuple #[.agg (packCells k v), .bool (sendM s act r).2.isSome]) ∧ (∀ k', (sendM s act r).2 = some k' → k = k') ∧ OwnE optE w' w.heap.size v k.opts ∧
    NegBlk w' p t o' (sendM s act r).1 ∧ ((o' = o ∧ (sendM s act r).1.os = s.os) ∨ OwnE optE w' w.heap.size o' (sendM s act r).1.os) ∧ Only (· = p) w w' ∧ ∀ k, v.ownBlock = some k → o'.ownBlock ≠ some k
set_option maxRecDepth 100000 in
set_option maxHeartbeats 4000000 in
theorem send_termack (p q : Nat) (po ov : Value) (r : ReplyM) (w : World) (hr : ReplyBlk w q po ov r) :
    Calls Tryz.prog 39 #[.pointer (some ⟨p, 0, none⟩), .int .i64 11, .pointer (some ⟨q, 0, none⟩)] w fun e w' => e = .returned (.tuple #[.agg #[.int .i64 6, .int .i64 (if r.event = 10 then r.p.id else 0), .slice none 0 0, .string ⟨#[]⟩], .bool true]) ∧ Below w.heap.size w w' := by
  obtain ⟨c0, c1, c2, c3, c4, c5, c6⟩ := hr.cells
  have hql := hr.lt
  obtain ⟨ev, hev⟩ : ∃ x, r.event = x := ⟨_, rfl⟩
  obtain ⟨id, hid⟩ : ∃ x, r.p.id = x := ⟨_, rfl⟩
  rw [hev] at c4 ⊢
  rw [hid] at c1 ⊢
  clear hr hev hid
  by_cases he : ev = 10
  · subst he
    rw [if_pos rfl]
    go_enter Tryz.func39, Tryz.ntmps39
    go_wp2_with fail
    obtain ⟨k0, k1, k2, k3⟩ := packet_new2 w (.int .i64 6) (.int .i64 id) (.slice none 0 0) (.string ⟨#[]⟩) (ob := .cells #[.int .i64 6, .int .i64 id, .slice none 0 0, .string ⟨#[]⟩] 36)
    refine bodyPost_ret (v := .tuple #[.agg #[.int .i64 6, .int .i64 id, .slice none 0 0, .string ⟨#[]⟩], .bool true]) (by simp [results, Tryz.results39, go_sem, k0, k1, k2, k3]) rfl ⟨rfl, allocB (allocB (Below.refl _ _) _) _⟩
  · rw [if_neg he]
    have q10 : (ev == 10) = false := beq_eq_false_iff_ne.2 he
    go_enter Tryz.func39, Tryz.ntmps39
    go_wp2_with fail
    obtain ⟨k0, k1, k2, k3⟩ := packet_new2 w (.int .i64 6) (.int .i64 0) (.slice none 0 0) (.string ⟨#[]⟩) (ob := .cells #[.int .i64 6, .int .i64 0, .slice none 0 0, .string ⟨#[]⟩] 36)
    refine bodyPost_ret (v := .tuple #[.agg #[.int .i64 6, .int .i64 0, .slice none 0 0, .string ⟨#[]⟩], .bool true]) (by simp [results, Tryz.results39, go_sem, k0, k1, k2, k3]) rfl ⟨rfl, allocB (allocB (Below.refl _ _) _) _⟩
set_option maxRecDepth 100000 in
set_option maxHeartbeats 4000000 in
theorem send_echo (p q : Nat) (po ov : Value) (r : ReplyM) (w : World) (hr : ReplyBlk w q po ov r) :
    Calls Tryz.prog 39 #[.pointer (some ⟨p, 0, none⟩), .int .i64 13, .pointer (some ⟨q, 0, none⟩)] w fun e w' => e = .returned (.tuple #[.agg #[.int .i64 10, .int .i64 r.p.id, .slice none 0 0, .string r.p.data], .bool (r.p.code == 9)]) ∧ Below w.heap.size w w' := by
  have hB : ∀ ob : Obj, Below w.heap.size w (w.alloc ob) := fun ob => allocB (Below.refl _ _) ob
  have hql := hr.lt
  obtain ⟨c0, c1, c2, c3, c4, c5, c6⟩ := ReplyBlk.cells (hr.below (hB (.cells #[.int .i64 0, .int .i64 0, .slice none 0 0, .string ⟨#[]⟩] 36)))
  have hh := heap_alloc_last w (.cells #[.int .i64 0, .int .i64 0, .slice none 0 0, .string ⟨#[]⟩] 36 (0, 0))
  have hBW := hB (.cells #[.int .i64 0, .int .i64 0, .slice none 0 0, .string ⟨#[]⟩] 36)
  clear hr
  go_enter Tryz.func39, Tryz.ntmps39
  go_wp2_with fail
  obtain ⟨W, hW⟩ : ∃ W, w.alloc (.cells #[.int .i64 0, .int .i64 0, .slice none 0 0, .string ⟨#[]⟩] 36) = W := ⟨_, rfl⟩
  rw [hW] at c0 c1 c2 c3 c4 c5 c6 hh hBW ⊢
  clear hW hB
  have hne : q ≠ w.heap.size := Nat.ne_of_lt hql
  refine wp_schedL (fun w' => w'.cell? ⟨q, 0, none⟩ = some (.int .i64 r.p.code) ∧ w'.cell? ⟨q, 1, none⟩ = some (.int .i64 r.p.id) ∧ w'.cell? ⟨q, 3, none⟩ = some (.string r.p.data)) [(0, true), (1, true), (2, true), (3, true), (4, true), (5, true), (6, true), (7, true), (8, true), (9, true), (10, true), (11, true), (12, true), (13, true), (14, true), (15, true), (16, true), (17, false), (18, true)] (by kernel_rfl) (by kernel_rfl) rfl (by kernel_rfl) (by kernel_rfl) ⟨c0, c1, c3⟩ (fun _ d _ _ _ h => by cases d <;> exact h) ?_
  simp only [schedOps, List.filterMap_cons, List.filterMap_nil, List.getElem?_toArray, List.getElem?_cons_zero, List.getElem?_cons_succ, Option.map_some]
  repeat (first | (refine' wpSched_take _ (by rfl) (fun wS hS => ?_) ?_; rotate_left; (focus (obtain ⟨c0, c1, c3⟩ := hS; go_simp; first | done | rfl)); (try simp only [Act.put, List.setIfInBounds_toArray, List.set_cons_zero, List.set_cons_succ])) | (refine wpSched_skip (by rfl) ?_; try simp only [Act.put, List.setIfInBounds_toArray, List.set_cons_zero, List.set_cons_succ]))
  obtain ⟨d0, d1, d2, d3⟩ := packet_cells hh
  have g0 := packet_frozen hh 0
  have g1 := packet_frozen hh 1
  have g2 := packet_frozen hh 2
  have g3 := packet_frozen hh 3
  refine wpSched_run (fun K hK => ?_)
  go_wp2_with fail
  have hS4 := sets4_only W.drew w.heap.size (.int .i64 10) (.int .i64 r.p.id) (.slice none 0 0) (.string r.p.data)
  refine QRun_normal (hK.out _ _ ⟨hS4.cell (a := ⟨q, 0, none⟩) c0 hne, hS4.cell (a := ⟨q, 1, none⟩) c1 hne, hS4.cell (a := ⟨q, 3, none⟩) c3 hne⟩ ?_)
  clear hK K
  repeat (first | (refine' wpSched_take _ (by rfl) (fun wS hS => ?_) ?_; rotate_left; (focus (obtain ⟨c0, c1, c3⟩ := hS; go_simp; first | done | rfl)); (try simp only [Act.put, List.setIfInBounds_toArray, List.set_cons_zero, List.set_cons_succ])) | (refine wpSched_skip (by rfl) ?_; try simp only [Act.put, List.setIfInBounds_toArray, List.set_cons_zero, List.set_cons_succ]))
  refine wpSched_done ?_
  go_wp2_with fail
  obtain ⟨k0, k1, k2, k3⟩ := packet_cells (packet_after hh (.int .i64 10) (.int .i64 r.p.id) (.slice none 0 0) (.string r.p.data))
  refine bodyPost_ret (v := .tuple #[.agg #[.int .i64 10, .int .i64 r.p.id, .slice none 0 0, .string r.p.data], .bool (r.p.code == 9)]) (by simp [results, Tryz.results39, go_sem, k0, k1, k2, k3]) rfl ⟨rfl, ?_⟩
  exact (Only.ofBelow (S := fun k => k = w.heap.size) hBW.drew).trans hS4 |>.below (Nat.le_refl _) (fun k h => by omega)
end Go.Proofs.YtagnbdenecphcaaGreatDoor
/-! send: act 7, a Configure-Request. -/
namespace Go.Proofs.YtagnbdenecphcaaGreatDoor
open Go.RowKit
set_option linter.unusedVariables false
set_option linter.unusedSimpArgs false
theorem askM_len (l : LinkM) : (askM l).length ≤ 6 := by
  unfold askM
  rw [List.length_map]
  exact Nat.le_trans (List.length_filter_le _ _) (by decide)
set_option maxRecDepth 100000 in
set_option maxHeartbeats 8000000 in
theorem send_req (p t : Nat) (o : Value) (s : NegM) (rp : Value) (w : World) (h : NegBlk w p t o s) (hi : 0 ≤ s.id ∧ s.id ≤ 255) (hl : 0 ≤ s.left ∧ s.left ≤ 10) (hm : mayM s.own = true) :
    Calls Tryz.prog 39 #[.pointer (some ⟨p, 0, none⟩), .int .i64 7, rp] w fun e w' => ∃ v o', e = .returned (.tuple #[.agg #[.int .i64 1, .int .i64 (reqM s).asked, v, .string ⟨#[]⟩], .bool true]) ∧ OwnE optE w' w.heap.size v (askM s.own) ∧ NegBlk w' p t o' (reqM s) ∧ OwnE optE w' w.heap.size o' (askM s.own) ∧ Only (· = p) w w' ∧ (∀ k, v.ownBlock = some k → o'.ownBlock ≠ some k) := by
  have hB : ∀ ob : Obj, Below w.heap.size w (w.alloc ob) := fun ob => allocB (Below.refl _ _) ob
  have hcnt := fun ob => count_any p t o s (w.alloc ob) (h.below (hB ob)) hl
  have hnx := fun w1 (h1 : NegBlk w1 p t o (countM s)) => next_any p t o (countM s) w1 h1 hi
  have hpl := h.lt
  have hask := fun W => pask_any s.own W hm
  unfold linkCells at hask
  have hal := askM_len s.own
  have hE : { nextM (countM s) with asked := (nextM (countM s)).id, os := askM s.own } = reqM s := rfl
  have hA : (reqM s).asked = (nextM (countM s)).id := rfl
  rw [hA, ← hE]
  obtain ⟨id', hid⟩ : ∃ x, (nextM (countM s)).id = x := ⟨_, rfl⟩
  obtain ⟨s2, hs2⟩ : ∃ x, nextM (countM s) = x := ⟨_, rfl⟩
  have hown2 : s2.own = s.own := by rw [← hs2]; rfl
  obtain ⟨s1, hs1⟩ : ∃ x, countM s = x := ⟨_, rfl⟩
  rw [hid] at hnx ⊢
  rw [hs2] at hnx ⊢
  rw [hs1] at hnx hcnt
  obtain ⟨ask, hak⟩ : ∃ x, askM s.own = x := ⟨_, rfl⟩
  rw [hak] at hask hal ⊢
  obtain ⟨own, hon⟩ : ∃ x, s.own = x := ⟨_, rfl⟩
  rw [hon] at hask hown2
  clear h hid hs1 hs2 hE hA hm hak hon
  go_enter Tryz.func39, Tryz.ntmps39
  go_wp2_with fail
  refine (hcnt _).mono ?_
  rintro e w1 ⟨rfl, hn1, ho1⟩
  go_wp2_with fail
  refine (hnx _ hn1).mono ?_
  rintro e w2 ⟨rfl, hn2, ho2⟩
  have hne : ¬ (w.heap.size = p) := by omega
  have hO2 : Only (· = p) w w2 := (((Only.refl (· = p) w).alloc _).trans ho1).trans ho2
  have hh2 := ho2.heap (ho1.heap (heap_alloc_last w (.cells #[.int .i64 0, .int .i64 0, .slice none 0 0, .string ⟨#[]⟩] 36 (0, 0))) hne) hne
  have f17 := hn2.frozen 17
  have e17 : w2.cell? ⟨p, 17, none⟩ = some (.int .i64 s2.asked) := hn2.cell 17
  have hn3 := hn2.set 17 (.int .i64 id') o { s2 with asked := id' } rfl
  have hO3 := hO2.trans (only_set w2 p 17 (.int .i64 id'))
  have hh3 := (only_set w2 p 17 (.int .i64 id')).heap hh2 hne
  clear hcnt hnx hn1 ho1 ho2 hn2 hh2 hO2
  have k17 : (w2.setCell ⟨p, 17, none⟩ (.int .i64 id')).cell? ⟨p, 17, none⟩ = some (.int .i64 id') := hn3.cell 17
  have k4 : (w2.setCell ⟨p, 17, none⟩ (.int .i64 id')).cell? ⟨p, 4, none⟩ = some (.int .i64 own.mru) := (hn3.cell 4).trans (by rw [← hown2]; rfl)
  have k5 : (w2.setCell ⟨p, 17, none⟩ (.int .i64 id')).cell? ⟨p, 4 + 1, none⟩ = some (.int .i64 own.magic) := (hn3.cell 5).trans (by rw [← hown2]; rfl)
  have k6 : (w2.setCell ⟨p, 17, none⟩ (.int .i64 id')).cell? ⟨p, 4 + 2, none⟩ = some (.int .i64 own.mrru) := (hn3.cell 6).trans (by rw [← hown2]; rfl)
  have k7 : (w2.setCell ⟨p, 17, none⟩ (.int .i64 id')).cell? ⟨p, 4 + 3, none⟩ = some (.bool own.short) := (hn3.cell 7).trans (by rw [← hown2]; rfl)
  have k8 : (w2.setCell ⟨p, 17, none⟩ (.int .i64 id')).cell? ⟨p, 4 + 4, none⟩ = some (.string own.disc) := (hn3.cell 8).trans (by rw [← hown2]; rfl)
  have k9 : (w2.setCell ⟨p, 17, none⟩ (.int .i64 id')).cell? ⟨p, 4 + 5, none⟩ = some (.int .i64 own.num) := (hn3.cell 9).trans (by rw [← hown2]; rfl)
  go_wp2_with fail
  refine (hask _).mono ?_
  rintro e w4 ⟨ov, rfl, hown4, hb4⟩
  obtain ⟨oa, oc, rfl, hoc1, hoc2⟩ := SeqAt.form hown4.at
  have hn4 := hn3.below hb4
  have e18 : w4.cell? ⟨p, 18, none⟩ = some o := hn4.cell 18
  have hO4 := hO3.then hb4
  have hh4 := below_of hb4 hh3
  have hsz4 := hb4.size
  have f18 := hn4.frozen 18
  have hn5 := hn4.set 18 (.slice oa ask.length oc) (.slice oa ask.length oc) { s2 with asked := id', os := ask } rfl
  have hO5 := hO4.trans (only_set w4 p 18 (.slice oa ask.length oc))
  have hh5 := (only_set w4 p 18 (.slice oa ask.length oc)).heap hh4 hne
  have hown5 : OwnE optE (w4.setCell ⟨p, 18, none⟩ (.slice oa ask.length oc)) w.heap.size (.slice oa ask.length oc) ask := (hown4.only (only_set w4 p 18 (.slice oa ask.length oc)) (fun k hk e => by have := hown4.block k hk; have := hO3.size; omega)).base hO3.size
  have hok : ∀ k, (Value.slice oa ask.length oc).ownBlock = some k → ¬ k = w.heap.size := fun k hk e => by
    have h1 := hown4.block k hk
    have h2 := (Array.getElem?_eq_some_iff.1 hh3).1
    omega
  clear k4 k5 k6 k7 k8 k9 k17 e17 hb4 hn3 hO3 hh3 hask f17 hn4 hO4 hh4 hown4 hown2 hsz4
  go_wp2_with fail
  obtain ⟨W5, hW5⟩ : ∃ W5, w4.setCell ⟨p, 18, none⟩ (.slice oa ask.length oc) = W5 := ⟨_, rfl⟩
  rw [hW5] at hn5 hO5 hh5 hown5 ⊢
  clear hW5 f18 e18
  have c17 : W5.cell? ⟨p, 17, none⟩ = some (.int .i64 id') := hn5.cell 17
  have c18 : W5.cell? ⟨p, 18, none⟩ = some (.slice oa ask.length oc) := hn5.cell 18
  have hcl := clone_any (.slice oa ask.length oc) ask W5.drew (hown5.at) (by omega)
  obtain ⟨d0, d1, d2, d3⟩ := packet_cells hh5
  refine wp_schedL (fun w' => w'.cell? ⟨p, 17, none⟩ = some (.int .i64 id') ∧ w'.cell? ⟨p, 18, none⟩ = some (.slice oa ask.length oc)) [(0, true), (1, true), (2, true), (3, true), (4, true), (5, true), (6, true), (7, true), (8, false), (9, true), (10, false), (11, true)] (by kernel_rfl) (by kernel_rfl) rfl (by kernel_rfl) (by kernel_rfl) ⟨c17, c18⟩ (fun _ d _ _ _ h => by cases d <;> exact h) ?_
  simp only [schedOps, List.filterMap_cons, List.filterMap_nil, List.getElem?_toArray, List.getElem?_cons_zero, List.getElem?_cons_succ, Option.map_some]
  repeat (first | (refine' wpSched_take _ (by rfl) (fun wS hS => ?_) ?_; rotate_left; (focus (obtain ⟨c17, c18⟩ := hS; go_simp; first | done | rfl)); (try simp only [Act.put, List.setIfInBounds_toArray, List.set_cons_zero, List.set_cons_succ])) | (refine wpSched_skip (by rfl) ?_; try simp only [Act.put, List.setIfInBounds_toArray, List.set_cons_zero, List.set_cons_succ]))
  refine wpSched_run (fun K hK => ?_)
  go_wp2_with (go_at_call 29; refine hcl.mono ?_; rintro e w6 ⟨⟨v', rfl, hown6⟩, hb6⟩; obtain ⟨va, vc, rfl, hvc1, hvc2⟩ := SeqAt.form hown6.at)
  refine QRun_normal (hK.out _ _ ⟨fsm_below_cell (W := W5.drew) hb6 c17, fsm_below_cell (W := W5.drew) hb6 c18⟩ ?_)
  clear hK K
  repeat (first | (refine' wpSched_take _ (by rfl) (fun wS hS => ?_) ?_; rotate_left; (focus (obtain ⟨c17, c18⟩ := hS; go_simp; first | done | rfl)); (try simp only [Act.put, List.setIfInBounds_toArray, List.set_cons_zero, List.set_cons_succ])) | (refine wpSched_skip (by rfl) ?_; try simp only [Act.put, List.setIfInBounds_toArray, List.set_cons_zero, List.set_cons_succ]))
  have hh6 := below_of (w := W5.drew) hb6 hh5
  have hn6 := NegBlk.below (w := W5.drew) hn5 hb6
  have hO6 : Only (· = p) w w6 := (hO5.drew).then hb6
  have hov6 : OwnE optE w6 w.heap.size (.slice oa ask.length oc) ask := OwnE.below (w := W5.drew) hown5 hb6
  have hov7 : OwnE optE w6 w.heap.size (.slice va ask.length vc) ask := hown6.base hO5.size
  have e17 : w6.cell? ⟨p, 17, none⟩ = some (.int .i64 id') := hn6.cell 17
  have e18 : w6.cell? ⟨p, 18, none⟩ = some (.slice oa ask.length oc) := hn6.cell 18
  have hvk : ∀ k, (Value.slice va ask.length vc).ownBlock = some k → ¬ k = w.heap.size := fun k hk e => by
    have h1 := hown6.block k hk
    have h2 : w.heap.size < W5.heap.size := (Array.getElem?_eq_some_iff.1 hh5).1
    have h3 : W5.drew.heap.size = W5.heap.size := rfl
    omega
  have hsep : ∀ k, (Value.slice va ask.length vc).ownBlock = some k → (Value.slice oa ask.length oc).ownBlock ≠ some k := fun k hk e => by
    have h1 := hown6.block k hk
    have h2 := hown5.lt k e
    have h3 : W5.drew.heap.size = W5.heap.size := rfl
    omega
  clear hcl hb6 hown5 hown6 hh5 hn5 hO5 d0 d1 d2 d3 c17 c18
  obtain ⟨d0, d1, d2, d3⟩ := packet_cells hh6
  have g0 := packet_frozen hh6 0
  have g1 := packet_frozen hh6 1
  have g2 := packet_frozen hh6 2
  have g3 := packet_frozen hh6 3
  refine wpSched_run (fun K hK => ?_)
  go_wp2_with fail
  have hS4 := sets4_only w6 w.heap.size (.int .i64 1) (.int .i64 id') (.slice va ask.length vc) (.string ⟨#[]⟩)
  have hpa : p ≠ w.heap.size := fun e => hne e.symm
  refine QRun_normal (hK.out _ _ ⟨hS4.cell (a := ⟨p, 17, none⟩) e17 hpa, hS4.cell (a := ⟨p, 18, none⟩) e18 hpa⟩ ?_)
  clear hK K
  repeat (first | (refine' wpSched_take _ (by rfl) (fun wS hS => ?_) ?_; rotate_left; (focus (obtain ⟨c17, c18⟩ := hS; go_simp; first | done | rfl)); (try simp only [Act.put, List.setIfInBounds_toArray, List.set_cons_zero, List.set_cons_succ])) | (refine wpSched_skip (by rfl) ?_; try simp only [Act.put, List.setIfInBounds_toArray, List.set_cons_zero, List.set_cons_succ]))
  refine wpSched_done ?_
  have hO8 : Only (· = p) w _ := hO6.and hS4 (fun i hi => .inr (by omega))
  have hn8 := hS4.heap hn6 hpa
  have hov8 := hov6.only hS4 hok
  have hva8 := hov7.only hS4 hvk
  obtain ⟨k0, k1, k2, k3⟩ := packet_cells (packet_after hh6 (.int .i64 1) (.int .i64 id') (.slice va ask.length vc) (.string ⟨#[]⟩))
  clear hS4 hh6 hn6 hO6 hov6 hov7 hvk hok e17 e18 d0 d1 d2 d3 g0 g1 g2 g3
  go_wp2_with fail
  refine bodyPost_ret (v := .tuple #[.agg #[.int .i64 1, .int .i64 id', .slice va ask.length vc, .string ⟨#[]⟩], .bool true]) (by simp [results, Tryz.results39, go_sem, k0, k1, k2, k3]) rfl ⟨_, _, rfl, hva8, hn8, hov8, hO8, hsep⟩
end Go.Proofs.YtagnbdenecphcaaGreatDoor
/-! send: acts 9 and 8, the answers to a Configure-Request. -/
namespace Go.Proofs.YtagnbdenecphcaaGreatDoor
open Go.RowKit
set_option linter.unusedVariables false
set_option linter.unusedSimpArgs false
set_option maxRecDepth 100000 in
set_option maxHeartbeats 8000000 in
theorem send_nak (p q : Nat) (po ov : Value) (r : ReplyM) (w : World) (hr : ReplyBlk w q po ov r) (hov : OptsAt w ov r.os) (hL : r.os.length ≤ 1000000) :
    Calls Tryz.prog 39 #[.pointer (some ⟨p, 0, none⟩), .int .i64 9, .pointer (some ⟨q, 0, none⟩)] w fun e w' => ∃ v, e = .returned (.tuple #[.agg #[.int .i64 (if r.verdict = 2 then 4 else 3), .int .i64 r.p.id, v, .string ⟨#[]⟩], .bool true]) ∧ OwnE optE w' w.heap.size v r.os ∧ Below w.heap.size w w' := by
  have hB : ∀ ob : Obj, Below w.heap.size w (w.alloc ob) := fun ob => allocB (Below.refl _ _) ob
  have hql := hr.lt
  obtain ⟨oa, oc, rfl, hoc1, hoc2⟩ := SeqAt.form hov
  obtain ⟨c0, c1, c2, c3, c4, c5, c6⟩ := hr.cells
  obtain ⟨vd, hvd⟩ : ∃ x, r.verdict = x := ⟨_, rfl⟩
  obtain ⟨id, hid⟩ : ∃ x, r.p.id = x := ⟨_, rfl⟩
  obtain ⟨os, hos⟩ : ∃ x, r.os = x := ⟨_, rfl⟩
  rw [hvd] at c5 ⊢
  rw [hid] at c1 ⊢
  rw [hos] at c6 hov hL hoc1 ⊢
  clear hr hvd hid hos c0 c2 c3 c4
  have hne : q ≠ w.heap.size := Nat.ne_of_lt hql
  have fin : ∀ (W w6 : World) (code : Int) (va : Option Addr) (vc : Nat), Below w.heap.size w W → W.heap[w.heap.size]? = some (.cells #[.int .i64 0, .int .i64 0, .slice none 0 0, .string ⟨#[]⟩] 36 (0, 0)) → OwnE optE w6 W.heap.size (.slice va os.length vc) os → Below W.heap.size W.drew w6 →
      OwnE optE ((((w6.setCell ⟨w.heap.size, 0, none⟩ (.int .i64 code)).setCell ⟨w.heap.size, 1, none⟩ (.int .i64 id)).setCell ⟨w.heap.size, 2, none⟩ (.slice va os.length vc)).setCell ⟨w.heap.size, 3, none⟩ (.string ⟨#[]⟩)) w.heap.size (.slice va os.length vc) os ∧
      Below w.heap.size w ((((w6.setCell ⟨w.heap.size, 0, none⟩ (.int .i64 code)).setCell ⟨w.heap.size, 1, none⟩ (.int .i64 id)).setCell ⟨w.heap.size, 2, none⟩ (.slice va os.length vc)).setCell ⟨w.heap.size, 3, none⟩ (.string ⟨#[]⟩)) := by
    intro W w6 code va vc hBW hh ho hb
    have hS := sets4_only w6 w.heap.size (.int .i64 code) (.int .i64 id) (.slice va os.length vc) (.string ⟨#[]⟩)
    have h2 : w.heap.size < W.heap.size := (Array.getElem?_eq_some_iff.1 hh).1
    refine ⟨(ho.only hS (fun k hk e => by have := ho.block k hk; omega)).base hBW.size, ?_⟩
    exact (((Only.ofBelow (S := fun k => k = w.heap.size) hBW.drew).then (w1 := W.drew) hb).trans hS).below (Nat.le_refl _) (fun k h => by omega)
  by_cases hv : vd = 2
  · subst hv
    rw [if_pos rfl]
    go_enter Tryz.func39, Tryz.ntmps39
    go_wp2_with fail
    have hBW := hB (.cells #[.int .i64 0, .int .i64 0, .slice none 0 0, .string ⟨#[]⟩] 36)
    have hh := heap_alloc_last w (.cells #[.int .i64 0, .int .i64 0, .slice none 0 0, .string ⟨#[]⟩] 36 (0, 0))
    obtain ⟨W, hW⟩ : ∃ W, w.alloc (.cells #[.int .i64 0, .int .i64 0, .slice none 0 0, .string ⟨#[]⟩] 36) = W := ⟨_, rfl⟩
    rw [hW] at hh hBW ⊢
    clear hW hB
    have k1 := fsm_below_cell hBW c1
    have k6 := fsm_below_cell hBW c6
    have hcl := clone_any (.slice oa os.length oc) os W.drew (hov.below hBW.drew) (by omega)
    clear c1 c5 c6 hov
    refine wp_schedL (fun w' => w'.cell? ⟨q, 1, none⟩ = some (.int .i64 id) ∧ w'.cell? ⟨q, 6, none⟩ = some (.slice oa os.length oc)) [(0, true), (1, true), (2, true), (3, true), (4, true), (5, true), (6, true), (7, true), (8, true), (9, true), (10, false), (11, true), (12, false), (13, true)] (by kernel_rfl) (by kernel_rfl) rfl (by kernel_rfl) (by kernel_rfl) ⟨k1, k6⟩ (fun _ d _ _ _ h => by cases d <;> exact h) ?_
    simp only [schedOps, List.filterMap_cons, List.filterMap_nil, List.getElem?_toArray, List.getElem?_cons_zero, List.getElem?_cons_succ, Option.map_some]
    repeat (first | (refine' wpSched_take _ (by rfl) (fun wS hS => ?_) ?_; rotate_left; (focus (obtain ⟨k1, k6⟩ := hS; go_simp; first | done | rfl)); (try simp only [Act.put, List.setIfInBounds_toArray, List.set_cons_zero, List.set_cons_succ])) | (refine wpSched_skip (by rfl) ?_; try simp only [Act.put, List.setIfInBounds_toArray, List.set_cons_zero, List.set_cons_succ]))
    refine wpSched_run (fun K hK => ?_)
    go_wp2_with (go_at_call 29; refine hcl.mono ?_; rintro e w6 ⟨⟨v', rfl, hown6⟩, hb6⟩; obtain ⟨va, vc, rfl, hvc1, hvc2⟩ := SeqAt.form hown6.at)
    have j1 := fsm_below_cell (W := W.drew) hb6 k1
    have j6 := fsm_below_cell (W := W.drew) hb6 k6
    refine QRun_normal (hK.out _ _ ⟨j1, j6⟩ ?_)
    clear hK K
    repeat (first | (refine' wpSched_take _ (by rfl) (fun wS hS => ?_) ?_; rotate_left; (focus (obtain ⟨k1, k6⟩ := hS; go_simp; first | done | rfl)); (try simp only [Act.put, List.setIfInBounds_toArray, List.set_cons_zero, List.set_cons_succ])) | (refine wpSched_skip (by rfl) ?_; try simp only [Act.put, List.setIfInBounds_toArray, List.set_cons_zero, List.set_cons_succ]))
    have hh6 := below_of (w := W.drew) hb6 hh
    obtain ⟨d0, d1, d2, d3⟩ := packet_cells hh6
    have g0 := packet_frozen hh6 0
    have g1 := packet_frozen hh6 1
    have g2 := packet_frozen hh6 2
    have g3 := packet_frozen hh6 3
    have hF := fin W w6 4 va vc hBW hh hown6 hb6
    clear hcl hown6 hb6 fin hBW hh k1 k6
    refine wpSched_run (fun K hK => ?_)
    go_wp2_with fail
    have hS4 := sets4_only w6 w.heap.size (.int .i64 4) (.int .i64 id) (.slice va os.length vc) (.string ⟨#[]⟩)
    refine QRun_normal (hK.out _ _ ⟨hS4.cell (a := ⟨q, 1, none⟩) j1 hne, hS4.cell (a := ⟨q, 6, none⟩) j6 hne⟩ ?_)
    clear hK K
    repeat (first | (refine' wpSched_take _ (by rfl) (fun wS hS => ?_) ?_; rotate_left; (focus (obtain ⟨k1, k6⟩ := hS; go_simp; first | done | rfl)); (try simp only [Act.put, List.setIfInBounds_toArray, List.set_cons_zero, List.set_cons_succ])) | (refine wpSched_skip (by rfl) ?_; try simp only [Act.put, List.setIfInBounds_toArray, List.set_cons_zero, List.set_cons_succ]))
    refine wpSched_done ?_
    obtain ⟨k0, k1, k2, k3⟩ := packet_cells (packet_after hh6 (.int .i64 4) (.int .i64 id) (.slice va os.length vc) (.string ⟨#[]⟩))
    clear hS4 hh6 j1 j6 d0 d1 d2 d3 g0 g1 g2 g3
    go_wp2_with fail
    refine bodyPost_ret (v := .tuple #[.agg #[.int .i64 4, .int .i64 id, .slice va os.length vc, .string ⟨#[]⟩], .bool true]) (by simp [results, Tryz.results39, go_sem, k0, k1, k2, k3]) rfl ⟨_, rfl, hF⟩
  · rw [if_neg hv]
    have q2 : (vd == 2) = false := beq_eq_false_iff_ne.2 hv
    go_enter Tryz.func39, Tryz.ntmps39
    go_wp2_with fail
    have hBW := hB (.cells #[.int .i64 0, .int .i64 0, .slice none 0 0, .string ⟨#[]⟩] 36)
    have hh := heap_alloc_last w (.cells #[.int .i64 0, .int .i64 0, .slice none 0 0, .string ⟨#[]⟩] 36 (0, 0))
    obtain ⟨W, hW⟩ : ∃ W, w.alloc (.cells #[.int .i64 0, .int .i64 0, .slice none 0 0, .string ⟨#[]⟩] 36) = W := ⟨_, rfl⟩
    rw [hW] at hh hBW ⊢
    clear hW hB
    have k1 := fsm_below_cell hBW c1
    have k6 := fsm_below_cell hBW c6
    have hcl := clone_any (.slice oa os.length oc) os W.drew (hov.below hBW.drew) (by omega)
    clear c1 c5 c6 hov
    refine wp_schedL (fun w' => w'.cell? ⟨q, 1, none⟩ = some (.int .i64 id) ∧ w'.cell? ⟨q, 6, none⟩ = some (.slice oa os.length oc)) [(0, true), (1, true), (2, true), (3, true), (4, true), (5, true), (6, true), (7, true), (8, true), (9, true), (10, false), (11, true), (12, false), (13, true)] (by kernel_rfl) (by kernel_rfl) rfl (by kernel_rfl) (by kernel_rfl) ⟨k1, k6⟩ (fun _ d _ _ _ h => by cases d <;> exact h) ?_
    simp only [schedOps, List.filterMap_cons, List.filterMap_nil, List.getElem?_toArray, List.getElem?_cons_zero, List.getElem?_cons_succ, Option.map_some]
    repeat (first | (refine' wpSched_take _ (by rfl) (fun wS hS => ?_) ?_; rotate_left; (focus (obtain ⟨k1, k6⟩ := hS; go_simp; first | done | rfl)); (try simp only [Act.put, List.setIfInBounds_toArray, List.set_cons_zero, List.set_cons_succ])) | (refine wpSched_skip (by rfl) ?_; try simp only [Act.put, List.setIfInBounds_toArray, List.set_cons_zero, List.set_cons_succ]))
    refine wpSched_run (fun K hK => ?_)
    go_wp2_with (go_at_call 29; refine hcl.mono ?_; rintro e w6 ⟨⟨v', rfl, hown6⟩, hb6⟩; obtain ⟨va, vc, rfl, hvc1, hvc2⟩ := SeqAt.form hown6.at)
    have j1 := fsm_below_cell (W := W.drew) hb6 k1
    have j6 := fsm_below_cell (W := W.drew) hb6 k6
    refine QRun_normal (hK.out _ _ ⟨j1, j6⟩ ?_)
    clear hK K
    repeat (first | (refine' wpSched_take _ (by rfl) (fun wS hS => ?_) ?_; rotate_left; (focus (obtain ⟨k1, k6⟩ := hS; go_simp; first | done | rfl)); (try simp only [Act.put, List.setIfInBounds_toArray, List.set_cons_zero, List.set_cons_succ])) | (refine wpSched_skip (by rfl) ?_; try simp only [Act.put, List.setIfInBounds_toArray, List.set_cons_zero, List.set_cons_succ]))
    have hh6 := below_of (w := W.drew) hb6 hh
    obtain ⟨d0, d1, d2, d3⟩ := packet_cells hh6
    have g0 := packet_frozen hh6 0
    have g1 := packet_frozen hh6 1
    have g2 := packet_frozen hh6 2
    have g3 := packet_frozen hh6 3
    have hF := fin W w6 3 va vc hBW hh hown6 hb6
    clear hcl hown6 hb6 fin hBW hh k1 k6
    refine wpSched_run (fun K hK => ?_)
    go_wp2_with fail
    have hS4 := sets4_only w6 w.heap.size (.int .i64 3) (.int .i64 id) (.slice va os.length vc) (.string ⟨#[]⟩)
    refine QRun_normal (hK.out _ _ ⟨hS4.cell (a := ⟨q, 1, none⟩) j1 hne, hS4.cell (a := ⟨q, 6, none⟩) j6 hne⟩ ?_)
    clear hK K
    repeat (first | (refine' wpSched_take _ (by rfl) (fun wS hS => ?_) ?_; rotate_left; (focus (obtain ⟨k1, k6⟩ := hS; go_simp; first | done | rfl)); (try simp only [Act.put, List.setIfInBounds_toArray, List.set_cons_zero, List.set_cons_succ])) | (refine wpSched_skip (by rfl) ?_; try simp only [Act.put, List.setIfInBounds_toArray, List.set_cons_zero, List.set_cons_succ]))
    refine wpSched_done ?_
    obtain ⟨k0, k1, k2, k3⟩ := packet_cells (packet_after hh6 (.int .i64 3) (.int .i64 id) (.slice va os.length vc) (.string ⟨#[]⟩))
    clear hS4 hh6 j1 j6 d0 d1 d2 d3 g0 g1 g2 g3
    go_wp2_with fail
    refine bodyPost_ret (v := .tuple #[.agg #[.int .i64 3, .int .i64 id, .slice va os.length vc, .string ⟨#[]⟩], .bool true]) (by simp [results, Tryz.results39, go_sem, k0, k1, k2, k3]) rfl ⟨_, rfl, hF⟩
end Go.Proofs.YtagnbdenecphcaaGreatDoor
