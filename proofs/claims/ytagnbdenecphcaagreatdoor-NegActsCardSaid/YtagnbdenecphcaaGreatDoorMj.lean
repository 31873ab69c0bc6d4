/- neg.clone; next, count. a Neg's block; next, count. automaton.step. neg.New, the good case. comparing two options. -/
import Derived.Test.YtagnbdenecphcaaGreatDoorMi
import Derived.Laws.StructEq
import Derived.ChangeKeysEq
/-! neg.clone; next, count. -/
namespace Go.Proofs.YtagnbdenecphcaaGreatDoor
open Go.RowKit
set_option linter.unusedVariables false
set_option linter.unusedSimpArgs false
theorem run_eql_slice_nil' (w : World) (a : Option Addr) (l c : Nat) : (binOp .eql 34 (.slice a l c) (.slice none 0 0)).run Tryz.prog w = .ok (.bool a.isNone) w := by
  simp only [binOp]
  simp [run_equal_slice_nil w 34 70 a l c Tryz.underlying34]
theorem OwnE.made0 {w : World} : OwnE optE (w.alloc (.cells #[] 70)) w.heap.size (.slice (some ⟨w.heap.size, 0, none⟩) 0 0) [] :=
  World.ownsRow_made w #[] 0 (Nat.le_refl _) (by decide) (by decide)
set_option maxRecDepth 100000 in
set_option maxHeartbeats 8000000 in
theorem sclone_any (v : Value) (l : List OptM) (w : World) (h : OptsAt w v l) (hL : l.length * 24 ≤ 140737488355328) :
    Calls Tryz.prog 48 #[v] w fun e w' => (∃ v', e = .returned v' ∧ OwnE optE w' w.heap.size v' l) ∧ Below w.heap.size w w' := by
  rcases h.or with ⟨rfl, rfl⟩ | ⟨g, o, c, rfl⟩
  · have hq := fun w => run_eql_slice_nil' w none 0 0
    simp only [Option.isNone_none] at hq
    go_enter Tryz.func48, Tryz.ntmps48
    go_wp2_with fail
    go_ret
    exact ⟨⟨_, rfl, OwnE.nil _ _ _⟩, Below.refl _ _⟩
  · have hB : Below w.heap.size w (w.alloc (.cells #[] 70)) := allocB (Below.refl _ _) _
    have hL24 : (([] : List OptM).length + l.length) * 24 ≤ 140737488355328 := by simpa using hL
    have hown : OwnE optE (w.alloc (.cells #[] 70)) w.heap.size (.slice (some ⟨w.heap.size, 0, none⟩) 0 0) [] := OwnE.made0
    have hv := h.below hB
    have hq := fun w => run_eql_slice_nil' w (some ⟨g, o, none⟩) l.length c
    simp only [Option.isNone_some] at hq
    clear h
    go_enter Tryz.func48, Tryz.ntmps48
    go_wp2_with (at_builtin; refine wpList_appOs rfl _ _ rfl w _ _ [] l hown hv rfl rfl hL24 hB ?_; intro v' w6 hown6 hbl6 _ _)
    go_ret
    exact ⟨⟨v', rfl, by simpa using hown6⟩, hbl6⟩
set_option maxRecDepth 100000 in
theorem clone_any (v : Value) (l : List OptM) (w : World) (h : OptsAt w v l) (hL : l.length * 24 ≤ 140737488355328) :
    Calls Tryz.prog 29 #[v] w fun e w' => (∃ v', e = .returned v' ∧ OwnE optE w' w.heap.size v' l) ∧ Below w.heap.size w w' := by
  have hc := sclone_any v l w h hL
  obtain ⟨a, c, rfl, _, _⟩ := SeqAt.form h
  clear h
  go_enter Tryz.func29, Tryz.ntmps29
  go_wp2_with fail
  refine hc.mono ?_
  rintro e w1 ⟨⟨v', rfl, hown⟩, hb⟩
  clear hc
  go_wp2_with fail
  go_ret
  exact ⟨⟨v', rfl, hown⟩, hb⟩
end Go.Proofs.YtagnbdenecphcaaGreatDoor
/-! a Neg's block; next, count. -/
namespace Go.Proofs.YtagnbdenecphcaaGreatDoor
open Go.RowKit
set_option linter.unusedVariables false
set_option linter.unusedSimpArgs false
/-- the cells of a Neg: t its table's block, o its options -/
def negCells (t : Nat) (o : Value) (s : NegM) : Array Value := #[.pointer (some ⟨t, 0, none⟩), .int .i64 s.state, .int .i64 s.left, .int .i64 s.tries, .int .i64 s.own.mru, .int .i64 s.own.magic, .int .i64 s.own.mrru, .bool s.own.short, .string s.own.disc, .int .i64 s.own.num, .int .i64 s.other.mru, .int .i64 s.other.magic, .int .i64 s.other.mrru, .bool s.other.short, .string s.other.disc, .int .i64 s.other.num, .int .i64 s.id, .int .i64 s.asked, o]
/-- the block of a Neg -/
def NegBlk (w : World) (p t : Nat) (o : Value) (s : NegM) : Prop := w.heap[p]? = some (.cells (negCells t o s) 61 (0, 0))
theorem NegBlk.set {w : World} {p t : Nat} {o : Value} {s : NegM} (h : NegBlk w p t o s) (i : Nat) (x : Value) (o' : Value) (s' : NegM) (he : (negCells t o s).setIfInBounds i x = negCells t o' s') : NegBlk (w.setCell ⟨p, i, none⟩ x) p t o' s' := by
  have := heap_setCell_same w p i (negCells t o s) 61 x h
  rw [he] at this
  exact this
theorem NegBlk.cell {w : World} {p t : Nat} {o : Value} {s : NegM} (h : NegBlk w p t o s) (i : Nat) : w.cell? ⟨p, i, none⟩ = (negCells t o s)[i]? := by
  unfold NegBlk at h
  simp [World.cell?, h]
theorem NegBlk.frozen {w : World} {p t : Nat} {o : Value} {s : NegM} (h : NegBlk w p t o s) (i : Nat) : w.frozen? ⟨p, i, none⟩ = false := by
  unfold NegBlk at h
  simp [World.frozen?, h]
set_option maxRecDepth 100000 in
theorem next_any (p t : Nat) (o : Value) (s : NegM) (w : World) (h : NegBlk w p t o s) (hi : 0 ≤ s.id ∧ s.id ≤ 255) :
    Calls Tryz.prog 62 #[.pointer (some ⟨p, 0, none⟩)] w fun e w' => e = .returned (.int .i64 (nextM s).id) ∧ NegBlk w' p t o (nextM s) ∧ Only (· = p) w w' := by
  have c16 : w.cell? ⟨p, 16, none⟩ = some (.int .i64 s.id) := h.cell 16
  have f16 := h.frozen 16
  have hs := h.set 16 (.int .i64 ((s.id + 1) % 256)) o (nextM s) rfl
  have e16 : (w.setCell ⟨p, 16, none⟩ (.int .i64 ((s.id + 1) % 256))).cell? ⟨p, 16, none⟩ = some (.int .i64 ((s.id + 1) % 256)) := hs.cell 16
  have hw : IntKind.i64.wrap (s.id + 1) = s.id + 1 := IntWalk.i64_in _ (by omega)
  have ht : (s.id + 1).tmod 256 = (s.id + 1) % 256 := Int.tmod_eq_emod_of_nonneg (by omega)
  have HR := Lib.hid (show (nextM s).id = (s.id + 1) % 256 from rfl)
  obtain ⟨h0, h1⟩ := hi
  go_enter Tryz.func62, Tryz.ntmps62
  go_wp2_with fail
  go_ret
  exact ⟨by rw [HR.out]; rfl, hs, only_set _ _ _ _⟩
set_option maxRecDepth 100000 in
theorem count_any (p t : Nat) (o : Value) (s : NegM) (w : World) (h : NegBlk w p t o s) (hi : 0 ≤ s.left ∧ s.left ≤ 10) :
    Calls Tryz.prog 61 #[.pointer (some ⟨p, 0, none⟩)] w fun e w' => e = .returned (.tuple #[]) ∧ NegBlk w' p t o (countM s) ∧ Only (· = p) w w' := by
  have c2 : w.cell? ⟨p, 2, none⟩ = some (.int .i64 s.left) := h.cell 2
  have f2 := h.frozen 2
  have hw : IntKind.i64.wrap (s.left - 1) = s.left - 1 := IntWalk.i64_in _ (by omega)
  have hs := h.set 2 (.int .i64 (max 0 (s.left - 1))) o (countM s) rfl
  obtain ⟨h0, h1⟩ := hi
  go_enter Tryz.func61, Tryz.ntmps61
  go_wp2_with fail
  go_end0
  exact ⟨rfl, hs, only_set _ _ _ _⟩
end Go.Proofs.YtagnbdenecphcaaGreatDoor
/-! automaton.step. -/
namespace Go.Proofs.YtagnbdenecphcaaGreatDoor
open Go.RowKit
set_option linter.unusedVariables false
set_option linter.unusedSimpArgs false
theorem NegBlk.below {w w' : World} {p t : Nat} {o : Value} {s : NegM} (h : NegBlk w p t o s) (hb : Below w.heap.size w w') : NegBlk w' p t o s := below_of hb h
theorem NegBlk.lt {w : World} {p t : Nat} {o : Value} {s : NegM} (h : NegBlk w p t o s) : p < w.heap.size := (Array.getElem?_eq_some_iff.1 h).1
theorem OwnI.only {S : Nat → Prop} {w w' : World} {bs : Nat} {v : Value} {l : List Int} (h : OwnI w bs v l) (ho : Only S w w') (hn : ∀ k, v.ownBlock = some k → ¬ S k) : OwnI w' bs v l := by
  refine ⟨h.1, ?_⟩
  rcases h.2 with h2 | ⟨g, cap, cur, rfl, hg, hh, r⟩
  · exact .inl h2
  · exact .inr ⟨g, cap, cur, rfl, hg, ho.heap hh (hn g rfl), r⟩
set_option maxRecDepth 100000 in
set_option maxHeartbeats 4000000 in
theorem step_bad (p t : Nat) (o : Value) (s : NegM) (ev ml : Int) (w : World) (h : NegBlk w p t o s) (ht : TableAt w t) (hm : MaxLenIs w ml) (he : (stepSays s.state ev).2.2 ≠ 0) :
    Calls Tryz.prog 38 #[.pointer (some ⟨p, 0, none⟩), .int .i64 ev] w fun e w' => e = .returned (.tuple #[.slice none 0 0, .int .i64 1501]) ∧ Below w.heap.size w w' := by
  have hst := tstep_any t s.state ev ml (w.drew) (fun v s hv hs => ht v s hv hs) hm
  have c0 : w.cell? ⟨p, 0, none⟩ = some (.pointer (some ⟨t, 0, none⟩)) := h.cell 0
  have c1 : w.cell? ⟨p, 1, none⟩ = some (.int .i64 s.state) := h.cell 1
  obtain ⟨X, hX⟩ : ∃ X, stepSays s.state ev = X := ⟨_, rfl⟩
  rw [hX] at he hst
  obtain ⟨n, al, x⟩ := X
  obtain ⟨st, hse⟩ : ∃ x, s.state = x := ⟨_, rfl⟩
  rw [hse] at c1 hst
  dsimp only at he hst
  have hd : decide (x = 0) = false := decide_eq_false he
  clear h ht hm hX hse
  go_enter Tryz.func38, Tryz.ntmps38
  go_wp2_with fail
  refine wp_schedL (fun w' => w'.cell? ⟨p, 0, none⟩ = some (.pointer (some ⟨t, 0, none⟩)) ∧ w'.cell? ⟨p, 1, none⟩ = some (.int .i64 st)) [(0, true), (1, true), (2, true), (3, true), (4, true), (5, true), (6, true), (7, true), (8, true), (9, false), (10, true), (11, true), (12, true), (13, true), (14, true), (15, true), (16, true)] (by kernel_rfl) (by kernel_rfl) rfl (by kernel_rfl) (by kernel_rfl) ⟨c0, c1⟩ (fun _ d _ _ _ h => by cases d <;> exact h) ?_
  simp only [schedOps, List.filterMap_cons, List.filterMap_nil, List.getElem?_toArray, List.getElem?_cons_zero, List.getElem?_cons_succ, Option.map_some]
  repeat (first | (refine' wpSched_take _ (by rfl) (fun wS hS => ?_) ?_; rotate_left; (focus (obtain ⟨c0, c1⟩ := hS; go_simp; first | done | rfl)); (try simp only [Act.put, List.setIfInBounds_toArray, List.set_cons_zero, List.set_cons_succ])) | (refine wpSched_skip (by rfl) ?_; try simp only [Act.put, List.setIfInBounds_toArray, List.set_cons_zero, List.set_cons_succ]))
  refine wpSched_run (fun K hK => ?_)
  go_wp2_with (go_at_call 60; refine hst.mono ?_; rintro e w1 ⟨v1, rfl, ho1, hb1⟩)
  refine QRun_normal (hK.out _ _ ⟨fsm_below_cell hb1 c0, fsm_below_cell hb1 c1⟩ ?_)
  clear hK K
  repeat (first | (refine' wpSched_take _ (by rfl) (fun wS hS => ?_) ?_; rotate_left; (focus (obtain ⟨c0, c1⟩ := hS; go_simp; first | done | rfl)); (try simp only [Act.put, List.setIfInBounds_toArray, List.set_cons_zero, List.set_cons_succ])) | (refine wpSched_skip (by rfl) ?_; try simp only [Act.put, List.setIfInBounds_toArray, List.set_cons_zero, List.set_cons_succ]))
  refine wpSched_done ?_
  go_wp2_with fail
  go_ret2
  exact ⟨rfl, (Below.refl _ _).drew.trans hb1⟩
set_option maxRecDepth 100000 in
set_option maxHeartbeats 4000000 in
theorem step_good (p t : Nat) (o : Value) (s : NegM) (ev ml : Int) (w : World) (h : NegBlk w p t o s) (ht : TableAt w t) (hm : MaxLenIs w ml) (he : (stepSays s.state ev).2.2 = 0) :
    Calls Tryz.prog 38 #[.pointer (some ⟨p, 0, none⟩), .int .i64 ev] w fun e w' => ∃ v, e = .returned (.tuple #[v, .int .i64 0]) ∧ OwnI w' w.heap.size v (stepSays s.state ev).2.1 ∧ NegBlk w' p t o { s with state := (stepSays s.state ev).1 } ∧ Only (· = p) w w' := by
  have hst := tstep_any t s.state ev ml (w.drew) (fun v s hv hs => ht v s hv hs) hm
  have c0 : w.cell? ⟨p, 0, none⟩ = some (.pointer (some ⟨t, 0, none⟩)) := h.cell 0
  have c1 : w.cell? ⟨p, 1, none⟩ = some (.int .i64 s.state) := h.cell 1
  obtain ⟨X, hX⟩ : ∃ X, stepSays s.state ev = X := ⟨_, rfl⟩
  rw [hX] at he hst ⊢
  obtain ⟨n, al, x⟩ := X
  obtain ⟨st, hse⟩ : ∃ x, s.state = x := ⟨_, rfl⟩
  rw [hse] at c1 hst
  dsimp only at he hst ⊢
  subst he
  have hN := Lib.hid h
  have hpl := h.lt
  clear h ht hm hX hse
  go_enter Tryz.func38, Tryz.ntmps38
  go_wp2_with fail
  refine wp_schedL (fun w' => w'.cell? ⟨p, 0, none⟩ = some (.pointer (some ⟨t, 0, none⟩)) ∧ w'.cell? ⟨p, 1, none⟩ = some (.int .i64 st)) [(0, true), (1, true), (2, true), (3, true), (4, true), (5, true), (6, true), (7, true), (8, true), (9, false), (10, true), (11, true), (12, true), (13, true), (14, true), (15, true), (16, true)] (by kernel_rfl) (by kernel_rfl) rfl (by kernel_rfl) (by kernel_rfl) ⟨c0, c1⟩ (fun _ d _ _ _ h => by cases d <;> exact h) ?_
  simp only [schedOps, List.filterMap_cons, List.filterMap_nil, List.getElem?_toArray, List.getElem?_cons_zero, List.getElem?_cons_succ, Option.map_some]
  repeat (first | (refine' wpSched_take _ (by rfl) (fun wS hS => ?_) ?_; rotate_left; (focus (obtain ⟨c0, c1⟩ := hS; go_simp; first | done | rfl)); (try simp only [Act.put, List.setIfInBounds_toArray, List.set_cons_zero, List.set_cons_succ])) | (refine wpSched_skip (by rfl) ?_; try simp only [Act.put, List.setIfInBounds_toArray, List.set_cons_zero, List.set_cons_succ]))
  refine wpSched_run (fun K hK => ?_)
  go_wp2_with (go_at_call 60; refine hst.mono ?_; rintro e w1 ⟨v1, rfl, ho1, hb1⟩)
  refine QRun_normal (hK.out _ _ ⟨fsm_below_cell hb1 c0, fsm_below_cell hb1 c1⟩ ?_)
  clear hK K
  repeat (first | (refine' wpSched_take _ (by rfl) (fun wS hS => ?_) ?_; rotate_left; (focus (obtain ⟨c0, c1⟩ := hS; go_simp; first | done | rfl)); (try simp only [Act.put, List.setIfInBounds_toArray, List.set_cons_zero, List.set_cons_succ])) | (refine wpSched_skip (by rfl) ?_; try simp only [Act.put, List.setIfInBounds_toArray, List.set_cons_zero, List.set_cons_succ]))
  refine wpSched_done ?_
  have hN1 : NegBlk w1 p t o s := NegBlk.below (w := w.drew) hN.out hb1
  have f1 := hN1.frozen 1
  have e1 : w1.cell? ⟨p, 1, none⟩ = some (.int .i64 s.state) := hN1.cell 1
  have hs1 := hN1.set 1 (.int .i64 n) o { s with state := n } rfl
  have hoI : OwnI (w1.setCell ⟨p, 1, none⟩ (.int .i64 n)) w.heap.size v1 al := OwnI.only ho1 (only_set w1 p 1 _) (fun k hk e => by have := ho1.block k hk; subst e; exact absurd hpl (by simpa using this))
  have hbw : Below w.heap.size w w1 := (Below.refl _ _).drew.trans hb1
  clear hst hN1 ho1 hb1
  go_wp2_with fail
  go_ret2
  exact ⟨v1, rfl, hoI, hs1, (Only.ofBelow hbw).trans (only_set _ _ _ _)⟩
end Go.Proofs.YtagnbdenecphcaaGreatDoor
/-! neg.New, the good case. -/
namespace Go.Proofs.YtagnbdenecphcaaGreatDoor
open Go.RowKit
set_option linter.unusedVariables false
set_option linter.unusedSimpArgs false
set_option maxRecDepth 100000 in
set_option maxHeartbeats 4000000 in
theorem new_good (l : LinkM) (tries : Int) (w : World) (hk : mayM l = true) (h1 : 1 ≤ tries) (h2 : tries ≤ 10) :
    Calls Tryz.prog 4 #[.agg (linkCells l), .int .i64 tries] w fun e w' => ∃ p t, e = .returned (.tuple #[.pointer (some ⟨p, 0, none⟩), .int .i64 0]) ∧ NegBlk w' p t (.slice none 0 0) (newM l tries) ∧ TableAt w' t ∧ w.heap.size ≤ p ∧ t ≠ p ∧ Below w.heap.size w w' := by
  have hmay := fun w => pmay_any l w
  rw [hk] at hmay
  unfold linkCells at hmay ⊢
  have hB : Below w.heap.size w (w.alloc (.cells #[.int .i64 l.mru, .int .i64 l.magic, .int .i64 l.mrru, .bool l.short, .string l.disc, .int .i64 l.num] 23)) := allocB (Below.refl _ _) _
  have hh := heap_alloc_last w (.cells #[.int .i64 l.mru, .int .i64 l.magic, .int .i64 l.mrru, .bool l.short, .string l.disc, .int .i64 l.num] 23 (0, 0))
  clear hk
  go_enter Tryz.func4, Tryz.ntmps4
  go_wp2_with fail
  refine (hmay _).mono ?_
  rintro e w1 ⟨rfl, hb1⟩
  have hh1 := below_of hb1 hh
  have hB1 := seqB hB hb1
  obtain ⟨k0, k1, k2, k3, k4, k5⟩ : w1.cell? ⟨w.heap.size, 0, none⟩ = some (.int .i64 l.mru) ∧ w1.cell? ⟨w.heap.size, 1, none⟩ = some (.int .i64 l.magic) ∧ w1.cell? ⟨w.heap.size, 2, none⟩ = some (.int .i64 l.mrru) ∧ w1.cell? ⟨w.heap.size, 3, none⟩ = some (.bool l.short) ∧ w1.cell? ⟨w.heap.size, 4, none⟩ = some (.string l.disc) ∧ w1.cell? ⟨w.heap.size, 5, none⟩ = some (.int .i64 l.num) := by
    simp [World.cell?, hh1]
  clear hmay hb1 hh hB hh1
  have hmk := made_any w1.drew
  go_wp2_with fail
  refine wp_schedL (fun w' => w'.cell? ⟨w.heap.size, 0, none⟩ = some (.int .i64 l.mru) ∧ w'.cell? ⟨w.heap.size, 1, none⟩ = some (.int .i64 l.magic) ∧ w'.cell? ⟨w.heap.size, 2, none⟩ = some (.int .i64 l.mrru) ∧ w'.cell? ⟨w.heap.size, 3, none⟩ = some (.bool l.short) ∧ w'.cell? ⟨w.heap.size, 4, none⟩ = some (.string l.disc) ∧ w'.cell? ⟨w.heap.size, 5, none⟩ = some (.int .i64 l.num)) [(2, true), (3, true), (0, false), (1, true), (4, true), (5, false), (6, true), (7, true)] (by kernel_rfl) (by kernel_rfl) rfl (by kernel_rfl) (by kernel_rfl) ⟨k0, k1, k2, k3, k4, k5⟩ (fun _ d _ _ _ h => by cases d <;> exact h) ?_
  simp only [schedOps, List.filterMap_cons, List.filterMap_nil, List.getElem?_toArray, List.getElem?_cons_zero, List.getElem?_cons_succ, Option.map_some]
  repeat (first | (refine' wpSched_take _ (by rfl) (fun wS hS => ?_) ?_; rotate_left; (focus (obtain ⟨k0, k1, k2, k3, k4, k5⟩ := hS; go_simp; first | done | rfl)); (try simp only [Act.put, List.setIfInBounds_toArray, List.set_cons_zero, List.set_cons_succ])) | (refine wpSched_skip (by rfl) ?_; try simp only [Act.put, List.setIfInBounds_toArray, List.set_cons_zero, List.set_cons_succ]))
  refine wpSched_run (fun K hK => ?_)
  go_wp2_with (go_at_call 21; refine hmk.mono ?_; rintro e w2 ⟨t, rfl, htab, hb2⟩)
  have g := fun {a : Addr} {v : Value} (h : w1.cell? a = some v) => fsm_below_cell (W := w1.drew) hb2 h
  refine QRun_normal (hK.out _ _ ⟨g k0, g k1, g k2, g k3, g k4, g k5⟩ ?_)
  clear hK K
  repeat (first | (refine' wpSched_take _ (by rfl) (fun wS hS => ?_) ?_; rotate_left; (focus (obtain ⟨k0, k1, k2, k3, k4, k5⟩ := hS; go_simp; first | done | rfl)); (try simp only [Act.put, List.setIfInBounds_toArray, List.set_cons_zero, List.set_cons_succ])) | (refine wpSched_skip (by rfl) ?_; try simp only [Act.put, List.setIfInBounds_toArray, List.set_cons_zero, List.set_cons_succ]))
  refine wpSched_run (fun K hK => ?_)
  go_wp2_with fail
  have hb3 : ∀ ob : Obj, Below w2.heap.size w2 (w2.alloc ob) := fun ob => (Below.refl _ _).alloc (Nat.le_refl _) ob
  have htl : t < w2.heap.size := block_lt_of_cell (htab 0 0 (by decide) (by decide))
  have hBf : ∀ ob : Obj, Below w.heap.size w (w2.alloc ob) := fun ob => allocB (seqB (drewB hB1) hb2) ob
  have hle : w.heap.size ≤ w2.heap.size := Nat.le_trans hB1.size hb2.size
  have g2 := fun {a : Addr} {v : Value} (ob : Obj) (h : w1.cell? a = some v) => fsm_below_cell (hb3 ob) (g h)
  have hneg := heap_alloc_last w2 (.cells (negCells t (.slice none 0 0) (newM l tries)) 61 (0, 0))
  have htab2 : ∀ ob : Obj, TableAt (w2.alloc ob) t := fun ob v s hv hs => fsm_below_cell (hb3 ob) (htab v s hv hs)
  refine QRun_normal (hK.out _ _ ⟨g2 _ k0, g2 _ k1, g2 _ k2, g2 _ k3, g2 _ k4, g2 _ k5⟩ ?_)
  clear hK K
  repeat (first | (refine' wpSched_take _ (by rfl) (fun wS hS => ?_) ?_; rotate_left; (focus (obtain ⟨k0, k1, k2, k3, k4, k5⟩ := hS; go_simp; first | done | rfl)); (try simp only [Act.put, List.setIfInBounds_toArray, List.set_cons_zero, List.set_cons_succ])) | (refine wpSched_skip (by rfl) ?_; try simp only [Act.put, List.setIfInBounds_toArray, List.set_cons_zero, List.set_cons_succ]))
  refine wpSched_done ?_
  clear k0 k1 k2 k3 k4 k5 g g2 hmk hb2 hB1
  go_wp2_with fail
  go_ret2
  exact ⟨w2.heap.size, t, rfl, hneg, htab2 _, hle, Nat.ne_of_lt htl, hBf _⟩
end Go.Proofs.YtagnbdenecphcaaGreatDoor
/-! comparing two options. -/
namespace Go.Proofs.YtagnbdenecphcaaGreatDoor
open Go.RowKit
set_option linter.unusedVariables false
set_option linter.unusedSimpArgs false
theorem opt_fields : (Tryz.prog.fieldsOf 70).toList.map (fun f => (f.name == "_", f.offset, f.type)) = [(false, 0, 3), (false, 1, 9)] := by kernel_rfl
theorem opt_neq (a b : OptM) (w : World) : (binOp .neq 70 (.agg #[.int .i64 a.1, .string a.2]) (.agg #[.int .i64 b.1, .string b.2])).run Tryz.prog w = .ok (.bool (!(a.1 == b.1 && a.2.toList == b.2.toList))) w := by
  rw [run_neq_struct, run_equalIn_agg w 9999 70 _ _ (by kernel_rfl) (by kernel_rfl)]
  have hf := opt_fields
  generalize (Tryz.prog.fieldsOf 70).toList = fs at hf
  obtain ⟨f1, f2, rfl⟩ : ∃ f1 f2, fs = [f1, f2] := by
    cases fs with
    | nil => cases hf
    | cons f1 fs =>
      cases fs with
      | nil => simp at hf
      | cons f2 fs =>
        cases fs with
        | nil => exact ⟨_, _, rfl⟩
        | cons _ _ => simp at hf
  simp only [List.map_cons, List.map_nil, List.cons.injEq, Prod.mk.injEq, and_true] at hf
  obtain ⟨⟨n1, o1, t1⟩, n2, o2, t2⟩ := hf
  have q1 : f1.name ≠ "_" := by simpa using n1
  have q2 : f2.name ≠ "_" := by simpa using n2
  simp only [Op.eqFields, o1, o2, t1, t2, if_pos q1, if_pos q2, Sem.run_bind]
  have p1 : ∀ x : OptM, (part 3 #[.int .i64 x.1, .string x.2] 0).run Tryz.prog w = .ok (.int .i64 x.1) w := fun x => run_part_plain w (by kernel_rfl) rfl
  have p2 : ∀ x : OptM, (part 9 #[.int .i64 x.1, .string x.2] 1).run Tryz.prog w = .ok (.string x.2) w := fun x => run_part_plain w (by kernel_rfl) rfl
  simp only [p1, Result.andThen_ok, run_equalIn_int (P := Tryz.prog) w 9998 3 .i64 .i64 a.1 b.1 Tryz.underlying3]
  cases e1 : (a.1 == b.1) with
  | false => simp [Sem.run_pure]
  | true =>
    simp only [Bool.not_true, Bool.false_eq_true, if_false, p2, Result.andThen_ok, Sem.run_bind, run_equalIn_string (P := Tryz.prog) w 9998 9 a.2 b.2 Tryz.underlying9]
    cases e2 : (a.2.toList == b.2.toList) with
    | false => simp [Sem.run_pure]
    | true => simp [Sem.run_pure]
end Go.Proofs.YtagnbdenecphcaaGreatDoor
