/- policy: better. policy: learn, Learn, Taken. policy: Learn. -/
import Derived.Test.YtagnbdenecphcaaDoorMc
import Derived.Test.YtagnbdenecphcaaDoorMb
import Derived.Outline
/-! policy: better. -/
namespace Go.Proofs.YtagnbdenecphcaaDoor
open Go.RowKit
set_option linter.unusedVariables false
set_option linter.unusedSimpArgs false
theorem heap_last2 (w : World) (a o : Obj) : ((w.alloc a).alloc o).drew.heap[w.heap.size + 1]? = some o := by
  show ((w.alloc a).alloc o).heap[w.heap.size + 1]? = _
  simpa using heap_alloc_last (w.alloc a) o
/-- what better answers: its option is told where there is one -/
def BetterPost (l : LinkM) (o : OptM) (w : World) (e : Ending) (w' : World) : Prop :=
  ∃ (k : Int) (d : ByteArray), e = .returned (.tuple #[.agg #[.int .i64 k, .string d], .bool (betterM l o).isSome]) ∧ (∀ b, betterM l o = some b → b = (k, d)) ∧ Below w.heap.size w w'
theorem opt_after {w : World} {B : Nat} {x y : Value} {T : TypeId} (hh : w.heap[B]? = some (.cells #[x, y] T (0, 0))) (u v : Value) :
    ((w.setCell ⟨B, 0, none⟩ u).setCell ⟨B, 1, none⟩ v).cell? ⟨B, 0, none⟩ = some u ∧ ((w.setCell ⟨B, 0, none⟩ u).setCell ⟨B, 1, none⟩ v).cell? ⟨B, 1, none⟩ = some v := by
  constructor <;> simp [World.cell?, World.setCell, Array.getElem?_modify, hh]
theorem max_magic (m : Int) (h0 : 0 ≤ m) (h1 : m ≤ 4294967295) : 0 ≤ max 1 (bits .xor .i64 m 4294967295) ∧ max 1 (bits .xor .i64 m 4294967295) ≤ 4294967295 := by
  obtain ⟨n, rfl⟩ : ∃ n : Nat, m = n := ⟨m.toNat, by omega⟩
  have e : bits .xor .i64 (n : Int) 4294967295 = ((n ^^^ 4294967295 : Nat) : Int) := i64_xor_nat n 4294967295 (by omega) (by decide)
  have hx : n ^^^ 4294967295 < 2 ^ 32 := Nat.xor_lt_two_pow (by omega) (by decide)
  rw [e]
  omega
set_option maxRecDepth 100000 in
set_option maxHeartbeats 4000000 in
theorem better_mru1 (p : Nat) (l : LinkM) (d : ByteArray) (w : World) (hz : d.size ≤ 9223372036854775807) :
    Calls Tryd.prog 55 #[.pointer (some ⟨p, 0, none⟩), .agg #[.int .i64 1, .string d]] w (BetterPost l (1, d) w) := by
  have hval := fun w => value_any d w hz
  obtain ⟨v, hv⟩ : ∃ v, valueM d.data.toList = v := ⟨_, rfl⟩
  rw [hv] at hval
  have HB : Hid (betterM l (1, d) = if unitM v then none else some (1, bytesOf (numB 1500 2))) := Lib.hid (by unfold betterM; rw [if_pos (by simp), hv])
  have hu := fun w => punit_any v w
  have hn := fun w => number_any 1500 2 w (by decide) (by decide) (.inl rfl)
  obtain ⟨N, hN⟩ : ∃ N, bytesOf (numB 1500 2) = N := ⟨_, rfl⟩
  rw [hN] at hn HB
  have e0 : (w.alloc (.cells #[.int .i64 1, .string d] 79)).cell? ⟨w.heap.size, 0, none⟩ = some (.int .i64 1) := by rw [World.cell?_alloc_new]; rfl
  have e2 := fsm_below_cell ((Below.refl _ _).alloc (Nat.le_refl _) (.cells #[.int .i64 0, .string ⟨#[]⟩] 79)) e0
  clear hv hN e0
  go_enter Tryd.func55, Tryd.ntmps55
  go_wp2_with fail
  refine (hval _).mono ?_
  rintro e w' ⟨rfl, rfl⟩
  go_wp2_with fail
  refine wp_schedL (fun w' => w'.cell? ⟨w.heap.size, 0, none⟩ = some (.int .i64 1)) [(0, true), (1, true), (4, true), (2, false), (3, true), (5, false), (6, true), (7, false), (8, true)] (by kernel_rfl) (by kernel_rfl) rfl (by kernel_rfl) (by kernel_rfl) e2 (fun _ d _ _ _ h => by cases d <;> exact h) ?_
  simp only [schedOps, List.filterMap_cons, List.filterMap_nil, List.getElem?_toArray, List.getElem?_cons_zero, List.getElem?_cons_succ, Option.map_some]
  repeat (first | (refine' wpSched_take _ (by rfl) (fun wS hS => ?_) ?_; rotate_left; (focus (obtain s1 := hS; go_simp; first | done | rfl)); (try simp only [Act.put, List.setIfInBounds_toArray, List.set_cons_zero, List.set_cons_succ])) | (refine wpSched_skip (by rfl) ?_; try simp only [Act.put, List.setIfInBounds_toArray, List.set_cons_zero, List.set_cons_succ]))
  refine wpSched_run (fun K hK => ?_)
  go_wp2_with (go_at_call 64; refine (hn _).mono ?_; rintro e w5 ⟨rfl, hb5⟩)
  refine QRun_normal (hK.out _ _ (fsm_below_cell hb5 e2) ?_)
  clear hK K
  repeat (first | (refine' wpSched_take _ (by rfl) (fun wS hS => ?_) ?_; rotate_left; (focus (obtain s1 := hS; go_simp; first | done | rfl)); (try simp only [Act.put, List.setIfInBounds_toArray, List.set_cons_zero, List.set_cons_succ])) | (refine wpSched_skip (by rfl) ?_; try simp only [Act.put, List.setIfInBounds_toArray, List.set_cons_zero, List.set_cons_succ]))
  refine wpSched_run (fun K hK => ?_)
  go_wp2_with (go_at_call 31; refine (hu _).mono ?_; rintro e w' ⟨rfl, rfl⟩)
  refine QRun_normal (hK.out _ _ (fsm_below_cell hb5 e2) ?_)
  clear hK K
  repeat (first | (refine' wpSched_take _ (by rfl) (fun wS hS => ?_) ?_; rotate_left; (focus (obtain s1 := hS; go_simp; first | done | rfl)); (try simp only [Act.put, List.setIfInBounds_toArray, List.set_cons_zero, List.set_cons_succ])) | (refine wpSched_skip (by rfl) ?_; try simp only [Act.put, List.setIfInBounds_toArray, List.set_cons_zero, List.set_cons_succ]))
  have hh5 := below_of hb5 (heap_last2 _ _ _)
  obtain ⟨hc5, hf5⟩ := bcell hb5
  obtain ⟨k0, k1⟩ := opt_after hh5 (.int .i64 1) (.string N)
  refine wpSched_run (fun K hK => ?_)
  go_wp2_with fail
  refine QRun_normal (hK.out _ _ ((cell_far _ _ _ _ (by simp)).trans ((cell_far _ _ _ _ (by simp)).trans (fsm_below_cell hb5 e2))) ?_)
  clear hK K
  repeat (first | (refine' wpSched_take _ (by rfl) (fun wS hS => ?_) ?_; rotate_left; (focus (obtain s1 := hS; go_simp; first | done | rfl)); (try simp only [Act.put, List.setIfInBounds_toArray, List.set_cons_zero, List.set_cons_succ])) | (refine wpSched_skip (by rfl) ?_; try simp only [Act.put, List.setIfInBounds_toArray, List.set_cons_zero, List.set_cons_succ]))
  refine wpSched_done ?_
  go_wp2_with fail
  refine bodyPost_ret (v := .tuple #[.agg #[.int .i64 1, .string N], .bool (!unitM v)]) (by simp [results, Tryd.results55, go_sem, k0, k1]) rfl ⟨1, N, ?_, ?_, ?_⟩
  · rw [HB.out]; cases unitM v <;> rfl
  · rw [HB.out]; cases unitM v <;> simp
  · exact (((seqB (drewB (allocB (allocB (Below.refl _ _) _) _)) hb5).setCell (p := ⟨w.heap.size + 1, 0, none⟩) (Nat.le_succ _) _).setCell (p := ⟨w.heap.size + 1, 1, none⟩) (Nat.le_succ _) _)
set_option maxRecDepth 100000 in
set_option maxHeartbeats 4000000 in
theorem better_mru17 (p : Nat) (l : LinkM) (d : ByteArray) (w : World) (hz : d.size ≤ 9223372036854775807) :
    Calls Tryd.prog 55 #[.pointer (some ⟨p, 0, none⟩), .agg #[.int .i64 17, .string d]] w (BetterPost l (17, d) w) := by
  have hval := fun w => value_any d w hz
  obtain ⟨v, hv⟩ : ∃ v, valueM d.data.toList = v := ⟨_, rfl⟩
  rw [hv] at hval
  have HB : Hid (betterM l (17, d) = if unitM v then none else some (17, bytesOf (numB 1500 2))) := Lib.hid (by unfold betterM; rw [if_pos (by simp), hv])
  have hu := fun w => punit_any v w
  have hn := fun w => number_any 1500 2 w (by decide) (by decide) (.inl rfl)
  obtain ⟨N, hN⟩ : ∃ N, bytesOf (numB 1500 2) = N := ⟨_, rfl⟩
  rw [hN] at hn HB
  have e0 : (w.alloc (.cells #[.int .i64 17, .string d] 79)).cell? ⟨w.heap.size, 0, none⟩ = some (.int .i64 17) := by rw [World.cell?_alloc_new]; rfl
  have e2 := fsm_below_cell ((Below.refl _ _).alloc (Nat.le_refl _) (.cells #[.int .i64 0, .string ⟨#[]⟩] 79)) e0
  clear hv hN e0
  go_enter Tryd.func55, Tryd.ntmps55
  go_wp2_with fail
  refine (hval _).mono ?_
  rintro e w' ⟨rfl, rfl⟩
  go_wp2_with fail
  refine wp_schedL (fun w' => w'.cell? ⟨w.heap.size, 0, none⟩ = some (.int .i64 17)) [(0, true), (1, true), (4, true), (2, false), (3, true), (5, false), (6, true), (7, false), (8, true)] (by kernel_rfl) (by kernel_rfl) rfl (by kernel_rfl) (by kernel_rfl) e2 (fun _ d _ _ _ h => by cases d <;> exact h) ?_
  simp only [schedOps, List.filterMap_cons, List.filterMap_nil, List.getElem?_toArray, List.getElem?_cons_zero, List.getElem?_cons_succ, Option.map_some]
  repeat (first | (refine' wpSched_take _ (by rfl) (fun wS hS => ?_) ?_; rotate_left; (focus (obtain s1 := hS; go_simp; first | done | rfl)); (try simp only [Act.put, List.setIfInBounds_toArray, List.set_cons_zero, List.set_cons_succ])) | (refine wpSched_skip (by rfl) ?_; try simp only [Act.put, List.setIfInBounds_toArray, List.set_cons_zero, List.set_cons_succ]))
  refine wpSched_run (fun K hK => ?_)
  go_wp2_with (go_at_call 64; refine (hn _).mono ?_; rintro e w5 ⟨rfl, hb5⟩)
  refine QRun_normal (hK.out _ _ (fsm_below_cell hb5 e2) ?_)
  clear hK K
  repeat (first | (refine' wpSched_take _ (by rfl) (fun wS hS => ?_) ?_; rotate_left; (focus (obtain s1 := hS; go_simp; first | done | rfl)); (try simp only [Act.put, List.setIfInBounds_toArray, List.set_cons_zero, List.set_cons_succ])) | (refine wpSched_skip (by rfl) ?_; try simp only [Act.put, List.setIfInBounds_toArray, List.set_cons_zero, List.set_cons_succ]))
  refine wpSched_run (fun K hK => ?_)
  go_wp2_with (go_at_call 31; refine (hu _).mono ?_; rintro e w' ⟨rfl, rfl⟩)
  refine QRun_normal (hK.out _ _ (fsm_below_cell hb5 e2) ?_)
  clear hK K
  repeat (first | (refine' wpSched_take _ (by rfl) (fun wS hS => ?_) ?_; rotate_left; (focus (obtain s1 := hS; go_simp; first | done | rfl)); (try simp only [Act.put, List.setIfInBounds_toArray, List.set_cons_zero, List.set_cons_succ])) | (refine wpSched_skip (by rfl) ?_; try simp only [Act.put, List.setIfInBounds_toArray, List.set_cons_zero, List.set_cons_succ]))
  have hh5 := below_of hb5 (heap_last2 _ _ _)
  obtain ⟨hc5, hf5⟩ := bcell hb5
  obtain ⟨k0, k1⟩ := opt_after hh5 (.int .i64 17) (.string N)
  refine wpSched_run (fun K hK => ?_)
  go_wp2_with fail
  refine QRun_normal (hK.out _ _ ((cell_far _ _ _ _ (by simp)).trans ((cell_far _ _ _ _ (by simp)).trans (fsm_below_cell hb5 e2))) ?_)
  clear hK K
  repeat (first | (refine' wpSched_take _ (by rfl) (fun wS hS => ?_) ?_; rotate_left; (focus (obtain s1 := hS; go_simp; first | done | rfl)); (try simp only [Act.put, List.setIfInBounds_toArray, List.set_cons_zero, List.set_cons_succ])) | (refine wpSched_skip (by rfl) ?_; try simp only [Act.put, List.setIfInBounds_toArray, List.set_cons_zero, List.set_cons_succ]))
  refine wpSched_done ?_
  go_wp2_with fail
  refine bodyPost_ret (v := .tuple #[.agg #[.int .i64 17, .string N], .bool (!unitM v)]) (by simp [results, Tryd.results55, go_sem, k0, k1]) rfl ⟨17, N, ?_, ?_, ?_⟩
  · rw [HB.out]; cases unitM v <;> rfl
  · rw [HB.out]; cases unitM v <;> simp
  · exact (((seqB (drewB (allocB (allocB (Below.refl _ _) _) _)) hb5).setCell (p := ⟨w.heap.size + 1, 0, none⟩) (Nat.le_succ _) _).setCell (p := ⟨w.heap.size + 1, 1, none⟩) (Nat.le_succ _) _)
set_option maxRecDepth 100000 in
set_option maxHeartbeats 4000000 in
theorem better_magic0 (p : Nat) (l : LinkM) (d : ByteArray) (w : World) (h : SideAt w p l) (h0 : 0 ≤ l.magic) (h1 : l.magic ≤ 4294967295) (hz : d.size ≤ 9223372036854775807) (hyp : valueM d.data.toList = 0) :
    Calls Tryd.prog 55 #[.pointer (some ⟨p, 0, none⟩), .agg #[.int .i64 5, .string d]] w (BetterPost l (5, d) w) := by
  have hpl := h.lt
  have hc1 := h.cells.2.1
  have hval := fun w => value_any d w hz
  obtain ⟨v, hv⟩ : ∃ v, valueM d.data.toList = v := ⟨_, rfl⟩
  rw [hv] at hval hyp
  have HB : Hid (betterM l (5, d) = if v = 0 ∨ v = l.magic then some (5, bytesOf (numB (max 1 (bits .xor .i64 l.magic 4294967295)) 4)) else none) := Lib.hid (by unfold betterM; rw [if_neg (by simp), if_pos rfl, hv])
  have hM := max_magic l.magic h0 h1
  have hn := fun w => number_any (max 1 (bits .xor .i64 l.magic 4294967295)) 4 w hM.1 hM.2 (.inr rfl)
  obtain ⟨N, hN⟩ : ∃ N, bytesOf (numB (max 1 (bits .xor .i64 l.magic 4294967295)) 4) = N := ⟨_, rfl⟩
  rw [hN] at hn HB
  obtain ⟨m, hm⟩ : ∃ m, l.magic = m := ⟨_, rfl⟩
  rw [hm] at hc1 hn HB
  try rw [hm] at hyp
  have e0 : (w.alloc (.cells #[.int .i64 5, .string d] 79)).cell? ⟨w.heap.size, 0, none⟩ = some (.int .i64 5) := by rw [World.cell?_alloc_new]; rfl
  have e1 := fsm_below_cell ((Below.refl w.heap.size w).alloc (Nat.le_refl _) (.cells #[.int .i64 5, .string d] 79)) hc1
  have e2 := fsm_below_cell ((Below.refl _ _).alloc (Nat.le_refl _) (.cells #[.int .i64 0, .string ⟨#[]⟩] 79)) e0
  have e3 := fsm_below_cell ((Below.refl _ _).alloc (Nat.le_refl _) (.cells #[.int .i64 0, .string ⟨#[]⟩] 79)) e1
  clear hv hN e0 e1 hM hm h0 h1 h hc1
  subst hyp
  go_enter Tryd.func55, Tryd.ntmps55
  go_wp2_with fail
  refine (hval _).mono ?_
  rintro e w' ⟨rfl, rfl⟩
  go_wp2_with fail
  refine wp_schedL (fun w' => w'.cell? ⟨w.heap.size, 0, none⟩ = some (.int .i64 5) ∧ w'.cell? ⟨p, 1, none⟩ = some (.int .i64 m)) [(0, true), (1, true), (2, true), (3, true), (4, true), (5, true), (6, true), (7, true), (8, true), (11, true), (12, true), (9, false), (10, true), (13, true), (14, true), (15, true), (16, true), (17, true), (18, true), (19, true), (20, true), (21, true), (22, false), (23, true)] (by kernel_rfl) (by kernel_rfl) rfl (by kernel_rfl) (by kernel_rfl) ⟨e2, e3⟩ (fun _ d _ _ _ h => by cases d <;> exact h) ?_
  simp only [schedOps, List.filterMap_cons, List.filterMap_nil, List.getElem?_toArray, List.getElem?_cons_zero, List.getElem?_cons_succ, Option.map_some]
  repeat (first | (refine' wpSched_take _ (by rfl) (fun wS hS => ?_) ?_; rotate_left; (focus (obtain ⟨s1, s2⟩ := hS; go_simp; first | done | rfl)); (try simp only [Act.put, List.setIfInBounds_toArray, List.set_cons_zero, List.set_cons_succ])) | (refine wpSched_skip (by rfl) ?_; try simp only [Act.put, List.setIfInBounds_toArray, List.set_cons_zero, List.set_cons_succ]))
  refine wpSched_run (fun K hK => ?_)
  go_wp2_with (go_at_call 64; refine (hn _).mono ?_; rintro e w5 ⟨rfl, hb5⟩)
  have g0 := fsm_below_cell hb5 e2
  have g1 := fsm_below_cell hb5 e3
  refine QRun_normal (hK.out _ _ ⟨g0, g1⟩ ?_)
  clear hK K
  repeat (first | (refine' wpSched_take _ (by rfl) (fun wS hS => ?_) ?_; rotate_left; (focus (obtain ⟨s1, s2⟩ := hS; go_simp; first | done | rfl)); (try simp only [Act.put, List.setIfInBounds_toArray, List.set_cons_zero, List.set_cons_succ])) | (refine wpSched_skip (by rfl) ?_; try simp only [Act.put, List.setIfInBounds_toArray, List.set_cons_zero, List.set_cons_succ]))
  have hh5 := below_of hb5 (heap_last2 _ _ _)
  obtain ⟨hc5, hf5⟩ := bcell hb5
  obtain ⟨k0, k1⟩ := opt_after hh5 (.int .i64 5) (.string N)
  refine wpSched_run (fun K hK => ?_)
  go_wp2_with fail
  refine QRun_normal (hK.out _ _ ⟨(cell_far _ _ _ _ (by simp)).trans ((cell_far _ _ _ _ (by simp)).trans g0), (cell_far _ _ _ _ (by simp; omega)).trans ((cell_far _ _ _ _ (by simp; omega)).trans g1)⟩ ?_)
  clear hK K
  repeat (first | (refine' wpSched_take _ (by rfl) (fun wS hS => ?_) ?_; rotate_left; (focus (obtain ⟨s1, s2⟩ := hS; go_simp; first | done | rfl)); (try simp only [Act.put, List.setIfInBounds_toArray, List.set_cons_zero, List.set_cons_succ])) | (refine wpSched_skip (by rfl) ?_; try simp only [Act.put, List.setIfInBounds_toArray, List.set_cons_zero, List.set_cons_succ]))
  refine wpSched_done ?_
  go_wp2_with fail
  refine bodyPost_ret (v := .tuple #[.agg #[.int .i64 5, .string N], .bool true]) (by simp [results, Tryd.results55, go_sem, k0, k1]) rfl ⟨5, N, ?_, ?_, ?_⟩
  · rw [HB.out, if_pos (by simp)]; rfl
  · rw [HB.out, if_pos (by simp)]; simp
  · exact (((seqB (drewB (allocB (allocB (Below.refl _ _) _) _)) hb5).setCell (p := ⟨w.heap.size + 1, 0, none⟩) (Nat.le_succ _) _).setCell (p := ⟨w.heap.size + 1, 1, none⟩) (Nat.le_succ _) _)
set_option maxRecDepth 100000 in
set_option maxHeartbeats 4000000 in
theorem better_magic1 (p : Nat) (l : LinkM) (d : ByteArray) (w : World) (h : SideAt w p l) (h0 : 0 ≤ l.magic) (h1 : l.magic ≤ 4294967295) (hz : d.size ≤ 9223372036854775807) (hyp : valueM d.data.toList ≠ 0 ∧ valueM d.data.toList = l.magic) :
    Calls Tryd.prog 55 #[.pointer (some ⟨p, 0, none⟩), .agg #[.int .i64 5, .string d]] w (BetterPost l (5, d) w) := by
  have hpl := h.lt
  have hc1 := h.cells.2.1
  have hval := fun w => value_any d w hz
  obtain ⟨v, hv⟩ : ∃ v, valueM d.data.toList = v := ⟨_, rfl⟩
  rw [hv] at hval hyp
  have HB : Hid (betterM l (5, d) = if v = 0 ∨ v = l.magic then some (5, bytesOf (numB (max 1 (bits .xor .i64 l.magic 4294967295)) 4)) else none) := Lib.hid (by unfold betterM; rw [if_neg (by simp), if_pos rfl, hv])
  have hM := max_magic l.magic h0 h1
  have hn := fun w => number_any (max 1 (bits .xor .i64 l.magic 4294967295)) 4 w hM.1 hM.2 (.inr rfl)
  obtain ⟨N, hN⟩ : ∃ N, bytesOf (numB (max 1 (bits .xor .i64 l.magic 4294967295)) 4) = N := ⟨_, rfl⟩
  rw [hN] at hn HB
  obtain ⟨m, hm⟩ : ∃ m, l.magic = m := ⟨_, rfl⟩
  rw [hm] at hc1 hn HB
  try rw [hm] at hyp
  have e0 : (w.alloc (.cells #[.int .i64 5, .string d] 79)).cell? ⟨w.heap.size, 0, none⟩ = some (.int .i64 5) := by rw [World.cell?_alloc_new]; rfl
  have e1 := fsm_below_cell ((Below.refl w.heap.size w).alloc (Nat.le_refl _) (.cells #[.int .i64 5, .string d] 79)) hc1
  have e2 := fsm_below_cell ((Below.refl _ _).alloc (Nat.le_refl _) (.cells #[.int .i64 0, .string ⟨#[]⟩] 79)) e0
  have e3 := fsm_below_cell ((Below.refl _ _).alloc (Nat.le_refl _) (.cells #[.int .i64 0, .string ⟨#[]⟩] 79)) e1
  clear hv hN e0 e1 hM hm h0 h1 h hc1
  obtain ⟨hv0, rfl⟩ := hyp
  have q0 : (v == 0) = false := beq_eq_false_iff_ne.2 hv0
  clear hv0
  go_enter Tryd.func55, Tryd.ntmps55
  go_wp2_with fail
  refine (hval _).mono ?_
  rintro e w' ⟨rfl, rfl⟩
  go_wp2_with fail
  refine wp_schedL (fun w' => w'.cell? ⟨w.heap.size, 0, none⟩ = some (.int .i64 5) ∧ w'.cell? ⟨p, 1, none⟩ = some (.int .i64 v)) [(0, true), (1, true), (2, true), (3, true), (4, true), (5, true), (6, true), (7, true), (8, true), (11, true), (12, true), (9, false), (10, true), (13, true), (14, true), (15, true), (16, true), (17, true), (18, true), (19, true), (20, true), (21, true), (22, false), (23, true)] (by kernel_rfl) (by kernel_rfl) rfl (by kernel_rfl) (by kernel_rfl) ⟨e2, e3⟩ (fun _ d _ _ _ h => by cases d <;> exact h) ?_
  simp only [schedOps, List.filterMap_cons, List.filterMap_nil, List.getElem?_toArray, List.getElem?_cons_zero, List.getElem?_cons_succ, Option.map_some]
  repeat (first | (refine' wpSched_take _ (by rfl) (fun wS hS => ?_) ?_; rotate_left; (focus (obtain ⟨s1, s2⟩ := hS; go_simp; first | done | rfl)); (try simp only [Act.put, List.setIfInBounds_toArray, List.set_cons_zero, List.set_cons_succ])) | (refine wpSched_skip (by rfl) ?_; try simp only [Act.put, List.setIfInBounds_toArray, List.set_cons_zero, List.set_cons_succ]))
  refine wpSched_run (fun K hK => ?_)
  go_wp2_with (go_at_call 64; refine (hn _).mono ?_; rintro e w5 ⟨rfl, hb5⟩)
  have g0 := fsm_below_cell hb5 e2
  have g1 := fsm_below_cell hb5 e3
  refine QRun_normal (hK.out _ _ ⟨g0, g1⟩ ?_)
  clear hK K
  repeat (first | (refine' wpSched_take _ (by rfl) (fun wS hS => ?_) ?_; rotate_left; (focus (obtain ⟨s1, s2⟩ := hS; go_simp; first | done | rfl)); (try simp only [Act.put, List.setIfInBounds_toArray, List.set_cons_zero, List.set_cons_succ])) | (refine wpSched_skip (by rfl) ?_; try simp only [Act.put, List.setIfInBounds_toArray, List.set_cons_zero, List.set_cons_succ]))
  have hh5 := below_of hb5 (heap_last2 _ _ _)
  obtain ⟨hc5, hf5⟩ := bcell hb5
  obtain ⟨k0, k1⟩ := opt_after hh5 (.int .i64 5) (.string N)
  refine wpSched_run (fun K hK => ?_)
  go_wp2_with fail
  refine QRun_normal (hK.out _ _ ⟨(cell_far _ _ _ _ (by simp)).trans ((cell_far _ _ _ _ (by simp)).trans g0), (cell_far _ _ _ _ (by simp; omega)).trans ((cell_far _ _ _ _ (by simp; omega)).trans g1)⟩ ?_)
  clear hK K
  repeat (first | (refine' wpSched_take _ (by rfl) (fun wS hS => ?_) ?_; rotate_left; (focus (obtain ⟨s1, s2⟩ := hS; go_simp; first | done | rfl)); (try simp only [Act.put, List.setIfInBounds_toArray, List.set_cons_zero, List.set_cons_succ])) | (refine wpSched_skip (by rfl) ?_; try simp only [Act.put, List.setIfInBounds_toArray, List.set_cons_zero, List.set_cons_succ]))
  refine wpSched_done ?_
  go_wp2_with fail
  refine bodyPost_ret (v := .tuple #[.agg #[.int .i64 5, .string N], .bool true]) (by simp [results, Tryd.results55, go_sem, k0, k1]) rfl ⟨5, N, ?_, ?_, ?_⟩
  · rw [HB.out, if_pos (by simp)]; rfl
  · rw [HB.out, if_pos (by simp)]; simp
  · exact (((seqB (drewB (allocB (allocB (Below.refl _ _) _) _)) hb5).setCell (p := ⟨w.heap.size + 1, 0, none⟩) (Nat.le_succ _) _).setCell (p := ⟨w.heap.size + 1, 1, none⟩) (Nat.le_succ _) _)
set_option maxRecDepth 100000 in
set_option maxHeartbeats 4000000 in
theorem better_magic2 (p : Nat) (l : LinkM) (d : ByteArray) (w : World) (h : SideAt w p l) (h0 : 0 ≤ l.magic) (h1 : l.magic ≤ 4294967295) (hz : d.size ≤ 9223372036854775807) (hyp : valueM d.data.toList ≠ 0 ∧ valueM d.data.toList ≠ l.magic) :
    Calls Tryd.prog 55 #[.pointer (some ⟨p, 0, none⟩), .agg #[.int .i64 5, .string d]] w (BetterPost l (5, d) w) := by
  have hpl := h.lt
  have hc1 := h.cells.2.1
  have hval := fun w => value_any d w hz
  obtain ⟨v, hv⟩ : ∃ v, valueM d.data.toList = v := ⟨_, rfl⟩
  rw [hv] at hval hyp
  have HB : Hid (betterM l (5, d) = if v = 0 ∨ v = l.magic then some (5, bytesOf (numB (max 1 (bits .xor .i64 l.magic 4294967295)) 4)) else none) := Lib.hid (by unfold betterM; rw [if_neg (by simp), if_pos rfl, hv])
  have hM := max_magic l.magic h0 h1
  have hn := fun w => number_any (max 1 (bits .xor .i64 l.magic 4294967295)) 4 w hM.1 hM.2 (.inr rfl)
  obtain ⟨N, hN⟩ : ∃ N, bytesOf (numB (max 1 (bits .xor .i64 l.magic 4294967295)) 4) = N := ⟨_, rfl⟩
  rw [hN] at hn HB
  obtain ⟨m, hm⟩ : ∃ m, l.magic = m := ⟨_, rfl⟩
  rw [hm] at hc1 hn HB
  try rw [hm] at hyp
  have e0 : (w.alloc (.cells #[.int .i64 5, .string d] 79)).cell? ⟨w.heap.size, 0, none⟩ = some (.int .i64 5) := by rw [World.cell?_alloc_new]; rfl
  have e1 := fsm_below_cell ((Below.refl w.heap.size w).alloc (Nat.le_refl _) (.cells #[.int .i64 5, .string d] 79)) hc1
  have e2 := fsm_below_cell ((Below.refl _ _).alloc (Nat.le_refl _) (.cells #[.int .i64 0, .string ⟨#[]⟩] 79)) e0
  have e3 := fsm_below_cell ((Below.refl _ _).alloc (Nat.le_refl _) (.cells #[.int .i64 0, .string ⟨#[]⟩] 79)) e1
  clear hv hN e0 e1 hM hm h0 h1 h hc1
  obtain ⟨hv0, hvm⟩ := hyp
  have q0 : (v == 0) = false := beq_eq_false_iff_ne.2 hv0
  have q1 : (v == m) = false := beq_eq_false_iff_ne.2 hvm
  have HN : Hid (¬ (v = 0 ∨ v = m)) := Lib.hid (fun h => h.elim hv0 hvm)
  clear hv0 hvm
  go_enter Tryd.func55, Tryd.ntmps55
  go_wp2_with fail
  refine (hval _).mono ?_
  rintro e w' ⟨rfl, rfl⟩
  go_wp2_with fail
  refine wp_schedL (fun w' => w'.cell? ⟨w.heap.size, 0, none⟩ = some (.int .i64 5) ∧ w'.cell? ⟨p, 1, none⟩ = some (.int .i64 m)) [(0, true), (1, true), (2, true), (3, true), (4, true), (5, true), (6, true), (7, true), (8, true), (11, true), (12, true), (9, false), (10, true), (13, true), (14, true), (15, true), (16, true), (17, true), (18, true), (19, true), (20, true), (21, true), (22, false), (23, true)] (by kernel_rfl) (by kernel_rfl) rfl (by kernel_rfl) (by kernel_rfl) ⟨e2, e3⟩ (fun _ d _ _ _ h => by cases d <;> exact h) ?_
  simp only [schedOps, List.filterMap_cons, List.filterMap_nil, List.getElem?_toArray, List.getElem?_cons_zero, List.getElem?_cons_succ, Option.map_some]
  repeat (first | (refine' wpSched_take _ (by rfl) (fun wS hS => ?_) ?_; rotate_left; (focus (obtain ⟨s1, s2⟩ := hS; go_simp; first | done | rfl)); (try simp only [Act.put, List.setIfInBounds_toArray, List.set_cons_zero, List.set_cons_succ])) | (refine wpSched_skip (by rfl) ?_; try simp only [Act.put, List.setIfInBounds_toArray, List.set_cons_zero, List.set_cons_succ]))
  refine wpSched_run (fun K hK => ?_)
  go_wp2_with (go_at_call 64; refine (hn _).mono ?_; rintro e w5 ⟨rfl, hb5⟩)
  have g0 := fsm_below_cell hb5 e2
  have g1 := fsm_below_cell hb5 e3
  refine QRun_normal (hK.out _ _ ⟨g0, g1⟩ ?_)
  clear hK K
  repeat (first | (refine' wpSched_take _ (by rfl) (fun wS hS => ?_) ?_; rotate_left; (focus (obtain ⟨s1, s2⟩ := hS; go_simp; first | done | rfl)); (try simp only [Act.put, List.setIfInBounds_toArray, List.set_cons_zero, List.set_cons_succ])) | (refine wpSched_skip (by rfl) ?_; try simp only [Act.put, List.setIfInBounds_toArray, List.set_cons_zero, List.set_cons_succ]))
  have hh5 := below_of hb5 (heap_last2 _ _ _)
  obtain ⟨hc5, hf5⟩ := bcell hb5
  obtain ⟨k0, k1⟩ := opt_after hh5 (.int .i64 5) (.string N)
  refine wpSched_run (fun K hK => ?_)
  go_wp2_with fail
  refine QRun_normal (hK.out _ _ ⟨(cell_far _ _ _ _ (by simp)).trans ((cell_far _ _ _ _ (by simp)).trans g0), (cell_far _ _ _ _ (by simp; omega)).trans ((cell_far _ _ _ _ (by simp; omega)).trans g1)⟩ ?_)
  clear hK K
  repeat (first | (refine' wpSched_take _ (by rfl) (fun wS hS => ?_) ?_; rotate_left; (focus (obtain ⟨s1, s2⟩ := hS; go_simp; first | done | rfl)); (try simp only [Act.put, List.setIfInBounds_toArray, List.set_cons_zero, List.set_cons_succ])) | (refine wpSched_skip (by rfl) ?_; try simp only [Act.put, List.setIfInBounds_toArray, List.set_cons_zero, List.set_cons_succ]))
  refine wpSched_done ?_
  go_wp2_with fail
  refine bodyPost_ret (v := .tuple #[.agg #[.int .i64 5, .string N], .bool false]) (by simp [results, Tryd.results55, go_sem, k0, k1]) rfl ⟨5, N, ?_, ?_, ?_⟩
  · rw [HB.out, if_neg HN.out]; rfl
  · rw [HB.out, if_neg HN.out]; simp
  · exact (((seqB (drewB (allocB (allocB (Below.refl _ _) _) _)) hb5).setCell (p := ⟨w.heap.size + 1, 0, none⟩) (Nat.le_succ _) _).setCell (p := ⟨w.heap.size + 1, 1, none⟩) (Nat.le_succ _) _)
set_option maxHeartbeats 1000000 in
theorem better_other (p : Nat) (l : LinkM) (k : Int) (d : ByteArray) (w : World) (hk : k ≠ 1 ∧ k ≠ 17 ∧ k ≠ 5) (hz : d.size ≤ 9223372036854775807) :
    Calls Tryd.prog 55 #[.pointer (some ⟨p, 0, none⟩), .agg #[.int .i64 k, .string d]] w (BetterPost l (k, d) w) := by
  have hval := fun w => value_any d w hz
  have HB : Hid (betterM l (k, d) = none) := Lib.hid (by unfold betterM; rw [if_neg (by omega), if_neg (by omega)])
  have q1 : (k == 1) = false := beq_eq_false_iff_ne.2 hk.1
  have q2 : (k == 17) = false := beq_eq_false_iff_ne.2 hk.2.1
  have q3 : (k == 5) = false := beq_eq_false_iff_ne.2 hk.2.2
  clear hk
  go_enter Tryd.func55, Tryd.ntmps55
  go_wp2_with fail
  refine (hval _).mono ?_
  rintro e w' ⟨rfl, rfl⟩
  go_wp2_with fail
  refine bodyPost_ret (v := .tuple #[.agg #[.int .i64 k, .string d], .bool false]) (by simp [results, Tryd.results55, go_sem]) rfl ⟨k, d, ?_, ?_, ?_⟩
  · rw [HB.out]; rfl
  · rw [HB.out]; intro b hb; cases hb
  · exact allocB (allocB (Below.refl _ _) _) _
theorem better_any (p : Nat) (l : LinkM) (o : OptM) (w : World) (h : SideAt w p l) (h0 : 0 ≤ l.magic) (h1 : l.magic ≤ 4294967295) (hz : o.2.size ≤ 9223372036854775807) :
    Calls Tryd.prog 55 #[.pointer (some ⟨p, 0, none⟩), .agg #[.int .i64 o.1, .string o.2]] w (BetterPost l o w) := by
  obtain ⟨k, d⟩ := o
  by_cases k1 : k = 1
  · subst k1; exact better_mru1 p l d w hz
  · by_cases k17 : k = 17
    · subst k17; exact better_mru17 p l d w hz
    · by_cases k5 : k = 5
      · subst k5
        by_cases v0 : valueM d.data.toList = 0
        · exact better_magic0 p l d w h h0 h1 hz v0
        · by_cases vm : valueM d.data.toList = l.magic
          · exact better_magic1 p l d w h h0 h1 hz ⟨v0, vm⟩
          · exact better_magic2 p l d w h h0 h1 hz ⟨v0, vm⟩
      · exact better_other p l k d w ⟨k1, k17, k5⟩ hz
end Go.Proofs.YtagnbdenecphcaaDoor
/-! policy: learn, Learn, Taken. -/
namespace Go.Proofs.YtagnbdenecphcaaDoor
open Go.RowKit
set_option linter.unusedVariables false
set_option linter.unusedSimpArgs false
theorem right_kind {o : OptM} (h : rightM o = true) : (o.1 = 18 ∨ o.1 = 19 ∨ ∃ i, fieldOff o.1 = some i) ∧ o.2.size ≤ 20 := by
  unfold rightM sizeM at h
  unfold fieldOff
  simp only [Bool.or_eq_true, Bool.and_eq_true, decide_eq_true_eq] at h
  split at h
  · rename_i hk
    refine ⟨.inr (.inr ?_), by omega⟩
    rcases hk with hk | hk | hk <;> rw [hk] <;> simp
  · split at h
    · rename_i hk
      refine ⟨.inr (.inr ?_), by omega⟩
      rw [hk]; simp
    · split at h
      · rename_i hk; exact ⟨.inl hk, by omega⟩
      · split at h
        · rename_i hk; exact ⟨.inr (.inl hk), by omega⟩
        · omega
set_option maxRecDepth 100000 in
set_option maxHeartbeats 2000000 in
theorem learn_any (p : Nat) (l : LinkM) (o : OptM) (w : World) (h : SideAt w p l) (hr : rightM o = true) :
    Calls Tryd.prog 58 #[.pointer (some ⟨p, 0, none⟩), .agg #[.int .i64 o.1, .string o.2]] w fun e w' => e = .returned (.tuple #[]) ∧ SideAt w' p (learnOne l o) ∧ Only (· = p) w w' := by
  obtain ⟨hk, hz⟩ := right_kind hr
  have hset := fun w h => set_any p l o w h hk (by omega)
  obtain ⟨k, d⟩ := o
  simp only at hk hz hset ⊢
  have hval := fun w => value_any d w (by omega)
  obtain ⟨v, hv⟩ : ∃ v, valueM d.data.toList = v := ⟨_, rfl⟩
  have hu := fun w => punit_any v w
  have HL : Hid (learnOne l (k, d) = if ((k = 1 ∨ k = 17) ∧ unitM v = false) ∨ (k = 5 ∧ v = 0) then l else setM l (k, d)) := Lib.hid (by unfold learnOne; rw [hv])
  rw [hv] at hval
  have hb := (Below.refl w.heap.size w).alloc (Nat.le_refl _) (.cells #[.int .i64 k, .string d] 79)
  have hS := h.below hb
  have hO : Only (· = p) w (w.alloc (.cells #[.int .i64 k, .string d] 79)) := (Only.refl _ _).alloc _
  clear hv hb hr hk h
  by_cases hun : ((k = 1 ∨ k = 17) ∧ unitM v = false) ∨ (k = 5 ∧ v = 0)
  · have HL2 : Hid (learnOne l (k, d) = l) := Lib.hid (by rw [HL.out, if_pos hun])
    rcases hun with ⟨rfl | rfl, huv⟩ | ⟨rfl, rfl⟩
    all_goals
      go_enter Tryd.func58, Tryd.ntmps58
      go_wp2_with (first | (go_at_call 70; refine (hval _).mono ?_; rintro e w' ⟨rfl, rfl⟩) | (go_at_call 31; refine (hu _).mono ?_; rintro e w' ⟨rfl, rfl⟩))
      go_end0
      exact ⟨rfl, by rw [HL2.out]; exact hS, hO⟩
  · have HL2 : Hid (learnOne l (k, d) = setM l (k, d)) := Lib.hid (by rw [HL.out, if_neg hun])
    by_cases k1 : k = 1 ∨ k = 17
    · have huv : unitM v = true := by
        cases e : unitM v with
        | true => rfl
        | false => exact absurd (.inl ⟨k1, e⟩) hun
      clear hun HL
      rcases k1 with rfl | rfl
      all_goals
        go_enter Tryd.func58, Tryd.ntmps58
        go_wp2_with (first | (go_at_call 70; refine (hval _).mono ?_; rintro e w' ⟨rfl, rfl⟩) | (go_at_call 31; refine (hu _).mono ?_; rintro e w' ⟨rfl, rfl⟩))
        refine (hset _ hS).mono ?_
        rintro e w3 ⟨rfl, hs3, ho3⟩
        go_wp2_with fail
        go_end0
        exact ⟨rfl, by rw [HL2.out]; exact hs3, hO.trans ho3⟩
    · have q1 : (k == 1) = false := beq_eq_false_iff_ne.2 (fun e => k1 (.inl e))
      have q2 : (k == 17) = false := beq_eq_false_iff_ne.2 (fun e => k1 (.inr e))
      by_cases k5 : k = 5
      · subst k5
        have q3 : (v == 0) = false := beq_eq_false_iff_ne.2 (fun e => hun (.inr ⟨rfl, e⟩))
        clear hun HL k1
        go_enter Tryd.func58, Tryd.ntmps58
        go_wp2_with (first | (go_at_call 70; refine (hval _).mono ?_; rintro e w' ⟨rfl, rfl⟩) | (go_at_call 31; refine (hu _).mono ?_; rintro e w' ⟨rfl, rfl⟩))
        refine (hset _ hS).mono ?_
        rintro e w3 ⟨rfl, hs3, ho3⟩
        go_wp2_with fail
        go_end0
        exact ⟨rfl, by rw [HL2.out]; exact hs3, hO.trans ho3⟩
      · have q3 : (k == 5) = false := beq_eq_false_iff_ne.2 k5
        clear hun HL k1 k5
        go_enter Tryd.func58, Tryd.ntmps58
        go_wp2_with (first | (go_at_call 70; refine (hval _).mono ?_; rintro e w' ⟨rfl, rfl⟩) | (go_at_call 31; refine (hu _).mono ?_; rintro e w' ⟨rfl, rfl⟩))
        refine (hset _ hS).mono ?_
        rintro e w3 ⟨rfl, hs3, ho3⟩
        go_wp2_with fail
        go_end0
        exact ⟨rfl, by rw [HL2.out]; exact hs3, hO.trans ho3⟩
end Go.Proofs.YtagnbdenecphcaaDoor
/-! policy: Learn. -/
namespace Go.Proofs.YtagnbdenecphcaaDoor
open Go.RowKit
set_option linter.unusedVariables false
set_option linter.unusedSimpArgs false
theorem heap_first2 (w : World) (a o : Obj) : ((w.alloc a).alloc o).heap[w.heap.size]? = some a :=
  (Below.heap_alloc (w.alloc a) o _ (by simp)).trans (heap_alloc_last w a)
theorem learnTo_succ (l : LinkM) (code : Int) (os : List OptM) (k : Nat) (hk : k < os.length) : (os.take (k + 1)).foldl (learnStep code) l = learnStep code ((os.take k).foldl (learnStep code) l) os[k] := by
  rw [List.take_succ_eq_append_getElem hk, List.foldl_append]; rfl
theorem link_after_cells {w : World} {B : Nat} {x0 x1 x2 x3 x4 x5 : Value} {T : TypeId} (hh : w.heap[B]? = some (.cells #[x0, x1, x2, x3, x4, x5] T (0, 0))) (y0 y1 y2 y3 y4 y5 : Value) (W : World)
    (hW : W = (((((w.setCell ⟨B, 0, none⟩ y0).setCell ⟨B, 1, none⟩ y1).setCell ⟨B, 2, none⟩ y2).setCell ⟨B, 3, none⟩ y3).setCell ⟨B, 4, none⟩ y4).setCell ⟨B, 5, none⟩ y5) :
    W.cell? ⟨B, 0, none⟩ = some y0 ∧ W.cell? ⟨B, 1, none⟩ = some y1 ∧ W.cell? ⟨B, 2, none⟩ = some y2 ∧ W.cell? ⟨B, 3, none⟩ = some y3 ∧ W.cell? ⟨B, 4, none⟩ = some y4 ∧ W.cell? ⟨B, 5, none⟩ = some y5 := by
  subst hW
  refine ⟨?_, ?_, ?_, ?_, ?_, ?_⟩ <;> simp [World.cell?, World.setCell, Array.getElem?_modify, hh]
theorem below6 {w0 w : World} {B : Nat} (h : Below w0.heap.size w0 w) (hB : w0.heap.size ≤ B) (y0 y1 y2 y3 y4 y5 : Value) :
    Below w0.heap.size w0 ((((((w.setCell ⟨B, 0, none⟩ y0).setCell ⟨B, 1, none⟩ y1).setCell ⟨B, 2, none⟩ y2).setCell ⟨B, 3, none⟩ y3).setCell ⟨B, 4, none⟩ y4).setCell ⟨B, 5, none⟩ y5) :=
  (((((h.setCell (p := ⟨B, 0, none⟩) hB _).setCell (p := ⟨B, 1, none⟩) hB _).setCell (p := ⟨B, 2, none⟩) hB _).setCell (p := ⟨B, 3, none⟩) hB _).setCell (p := ⟨B, 4, none⟩) hB _).setCell (p := ⟨B, 5, none⟩) hB _
theorem linkCells_eq (l : LinkM) : linkCells l = #[.int .i64 l.mru, .int .i64 l.magic, .int .i64 l.mrru, .bool l.short, .string l.disc, .int .i64 l.num] := rfl
/-- six cells stored one behind the other into a block of six -/
theorem link_after {w : World} {B : Nat} {x0 x1 x2 x3 x4 x5 : Value} {T : TypeId} (hh : w.heap[B]? = some (.cells #[x0, x1, x2, x3, x4, x5] T (0, 0))) (y0 y1 y2 y3 y4 y5 : Value) :
    ((((((w.setCell ⟨B, 0, none⟩ y0).setCell ⟨B, 1, none⟩ y1).setCell ⟨B, 2, none⟩ y2).setCell ⟨B, 3, none⟩ y3).setCell ⟨B, 4, none⟩ y4).setCell ⟨B, 5, none⟩ y5).heap[B]? = some (.cells #[y0, y1, y2, y3, y4, y5] T (0, 0)) := by
  simp [World.setCell, Array.getElem?_modify, hh]
set_option maxRecDepth 100000 in
set_option maxHeartbeats 8000000 in
theorem plearn_nil3 (l : LinkM) (w : World) (hm : mayM l = true) :
    Calls Tryd.prog 41 #[.agg (linkCells l), .int .i64 3, .slice none 0 0] w fun e w' => e = .returned (.tuple #[.agg (linkCells (([] : List OptM).foldl (learnStep 3) l)), .int .i64 0]) ∧ Below w.heap.size w w' := by
  have hmay := fun w => pmay_any l w
  rw [hm] at hmay
  clear hm
  have HLh := Lib.hid linkCells_eq
  rw [HLh.out] at hmay ⊢
  go_enter Tryd.func41, Tryd.ntmps41
  go_wp2_with fail
  refine (hmay _).mono ?_
  rintro e w1 ⟨rfl, hb1⟩
  have hh1 : w1.heap[w.heap.size]? = some (.cells (linkCells l) 23 (0, 0)) := below_of hb1 (by rw [HLh.out]; exact heap_first2 _ _ _)
  have hz1 : w1.heap[w.heap.size + 1]? = some (.cells #[.int .i64 0, .int .i64 0, .int .i64 0, .bool false, .string ⟨#[]⟩, .int .i64 0] 23 (0, 0)) := below_of hb1 (by simpa using heap_alloc_last (w.alloc _) _)
  obtain ⟨c0, c1, c2, c3, c4, c5⟩ := link_cells hh1
  have hB1 : Below w.heap.size w w1 := seqB (allocB (allocB (Below.refl _ _) _) _) hb1
  have hlt1 : w.heap.size + 1 < w1.heap.size := (Array.getElem?_eq_some_iff.1 hz1).1
  clear hb1 hmay
  go_wp2_with fail
  have hS : SideAt (w1.alloc (.cells (linkCells l) 103)) w1.heap.size l := heap_alloc_last _ _
  have hzz := below_of (w' := w1.alloc (.cells (linkCells l) 103)) ((Below.refl _ _).alloc (Nat.le_refl _) _) hz1
  have hBW : Below w.heap.size w (w1.alloc (.cells (linkCells l) 103)) := allocB hB1 _
  rw [HLh.out] at hS hzz hBW
  obtain ⟨W2, hW2⟩ : ∃ W2, w1.alloc (.cells #[.int .i64 l.mru, .int .i64 l.magic, .int .i64 l.mrru, .bool l.short, .string l.disc, .int .i64 l.num] 103) = W2 := ⟨_, rfl⟩
  rw [hW2] at hS hzz hBW ⊢
  obtain ⟨p, hp⟩ : ∃ p, w1.heap.size = p := ⟨_, rfl⟩
  rw [hp] at hS hlt1 ⊢
  clear hW2 hh1 hz1 c0 c1 c2 c3 c4 c5 hB1 hp
  go_loopw [28] (fun i wr => i = .int .i64 0 ∧ W2 = wr) (fun i _ => 0)
  case atStart => exact ⟨rfl, rfl⟩
  case round =>
    obtain ⟨rfl, rfl⟩ := hrel
    have hend := hS
    have hz2 := hzz
    have hBf := hBW
    clear hS hzz hBW
    obtain ⟨q, hq⟩ : ∃ q, l = q := ⟨_, rfl⟩
    rw [hq] at hend
    have HQ := Lib.hid hq
    clear hq
    obtain ⟨c0, c1, c2, c3, c4, c5⟩ := hend.cells
    have z0 : W2.cell? ⟨w.heap.size + 1, 0, none⟩ = some (.int .i64 0) := by simp [World.cell?, hz2]
    have z1 : W2.cell? ⟨w.heap.size + 1, 1, none⟩ = some (.int .i64 0) := by simp [World.cell?, hz2]
    have z2 : W2.cell? ⟨w.heap.size + 1, 2, none⟩ = some (.int .i64 0) := by simp [World.cell?, hz2]
    have z3 : W2.cell? ⟨w.heap.size + 1, 3, none⟩ = some (.bool false) := by simp [World.cell?, hz2]
    have z4 : W2.cell? ⟨w.heap.size + 1, 4, none⟩ = some (.string ⟨#[]⟩) := by simp [World.cell?, hz2]
    have z5 : W2.cell? ⟨w.heap.size + 1, 5, none⟩ = some (.int .i64 0) := by simp [World.cell?, hz2]
    have f0 : W2.frozen? ⟨w.heap.size + 1, 0, none⟩ = false := by simp [World.frozen?, hz2]
    have f1 : W2.frozen? ⟨w.heap.size + 1, 1, none⟩ = false := by simp [World.frozen?, hz2]
    have f2 : W2.frozen? ⟨w.heap.size + 1, 2, none⟩ = false := by simp [World.frozen?, hz2]
    have f3 : W2.frozen? ⟨w.heap.size + 1, 3, none⟩ = false := by simp [World.frozen?, hz2]
    have f4 : W2.frozen? ⟨w.heap.size + 1, 4, none⟩ = false := by simp [World.frozen?, hz2]
    have f5 : W2.frozen? ⟨w.heap.size + 1, 5, none⟩ = false := by simp [World.frozen?, hz2]
    obtain ⟨k0, k1, k2, k3, k4, k5⟩ := link_after_cells hz2 (.int .i64 q.mru) (.int .i64 q.magic) (.int .i64 q.mrru) (.bool q.short) (.string q.disc) (.int .i64 q.num) _ rfl
    have hBl := below6 (B := w.heap.size + 1) hBf (Nat.le_succ _) (.int .i64 q.mru) (.int .i64 q.magic) (.int .i64 q.mrru) (.bool q.short) (.string q.disc) (.int .i64 q.num)
    go_wp2_with fail
    refine bodyPost_ret (v := .tuple #[.agg #[.int .i64 q.mru, .int .i64 q.magic, .int .i64 q.mrru, .bool q.short, .string q.disc, .int .i64 q.num], .int .i64 0]) (by simp [results, Tryd.results41, go_sem, k0, k1, k2, k3, k4, k5]) rfl ⟨?_, hBl⟩
    rw [← HLh.out, ← HQ.out]
    try rfl
set_option maxRecDepth 100000 in
set_option maxHeartbeats 8000000 in
theorem plearn_nil4 (l : LinkM) (w : World) (hm : mayM l = true) :
    Calls Tryd.prog 41 #[.agg (linkCells l), .int .i64 4, .slice none 0 0] w fun e w' => e = .returned (.tuple #[.agg (linkCells (([] : List OptM).foldl (learnStep 4) l)), .int .i64 0]) ∧ Below w.heap.size w w' := by
  have hmay := fun w => pmay_any l w
  rw [hm] at hmay
  clear hm
  have HLh := Lib.hid linkCells_eq
  rw [HLh.out] at hmay ⊢
  go_enter Tryd.func41, Tryd.ntmps41
  go_wp2_with fail
  refine (hmay _).mono ?_
  rintro e w1 ⟨rfl, hb1⟩
  have hh1 : w1.heap[w.heap.size]? = some (.cells (linkCells l) 23 (0, 0)) := below_of hb1 (by rw [HLh.out]; exact heap_first2 _ _ _)
  have hz1 : w1.heap[w.heap.size + 1]? = some (.cells #[.int .i64 0, .int .i64 0, .int .i64 0, .bool false, .string ⟨#[]⟩, .int .i64 0] 23 (0, 0)) := below_of hb1 (by simpa using heap_alloc_last (w.alloc _) _)
  obtain ⟨c0, c1, c2, c3, c4, c5⟩ := link_cells hh1
  have hB1 : Below w.heap.size w w1 := seqB (allocB (allocB (Below.refl _ _) _) _) hb1
  have hlt1 : w.heap.size + 1 < w1.heap.size := (Array.getElem?_eq_some_iff.1 hz1).1
  clear hb1 hmay
  go_wp2_with fail
  have hS : SideAt (w1.alloc (.cells (linkCells l) 103)) w1.heap.size l := heap_alloc_last _ _
  have hzz := below_of (w' := w1.alloc (.cells (linkCells l) 103)) ((Below.refl _ _).alloc (Nat.le_refl _) _) hz1
  have hBW : Below w.heap.size w (w1.alloc (.cells (linkCells l) 103)) := allocB hB1 _
  rw [HLh.out] at hS hzz hBW
  obtain ⟨W2, hW2⟩ : ∃ W2, w1.alloc (.cells #[.int .i64 l.mru, .int .i64 l.magic, .int .i64 l.mrru, .bool l.short, .string l.disc, .int .i64 l.num] 103) = W2 := ⟨_, rfl⟩
  rw [hW2] at hS hzz hBW ⊢
  obtain ⟨p, hp⟩ : ∃ p, w1.heap.size = p := ⟨_, rfl⟩
  rw [hp] at hS hlt1 ⊢
  clear hW2 hh1 hz1 c0 c1 c2 c3 c4 c5 hB1 hp
  go_loopw [28] (fun i wr => i = .int .i64 0 ∧ W2 = wr) (fun i _ => 0)
  case atStart => exact ⟨rfl, rfl⟩
  case round =>
    obtain ⟨rfl, rfl⟩ := hrel
    have hend := hS
    have hz2 := hzz
    have hBf := hBW
    clear hS hzz hBW
    obtain ⟨q, hq⟩ : ∃ q, l = q := ⟨_, rfl⟩
    rw [hq] at hend
    have HQ := Lib.hid hq
    clear hq
    obtain ⟨c0, c1, c2, c3, c4, c5⟩ := hend.cells
    have z0 : W2.cell? ⟨w.heap.size + 1, 0, none⟩ = some (.int .i64 0) := by simp [World.cell?, hz2]
    have z1 : W2.cell? ⟨w.heap.size + 1, 1, none⟩ = some (.int .i64 0) := by simp [World.cell?, hz2]
    have z2 : W2.cell? ⟨w.heap.size + 1, 2, none⟩ = some (.int .i64 0) := by simp [World.cell?, hz2]
    have z3 : W2.cell? ⟨w.heap.size + 1, 3, none⟩ = some (.bool false) := by simp [World.cell?, hz2]
    have z4 : W2.cell? ⟨w.heap.size + 1, 4, none⟩ = some (.string ⟨#[]⟩) := by simp [World.cell?, hz2]
    have z5 : W2.cell? ⟨w.heap.size + 1, 5, none⟩ = some (.int .i64 0) := by simp [World.cell?, hz2]
    have f0 : W2.frozen? ⟨w.heap.size + 1, 0, none⟩ = false := by simp [World.frozen?, hz2]
    have f1 : W2.frozen? ⟨w.heap.size + 1, 1, none⟩ = false := by simp [World.frozen?, hz2]
    have f2 : W2.frozen? ⟨w.heap.size + 1, 2, none⟩ = false := by simp [World.frozen?, hz2]
    have f3 : W2.frozen? ⟨w.heap.size + 1, 3, none⟩ = false := by simp [World.frozen?, hz2]
    have f4 : W2.frozen? ⟨w.heap.size + 1, 4, none⟩ = false := by simp [World.frozen?, hz2]
    have f5 : W2.frozen? ⟨w.heap.size + 1, 5, none⟩ = false := by simp [World.frozen?, hz2]
    obtain ⟨k0, k1, k2, k3, k4, k5⟩ := link_after_cells hz2 (.int .i64 q.mru) (.int .i64 q.magic) (.int .i64 q.mrru) (.bool q.short) (.string q.disc) (.int .i64 q.num) _ rfl
    have hBl := below6 (B := w.heap.size + 1) hBf (Nat.le_succ _) (.int .i64 q.mru) (.int .i64 q.magic) (.int .i64 q.mrru) (.bool q.short) (.string q.disc) (.int .i64 q.num)
    go_wp2_with fail
    refine bodyPost_ret (v := .tuple #[.agg #[.int .i64 q.mru, .int .i64 q.magic, .int .i64 q.mrru, .bool q.short, .string q.disc, .int .i64 q.num], .int .i64 0]) (by simp [results, Tryd.results41, go_sem, k0, k1, k2, k3, k4, k5]) rfl ⟨?_, hBl⟩
    rw [← HLh.out, ← HQ.out]
    try rfl
set_option maxRecDepth 100000 in
set_option maxHeartbeats 8000000 in
theorem plearn_some3 (l : LinkM) (g o c : Nat) (os : List OptM) (w : World) (hm : mayM l = true) (hv : OptsAt w (.slice (some ⟨g, o, none⟩) os.length c) os) :
    Calls Tryd.prog 41 #[.agg (linkCells l), .int .i64 3, .slice (some ⟨g, o, none⟩) os.length c] w fun e w' => e = .returned (.tuple #[.agg (linkCells (os.foldl (learnStep 3) l)), .int .i64 0]) ∧ Below w.heap.size w w' := by
  have hn := SeqAt.le hv
  have hgl : g < w.heap.size := SeqAt.lt hv g rfl
  have hmay := fun w => pmay_any l w
  rw [hm] at hmay
  clear hm
  have HLh := Lib.hid linkCells_eq
  rw [HLh.out] at hmay ⊢
  go_enter Tryd.func41, Tryd.ntmps41
  go_wp2_with fail
  refine (hmay _).mono ?_
  rintro e w1 ⟨rfl, hb1⟩
  have hh1 : w1.heap[w.heap.size]? = some (.cells (linkCells l) 23 (0, 0)) := below_of hb1 (by rw [HLh.out]; exact heap_first2 _ _ _)
  have hz1 : w1.heap[w.heap.size + 1]? = some (.cells #[.int .i64 0, .int .i64 0, .int .i64 0, .bool false, .string ⟨#[]⟩, .int .i64 0] 23 (0, 0)) := below_of hb1 (by simpa using heap_alloc_last (w.alloc _) _)
  obtain ⟨c0, c1, c2, c3, c4, c5⟩ := link_cells hh1
  have hB1 : Below w.heap.size w w1 := seqB (allocB (allocB (Below.refl _ _) _) _) hb1
  have hlt1 : w.heap.size + 1 < w1.heap.size := (Array.getElem?_eq_some_iff.1 hz1).1
  clear hb1 hmay
  go_wp2_with fail
  have hS : SideAt (w1.alloc (.cells (linkCells l) 103)) w1.heap.size l := heap_alloc_last _ _
  have hzz := below_of (w' := w1.alloc (.cells (linkCells l) 103)) ((Below.refl _ _).alloc (Nat.le_refl _) _) hz1
  have hBW : Below w.heap.size w (w1.alloc (.cells (linkCells l) 103)) := allocB hB1 _
  rw [HLh.out] at hS hzz hBW
  obtain ⟨W2, hW2⟩ : ∃ W2, w1.alloc (.cells #[.int .i64 l.mru, .int .i64 l.magic, .int .i64 l.mrru, .bool l.short, .string l.disc, .int .i64 l.num] 103) = W2 := ⟨_, rfl⟩
  rw [hW2] at hS hzz hBW ⊢
  obtain ⟨p, hp⟩ : ∃ p, w1.heap.size = p := ⟨_, rfl⟩
  rw [hp] at hS hlt1 ⊢
  clear hW2 hh1 hz1 c0 c1 c2 c3 c4 c5 hB1 hp
  obtain ⟨-, -, -, hcell⟩ := (hv.below hBW).cells
  obtain ⟨n, hnn⟩ : ∃ n, os.length = n := ⟨_, rfl⟩
  have HN := Lib.hid hnn
  have HC := Lib.hid hcell
  rw [hnn] at hn ⊢
  clear hnn hcell hv
  go_loopw [28] (fun i wr => ∃ k : Nat, k ≤ n ∧ i = .int .i64 k ∧ SideAt wr p ((os.take k).foldl (learnStep 3) l) ∧ Only (· = p) W2 wr) (fun i _ => n - (intOf i).toNat)
  case atStart => exact ⟨0, Nat.zero_le _, rfl, hS, Only.refl _ _⟩
  case round =>
    obtain ⟨k, hk, rfl, hSr, hOr⟩ := hrel
    by_cases hlt : k < n
    · have hkl : k < os.length := by rw [HN.out]; exact hlt
      obtain ⟨d1, d2⟩ := HC.out k hkl
      replace d1 := hOr.cell d1 (show ¬ (g = p) by omega)
      replace d2 := hOr.cell d2 (show ¬ (g = p) by omega)
      have hst := learnTo_succ l 3 os k hkl
      obtain ⟨x, hx⟩ : ∃ x, os[k] = x := ⟨_, rfl⟩
      rw [hx] at d1 d2 hst
      obtain ⟨acc, hacc⟩ : ∃ acc, (os.take k).foldl (learnStep 3) l = acc := ⟨_, rfl⟩
      rw [hacc] at hSr hst
      have hri := fun w => right_any x w
      have hO1 : Only (· = p) W2 (wr.alloc (.cells #[.int .i64 x.1, .string x.2] 79)) := hOr.alloc _
      have hS1 := hSr.below ((Below.refl _ _).alloc (Nat.le_refl _) (.cells #[.int .i64 x.1, .string x.2] 79))
      have hh6 : (wr.alloc (.cells #[.int .i64 x.1, .string x.2] 79)).heap[wr.heap.size]? = some (.cells #[.int .i64 x.1, .string x.2] 79 (0, 0)) := heap_alloc_last _ _
      clear hx hacc hS hzz hOr hSr
      cases hr : rightM x with
      | false =>
        rw [hr] at hri
        have HST : Hid ((os.take (k + 1)).foldl (learnStep 3) l = acc) := Lib.hid (by rw [hst]; unfold learnStep; rw [if_pos (.inl hr)])
        clear hst hr
        go_wp2_with fail
        refine (hri _).mono ?_
        rintro e w3 ⟨rfl, hb3⟩
        have hS3 := hS1.below hb3
        have hO3 := hO1.then hb3
        clear hb3 hS1 hO1
        go_wp2_with fail
        go_roundw
        case rel => exact ⟨k + 1, by omega, by go_num, by rw [HST.out]; exact hS3, hO3⟩
        case measure => simp [intOf]; omega
      | true =>
        rw [hr] at hri
        obtain ⟨hkk, hsz⟩ := right_kind hr
        cases ha : asksM acc x.1 with
        | false =>
          have HST : Hid ((os.take (k + 1)).foldl (learnStep 3) l = acc) := Lib.hid (by rw [hst]; unfold learnStep; rw [if_pos (.inr ha)])
          have hask := fun w h => asks_any p acc x.1 w h
          rw [ha] at hask
          clear hst hr ha hkk
          go_wp2_with fail
          refine (hri _).mono ?_
          rintro e w3 ⟨rfl, hb3⟩
          have hS3 := hS1.below hb3
          have hO3 := hO1.then hb3
          have hh3 := below_of hb3 hh6
          have t0 : w3.cell? ⟨wr.heap.size, 0, none⟩ = some (.int .i64 x.1) := by simp [World.cell?, hh3]
          clear hb3 hS1 hO1 hh3 hh6
          go_wp2_with fail
          refine (hask _ hS3).mono ?_
          rintro e w4 ⟨rfl, rfl⟩
          go_wp2_with fail
          go_roundw
          case rel => exact ⟨k + 1, by omega, by go_num, by rw [HST.out]; exact hS3, hO3⟩
          case measure => simp [intOf]; omega
        | true =>
          have HST : Hid ((os.take (k + 1)).foldl (learnStep 3) l = learnOne acc x) := Lib.hid (by rw [hst]; unfold learnStep; rw [if_neg (by rw [hr, ha]; simp)]; rfl)
          have hask := fun w h => asks_any p acc x.1 w h
          have hstep := fun w h => learn_any p acc x w h hr
          rw [ha] at hask
          clear hst hr ha hkk
          go_wp2_with fail
          refine (hri _).mono ?_
          rintro e w3 ⟨rfl, hb3⟩
          have hS3 := hS1.below hb3
          have hO3 := hO1.then hb3
          have hh3 := below_of hb3 hh6
          have t0 : w3.cell? ⟨wr.heap.size, 0, none⟩ = some (.int .i64 x.1) := by simp [World.cell?, hh3]
          have t1 : w3.cell? ⟨wr.heap.size, 1, none⟩ = some (.string x.2) := by simp [World.cell?, hh3]
          clear hb3 hS1 hO1 hh3 hh6
          go_wp2_with fail
          refine (hask _ hS3).mono ?_
          rintro e w4 ⟨rfl, rfl⟩
          go_wp2_with fail
          refine (hstep _ hS3).mono ?_
          rintro e w5 ⟨rfl, hS5, hO5⟩
          go_wp2_with fail
          go_roundw
          case rel => exact ⟨k + 1, by omega, by go_num, by rw [HST.out]; exact hS5, hO3.trans hO5⟩
          case measure => simp [intOf]; omega
    · obtain rfl : k = n := by omega
      have hend := hSr
      rw [← HN.out, List.take_length] at hend
      have hz2 := hOr.heap hzz (by omega)
      have hBf : Below w.heap.size w wr := hBW.trans (hOr.below (B := w.heap.size) hBW.size (fun k hk => by subst hk; omega))
      clear hSr hOr hS hzz
      obtain ⟨q, hq⟩ : ∃ q, (os.foldl (learnStep 3) l) = q := ⟨_, rfl⟩
      rw [hq] at hend
      have HQ := Lib.hid hq
      clear hq
      obtain ⟨c0, c1, c2, c3, c4, c5⟩ := hend.cells
      have z0 : wr.cell? ⟨w.heap.size + 1, 0, none⟩ = some (.int .i64 0) := by simp [World.cell?, hz2]
      have z1 : wr.cell? ⟨w.heap.size + 1, 1, none⟩ = some (.int .i64 0) := by simp [World.cell?, hz2]
      have z2 : wr.cell? ⟨w.heap.size + 1, 2, none⟩ = some (.int .i64 0) := by simp [World.cell?, hz2]
      have z3 : wr.cell? ⟨w.heap.size + 1, 3, none⟩ = some (.bool false) := by simp [World.cell?, hz2]
      have z4 : wr.cell? ⟨w.heap.size + 1, 4, none⟩ = some (.string ⟨#[]⟩) := by simp [World.cell?, hz2]
      have z5 : wr.cell? ⟨w.heap.size + 1, 5, none⟩ = some (.int .i64 0) := by simp [World.cell?, hz2]
      have f0 : wr.frozen? ⟨w.heap.size + 1, 0, none⟩ = false := by simp [World.frozen?, hz2]
      have f1 : wr.frozen? ⟨w.heap.size + 1, 1, none⟩ = false := by simp [World.frozen?, hz2]
      have f2 : wr.frozen? ⟨w.heap.size + 1, 2, none⟩ = false := by simp [World.frozen?, hz2]
      have f3 : wr.frozen? ⟨w.heap.size + 1, 3, none⟩ = false := by simp [World.frozen?, hz2]
      have f4 : wr.frozen? ⟨w.heap.size + 1, 4, none⟩ = false := by simp [World.frozen?, hz2]
      have f5 : wr.frozen? ⟨w.heap.size + 1, 5, none⟩ = false := by simp [World.frozen?, hz2]
      obtain ⟨k0, k1, k2, k3, k4, k5⟩ := link_after_cells hz2 (.int .i64 q.mru) (.int .i64 q.magic) (.int .i64 q.mrru) (.bool q.short) (.string q.disc) (.int .i64 q.num) _ rfl
      have hBl := below6 (B := w.heap.size + 1) hBf (Nat.le_succ _) (.int .i64 q.mru) (.int .i64 q.magic) (.int .i64 q.mrru) (.bool q.short) (.string q.disc) (.int .i64 q.num)
      go_wp2_with fail
      refine bodyPost_ret (v := .tuple #[.agg #[.int .i64 q.mru, .int .i64 q.magic, .int .i64 q.mrru, .bool q.short, .string q.disc, .int .i64 q.num], .int .i64 0]) (by simp [results, Tryd.results41, go_sem, k0, k1, k2, k3, k4, k5]) rfl ⟨?_, hBl⟩
      rw [← HLh.out, ← HQ.out]
      try rfl
set_option maxRecDepth 100000 in
set_option maxHeartbeats 8000000 in
theorem plearn_some4 (l : LinkM) (g o c : Nat) (os : List OptM) (w : World) (hm : mayM l = true) (hv : OptsAt w (.slice (some ⟨g, o, none⟩) os.length c) os) :
    Calls Tryd.prog 41 #[.agg (linkCells l), .int .i64 4, .slice (some ⟨g, o, none⟩) os.length c] w fun e w' => e = .returned (.tuple #[.agg (linkCells (os.foldl (learnStep 4) l)), .int .i64 0]) ∧ Below w.heap.size w w' := by
  have hn := SeqAt.le hv
  have hgl : g < w.heap.size := SeqAt.lt hv g rfl
  have hmay := fun w => pmay_any l w
  rw [hm] at hmay
  clear hm
  have HLh := Lib.hid linkCells_eq
  rw [HLh.out] at hmay ⊢
  go_enter Tryd.func41, Tryd.ntmps41
  go_wp2_with fail
  refine (hmay _).mono ?_
  rintro e w1 ⟨rfl, hb1⟩
  have hh1 : w1.heap[w.heap.size]? = some (.cells (linkCells l) 23 (0, 0)) := below_of hb1 (by rw [HLh.out]; exact heap_first2 _ _ _)
  have hz1 : w1.heap[w.heap.size + 1]? = some (.cells #[.int .i64 0, .int .i64 0, .int .i64 0, .bool false, .string ⟨#[]⟩, .int .i64 0] 23 (0, 0)) := below_of hb1 (by simpa using heap_alloc_last (w.alloc _) _)
  obtain ⟨c0, c1, c2, c3, c4, c5⟩ := link_cells hh1
  have hB1 : Below w.heap.size w w1 := seqB (allocB (allocB (Below.refl _ _) _) _) hb1
  have hlt1 : w.heap.size + 1 < w1.heap.size := (Array.getElem?_eq_some_iff.1 hz1).1
  clear hb1 hmay
  go_wp2_with fail
  have hS : SideAt (w1.alloc (.cells (linkCells l) 103)) w1.heap.size l := heap_alloc_last _ _
  have hzz := below_of (w' := w1.alloc (.cells (linkCells l) 103)) ((Below.refl _ _).alloc (Nat.le_refl _) _) hz1
  have hBW : Below w.heap.size w (w1.alloc (.cells (linkCells l) 103)) := allocB hB1 _
  rw [HLh.out] at hS hzz hBW
  obtain ⟨W2, hW2⟩ : ∃ W2, w1.alloc (.cells #[.int .i64 l.mru, .int .i64 l.magic, .int .i64 l.mrru, .bool l.short, .string l.disc, .int .i64 l.num] 103) = W2 := ⟨_, rfl⟩
  rw [hW2] at hS hzz hBW ⊢
  obtain ⟨p, hp⟩ : ∃ p, w1.heap.size = p := ⟨_, rfl⟩
  rw [hp] at hS hlt1 ⊢
  clear hW2 hh1 hz1 c0 c1 c2 c3 c4 c5 hB1 hp
  obtain ⟨-, -, -, hcell⟩ := (hv.below hBW).cells
  obtain ⟨n, hnn⟩ : ∃ n, os.length = n := ⟨_, rfl⟩
  have HN := Lib.hid hnn
  have HC := Lib.hid hcell
  rw [hnn] at hn ⊢
  clear hnn hcell hv
  go_loopw [28] (fun i wr => ∃ k : Nat, k ≤ n ∧ i = .int .i64 k ∧ SideAt wr p ((os.take k).foldl (learnStep 4) l) ∧ Only (· = p) W2 wr) (fun i _ => n - (intOf i).toNat)
  case atStart => exact ⟨0, Nat.zero_le _, rfl, hS, Only.refl _ _⟩
  case round =>
    obtain ⟨k, hk, rfl, hSr, hOr⟩ := hrel
    by_cases hlt : k < n
    · have hkl : k < os.length := by rw [HN.out]; exact hlt
      obtain ⟨d1, d2⟩ := HC.out k hkl
      replace d1 := hOr.cell d1 (show ¬ (g = p) by omega)
      replace d2 := hOr.cell d2 (show ¬ (g = p) by omega)
      have hst := learnTo_succ l 4 os k hkl
      obtain ⟨x, hx⟩ : ∃ x, os[k] = x := ⟨_, rfl⟩
      rw [hx] at d1 d2 hst
      obtain ⟨acc, hacc⟩ : ∃ acc, (os.take k).foldl (learnStep 4) l = acc := ⟨_, rfl⟩
      rw [hacc] at hSr hst
      have hri := fun w => right_any x w
      have hO1 : Only (· = p) W2 (wr.alloc (.cells #[.int .i64 x.1, .string x.2] 79)) := hOr.alloc _
      have hS1 := hSr.below ((Below.refl _ _).alloc (Nat.le_refl _) (.cells #[.int .i64 x.1, .string x.2] 79))
      have hh6 : (wr.alloc (.cells #[.int .i64 x.1, .string x.2] 79)).heap[wr.heap.size]? = some (.cells #[.int .i64 x.1, .string x.2] 79 (0, 0)) := heap_alloc_last _ _
      clear hx hacc hS hzz hOr hSr
      cases hr : rightM x with
      | false =>
        rw [hr] at hri
        have HST : Hid ((os.take (k + 1)).foldl (learnStep 4) l = acc) := Lib.hid (by rw [hst]; unfold learnStep; rw [if_pos (.inl hr)])
        clear hst hr
        go_wp2_with fail
        refine (hri _).mono ?_
        rintro e w3 ⟨rfl, hb3⟩
        have hS3 := hS1.below hb3
        have hO3 := hO1.then hb3
        clear hb3 hS1 hO1
        go_wp2_with fail
        go_roundw
        case rel => exact ⟨k + 1, by omega, by go_num, by rw [HST.out]; exact hS3, hO3⟩
        case measure => simp [intOf]; omega
      | true =>
        rw [hr] at hri
        obtain ⟨hkk, hsz⟩ := right_kind hr
        cases ha : asksM acc x.1 with
        | false =>
          have HST : Hid ((os.take (k + 1)).foldl (learnStep 4) l = acc) := Lib.hid (by rw [hst]; unfold learnStep; rw [if_pos (.inr ha)])
          have hask := fun w h => asks_any p acc x.1 w h
          rw [ha] at hask
          clear hst hr ha hkk
          go_wp2_with fail
          refine (hri _).mono ?_
          rintro e w3 ⟨rfl, hb3⟩
          have hS3 := hS1.below hb3
          have hO3 := hO1.then hb3
          have hh3 := below_of hb3 hh6
          have t0 : w3.cell? ⟨wr.heap.size, 0, none⟩ = some (.int .i64 x.1) := by simp [World.cell?, hh3]
          clear hb3 hS1 hO1 hh3 hh6
          go_wp2_with fail
          refine (hask _ hS3).mono ?_
          rintro e w4 ⟨rfl, rfl⟩
          go_wp2_with fail
          go_roundw
          case rel => exact ⟨k + 1, by omega, by go_num, by rw [HST.out]; exact hS3, hO3⟩
          case measure => simp [intOf]; omega
        | true =>
          have HST : Hid ((os.take (k + 1)).foldl (learnStep 4) l = clearM acc x.1) := Lib.hid (by rw [hst]; unfold learnStep; rw [if_neg (by rw [hr, ha]; simp)]; rfl)
          have hask := fun w h => asks_any p acc x.1 w h
          have hstep := fun w h => clear_any p acc x.1 w h hkk
          rw [ha] at hask
          clear hst hr ha hkk
          go_wp2_with fail
          refine (hri _).mono ?_
          rintro e w3 ⟨rfl, hb3⟩
          have hS3 := hS1.below hb3
          have hO3 := hO1.then hb3
          have hh3 := below_of hb3 hh6
          have t0 : w3.cell? ⟨wr.heap.size, 0, none⟩ = some (.int .i64 x.1) := by simp [World.cell?, hh3]
          have t1 : w3.cell? ⟨wr.heap.size, 1, none⟩ = some (.string x.2) := by simp [World.cell?, hh3]
          clear hb3 hS1 hO1 hh3 hh6
          go_wp2_with fail
          refine (hask _ hS3).mono ?_
          rintro e w4 ⟨rfl, rfl⟩
          go_wp2_with fail
          refine (hstep _ hS3).mono ?_
          rintro e w5 ⟨rfl, hS5, hO5⟩
          go_wp2_with fail
          go_roundw
          case rel => exact ⟨k + 1, by omega, by go_num, by rw [HST.out]; exact hS5, hO3.trans hO5⟩
          case measure => simp [intOf]; omega
    · obtain rfl : k = n := by omega
      have hend := hSr
      rw [← HN.out, List.take_length] at hend
      have hz2 := hOr.heap hzz (by omega)
      have hBf : Below w.heap.size w wr := hBW.trans (hOr.below (B := w.heap.size) hBW.size (fun k hk => by subst hk; omega))
      clear hSr hOr hS hzz
      obtain ⟨q, hq⟩ : ∃ q, (os.foldl (learnStep 4) l) = q := ⟨_, rfl⟩
      rw [hq] at hend
      have HQ := Lib.hid hq
      clear hq
      obtain ⟨c0, c1, c2, c3, c4, c5⟩ := hend.cells
      have z0 : wr.cell? ⟨w.heap.size + 1, 0, none⟩ = some (.int .i64 0) := by simp [World.cell?, hz2]
      have z1 : wr.cell? ⟨w.heap.size + 1, 1, none⟩ = some (.int .i64 0) := by simp [World.cell?, hz2]
      have z2 : wr.cell? ⟨w.heap.size + 1, 2, none⟩ = some (.int .i64 0) := by simp [World.cell?, hz2]
      have z3 : wr.cell? ⟨w.heap.size + 1, 3, none⟩ = some (.bool false) := by simp [World.cell?, hz2]
      have z4 : wr.cell? ⟨w.heap.size + 1, 4, none⟩ = some (.string ⟨#[]⟩) := by simp [World.cell?, hz2]
      have z5 : wr.cell? ⟨w.heap.size + 1, 5, none⟩ = some (.int .i64 0) := by simp [World.cell?, hz2]
      have f0 : wr.frozen? ⟨w.heap.size + 1, 0, none⟩ = false := by simp [World.frozen?, hz2]
      have f1 : wr.frozen? ⟨w.heap.size + 1, 1, none⟩ = false := by simp [World.frozen?, hz2]
      have f2 : wr.frozen? ⟨w.heap.size + 1, 2, none⟩ = false := by simp [World.frozen?, hz2]
      have f3 : wr.frozen? ⟨w.heap.size + 1, 3, none⟩ = false := by simp [World.frozen?, hz2]
      have f4 : wr.frozen? ⟨w.heap.size + 1, 4, none⟩ = false := by simp [World.frozen?, hz2]
      have f5 : wr.frozen? ⟨w.heap.size + 1, 5, none⟩ = false := by simp [World.frozen?, hz2]
      obtain ⟨k0, k1, k2, k3, k4, k5⟩ := link_after_cells hz2 (.int .i64 q.mru) (.int .i64 q.magic) (.int .i64 q.mrru) (.bool q.short) (.string q.disc) (.int .i64 q.num) _ rfl
      have hBl := below6 (B := w.heap.size + 1) hBf (Nat.le_succ _) (.int .i64 q.mru) (.int .i64 q.magic) (.int .i64 q.mrru) (.bool q.short) (.string q.disc) (.int .i64 q.num)
      go_wp2_with fail
      refine bodyPost_ret (v := .tuple #[.agg #[.int .i64 q.mru, .int .i64 q.magic, .int .i64 q.mrru, .bool q.short, .string q.disc, .int .i64 q.num], .int .i64 0]) (by simp [results, Tryd.results41, go_sem, k0, k1, k2, k3, k4, k5]) rfl ⟨?_, hBl⟩
      rw [← HLh.out, ← HQ.out]
      try rfl
theorem plearn_any (l : LinkM) (code : Int) (v : Value) (os : List OptM) (w : World) (hm : mayM l = true) (hc : code = 3 ∨ code = 4) (hv : OptsAt w v os) :
    Calls Tryd.prog 41 #[.agg (linkCells l), .int .i64 code, v] w fun e w' => e = .returned (.tuple #[.agg (linkCells (learnM l code os).1), .int .i64 0]) ∧ Below w.heap.size w w' := by
  have HR : (learnM l code os).1 = os.foldl (learnStep code) l := by
    unfold learnM; rw [if_neg (by rw [hm]; simp; omega)]
  rw [HR]
  rcases hv.or with ⟨rfl, rfl⟩ | ⟨g, o, c, rfl⟩
  · rcases hc with rfl | rfl
    · exact plearn_nil3 l w hm
    · exact plearn_nil4 l w hm
  · rcases hc with rfl | rfl
    · exact plearn_some3 l g o c os w hm hv
    · exact plearn_some4 l g o c os w hm hv
end Go.Proofs.YtagnbdenecphcaaDoor
