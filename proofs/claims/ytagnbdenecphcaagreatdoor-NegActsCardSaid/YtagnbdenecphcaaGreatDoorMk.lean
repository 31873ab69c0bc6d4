/- slices.Equal of options. slices.Equal of options, whole. neg.New refused; the readers of a Neg. the readers of a Neg: Own, Other. -/
import Derived.Test.YtagnbdenecphcaaGreatDoorMj
/-! slices.Equal of options. -/
namespace Go.Proofs.YtagnbdenecphcaaGreatDoor
open Go.RowKit
set_option linter.unusedVariables false
set_option linter.unusedSimpArgs false
set_option maxRecDepth 100000 in
set_option maxHeartbeats 4000000 in
theorem sequal_len (v1 v2 : Value) (l1 l2 : List OptM) (w : World) (h1 : OptsAt w v1 l1) (h2 : OptsAt w v2 l2) (hn : l1.length ≠ l2.length) :
    Calls Tryz.prog 50 #[v1, v2] w fun e w' => e = .returned (.bool (decide (l1 = l2))) ∧ Below w.heap.size w w' := by
  obtain ⟨a1, c1, rfl, _, _⟩ := SeqAt.form h1
  obtain ⟨a2, c2, rfl, _, _⟩ := SeqAt.form h2
  have HR : Hid (decide (l1 = l2) = false) := Lib.hid (decide_eq_false (fun e => hn (congrArg _ e)))
  have hd : decide ((l1.length : Int) = (l2.length : Int)) = false := decide_eq_false (by omega)
  have hd2 : ¬ ((l1.length : Int) = (l2.length : Int)) := by omega
  clear h1 h2 hn
  go_enter Tryz.func50, Tryz.ntmps50
  go_wp2_with fail
  go_ret
  exact ⟨by rw [HR.out]; rfl, Below.refl _ _⟩
set_option maxRecDepth 100000 in
set_option maxHeartbeats 4000000 in
theorem sequal_some (g1 o1 c1 g2 o2 c2 : Nat) (l1 l2 : List OptM) (w : World) (h1 : OptsAt w (.slice (some ⟨g1, o1, none⟩) l1.length c1) l1) (h2 : OptsAt w (.slice (some ⟨g2, o2, none⟩) l2.length c2) l2) (hn : l1.length = l2.length) :
    Calls Tryz.prog 50 #[.slice (some ⟨g1, o1, none⟩) l1.length c1, .slice (some ⟨g2, o2, none⟩) l2.length c2] w fun e w' => e = .returned (.bool (decide (l1 = l2))) ∧ Below w.heap.size w w' := by
  have hle := SeqAt.le h1
  have HC1 := Lib.hid (OptsAt.cells h1).2.2.2
  have HC2 := Lib.hid (OptsAt.cells h2).2.2.2
  rw [← hn]
  obtain ⟨n, hnn⟩ : ∃ n, l1.length = n := ⟨_, rfl⟩
  have HN1 := Lib.hid hnn
  have HN2 : Hid (l2.length = n) := Lib.hid (hn ▸ hnn)
  rw [hnn] at hle ⊢
  clear h1 h2 hnn hn
  go_enter Tryz.func50, Tryz.ntmps50
  go_wp2_with fail
  go_loopw [13] (fun i wr => ∃ j : Nat, j ≤ n ∧ i = .int .i64 j ∧ Below w.heap.size w wr ∧ ∀ i (hi : i < l1.length) (hi2 : i < l2.length), i < j → l1[i] = l2[i]) (fun i _ => n - (intOf i).toNat)
  case atStart => exact ⟨0, Nat.zero_le _, rfl, Below.refl _ _, fun i _ _ h => absurd h (Nat.not_lt_zero _)⟩
  case round =>
    obtain ⟨j, hj, rfl, hbl, hno⟩ := hrel
    have HNO := Lib.hid hno
    clear hno
    by_cases hlt : j < n
    · have hj1 : j < l1.length := by rw [HN1.out]; exact hlt
      have hj2 : j < l2.length := by rw [HN2.out]; exact hlt
      obtain ⟨d1, d2⟩ := HC1.out j hj1
      obtain ⟨d3, d4⟩ := HC2.out j hj2
      replace d1 := fsm_below_cell hbl d1
      replace d2 := fsm_below_cell hbl d2
      replace d3 := fsm_below_cell hbl d3
      replace d4 := fsm_below_cell hbl d4
      have hneq := opt_neq l1[j] l2[j]
      by_cases heq : l1[j] = l2[j]
      · have HNO2 : Hid (∀ (i : Nat) (hi : i < l1.length) (hi2 : i < l2.length), i < j + 1 → l1[i] = l2[i]) := Lib.hid (fun i hi hi2 hij => by
          by_cases e : i = j
          · subst e; exact heq
          · exact HNO.out i hi hi2 (by omega))
        rw [show (l1[j].1 == l2[j].1 && l1[j].2.toList == l2[j].2.toList) = true by rw [heq]; simp] at hneq
        obtain ⟨x, hx⟩ : ∃ x, l1[j] = x := ⟨_, rfl⟩
        obtain ⟨y, hy⟩ : ∃ y, l2[j] = y := ⟨_, rfl⟩
        rw [hx] at d1 d2 hneq
        rw [hy] at d3 d4 hneq
        simp only [Bool.not_true] at hneq
        clear hx hy heq
        go_wp2_with fail
        refine wp_schedL (fun w' => w'.cell? ⟨g1, o1 + j * 2, none⟩ = some (.int .i64 x.1) ∧ w'.cell? ⟨g1, o1 + j * 2 + 1, none⟩ = some (.string x.2) ∧ w'.cell? ⟨g2, o2 + j * 2, none⟩ = some (.int .i64 y.1) ∧ w'.cell? ⟨g2, o2 + j * 2 + 1, none⟩ = some (.string y.2)) [(0, true), (1, true), (2, true), (3, true), (4, true), (5, true), (6, true), (7, true), (8, true)] (by kernel_rfl) (by kernel_rfl) rfl (by kernel_rfl) (by kernel_rfl) ⟨d1, d2, d3, d4⟩ (fun _ d _ _ _ h => by cases d <;> exact h) ?_
        simp only [schedOps, List.filterMap_cons, List.filterMap_nil, List.getElem?_toArray, List.getElem?_cons_zero, List.getElem?_cons_succ, Option.map_some]
        repeat (first | (refine' wpSched_take _ (by rfl) (fun wS hS => ?_) ?_; rotate_left; (focus (obtain ⟨d1, d2, d3, d4⟩ := hS; go_simp; first | done | rfl)); (try simp only [Act.put, List.setIfInBounds_toArray, List.set_cons_zero, List.set_cons_succ])) | (refine wpSched_skip (by rfl) ?_; try simp only [Act.put, List.setIfInBounds_toArray, List.set_cons_zero, List.set_cons_succ]))
        refine wpSched_done ?_
        go_wp2_with fail
        go_roundw
        case rel => exact ⟨j + 1, by omega, by go_num, fsm_below_drewN hbl _, HNO2.out⟩
        case measure => simp [intOf]; omega
      · have HR : Hid (decide (l1 = l2) = false) := Lib.hid (decide_eq_false (fun e => heq (by subst e; rfl)))
        rw [show (l1[j].1 == l2[j].1 && l1[j].2.toList == l2[j].2.toList) = false from by
          cases h : (l1[j].1 == l2[j].1 && l1[j].2.toList == l2[j].2.toList) with
          | false => rfl
          | true =>
            simp only [Bool.and_eq_true, beq_iff_eq] at h
            exact absurd (Prod.ext h.1 (by have := h.2; rw [ba_toList, ba_toList] at this; exact ByteArray.ext (Array.toList_inj.1 this))) heq] at hneq
        obtain ⟨x, hx⟩ : ∃ x, l1[j] = x := ⟨_, rfl⟩
        obtain ⟨y, hy⟩ : ∃ y, l2[j] = y := ⟨_, rfl⟩
        rw [hx] at d1 d2 hneq
        rw [hy] at d3 d4 hneq
        simp only [Bool.not_false] at hneq
        clear hx hy heq
        go_wp2_with fail
        refine wp_schedL (fun w' => w'.cell? ⟨g1, o1 + j * 2, none⟩ = some (.int .i64 x.1) ∧ w'.cell? ⟨g1, o1 + j * 2 + 1, none⟩ = some (.string x.2) ∧ w'.cell? ⟨g2, o2 + j * 2, none⟩ = some (.int .i64 y.1) ∧ w'.cell? ⟨g2, o2 + j * 2 + 1, none⟩ = some (.string y.2)) [(0, true), (1, true), (2, true), (3, true), (4, true), (5, true), (6, true), (7, true), (8, true)] (by kernel_rfl) (by kernel_rfl) rfl (by kernel_rfl) (by kernel_rfl) ⟨d1, d2, d3, d4⟩ (fun _ d _ _ _ h => by cases d <;> exact h) ?_
        simp only [schedOps, List.filterMap_cons, List.filterMap_nil, List.getElem?_toArray, List.getElem?_cons_zero, List.getElem?_cons_succ, Option.map_some]
        repeat (first | (refine' wpSched_take _ (by rfl) (fun wS hS => ?_) ?_; rotate_left; (focus (obtain ⟨d1, d2, d3, d4⟩ := hS; go_simp; first | done | rfl)); (try simp only [Act.put, List.setIfInBounds_toArray, List.set_cons_zero, List.set_cons_succ])) | (refine wpSched_skip (by rfl) ?_; try simp only [Act.put, List.setIfInBounds_toArray, List.set_cons_zero, List.set_cons_succ]))
        refine wpSched_done ?_
        go_wp2_with fail
        go_ret
        exact ⟨by rw [HR.out]; rfl, fsm_below_drewN hbl _⟩
    · obtain rfl : j = n := by omega
      have HR : Hid (decide (l1 = l2) = true) := Lib.hid (decide_eq_true (List.ext_getElem (by rw [HN1.out, HN2.out]) (fun i hi hi2 => HNO.out i hi hi2 (by rw [← HN1.out]; exact hi))))
      go_wp2_with fail
      go_ret
      exact ⟨by rw [HR.out]; rfl, hbl⟩
end Go.Proofs.YtagnbdenecphcaaGreatDoor
/-! slices.Equal of options, whole. -/
namespace Go.Proofs.YtagnbdenecphcaaGreatDoor
open Go.RowKit
set_option linter.unusedVariables false
set_option linter.unusedSimpArgs false
set_option maxRecDepth 100000 in
set_option maxHeartbeats 4000000 in
theorem sequal_zero (a1 a2 : Option Addr) (c1 c2 : Nat) (w : World) :
    Calls Tryz.prog 50 #[.slice a1 0 c1, .slice a2 0 c2] w fun e w' => e = .returned (.bool true) ∧ Below w.heap.size w w' := by
  go_enter Tryz.func50, Tryz.ntmps50
  go_wp2_with fail
  go_loopw [13] (fun i wr => i = .int .i64 0 ∧ wr = w) (fun _ _ => 0)
  case atStart => exact ⟨rfl, rfl⟩
  case round =>
    obtain ⟨rfl, rfl⟩ := hrel
    go_wp2_with fail
    go_ret
    exact ⟨rfl, Below.refl _ _⟩
theorem sequal_any (v1 v2 : Value) (l1 l2 : List OptM) (w : World) (h1 : OptsAt w v1 l1) (h2 : OptsAt w v2 l2) :
    Calls Tryz.prog 50 #[v1, v2] w fun e w' => e = .returned (.bool (decide (l1 = l2))) ∧ Below w.heap.size w w' := by
  by_cases hn : l1.length = l2.length
  · by_cases hz : l1 = []
    · subst hz
      obtain rfl : l2 = [] := List.eq_nil_of_length_eq_zero hn.symm
      obtain ⟨a1, c1, rfl, _, _⟩ := SeqAt.form h1
      obtain ⟨a2, c2, rfl, _, _⟩ := SeqAt.form h2
      exact sequal_zero a1 a2 c1 c2 w
    · rcases h1.or with ⟨e, _⟩ | ⟨g1, o1, c1, rfl⟩
      · exact absurd e hz
      · rcases h2.or with ⟨e, _⟩ | ⟨g2, o2, c2, rfl⟩
        · subst e; exact absurd (List.eq_nil_of_length_eq_zero hn) hz
        · exact sequal_some g1 o1 c1 g2 o2 c2 l1 l2 w h1 h2 hn
  · exact sequal_len v1 v2 l1 l2 w h1 h2 hn
end Go.Proofs.YtagnbdenecphcaaGreatDoor
/-! neg.New refused; the readers of a Neg. -/
namespace Go.Proofs.YtagnbdenecphcaaGreatDoor
open Go.RowKit
set_option linter.unusedVariables false
set_option linter.unusedSimpArgs false
set_option maxRecDepth 100000 in
set_option maxHeartbeats 4000000 in
theorem new_bad (l : LinkM) (tries : Int) (w : World) (hk : newOk l tries = false) :
    Calls Tryz.prog 4 #[.agg (linkCells l), .int .i64 tries] w fun e w' => e = .returned (.tuple #[.pointer none, .int .i64 1500]) ∧ Below w.heap.size w w' := by
  have hmay := fun w => pmay_any l w
  have hB : Below w.heap.size w (w.alloc (.cells #[.int .i64 l.mru, .int .i64 l.magic, .int .i64 l.mrru, .bool l.short, .string l.disc, .int .i64 l.num] 23)) := allocB (Below.refl _ _) _
  obtain ⟨b, hb⟩ : ∃ b, mayM l = b := ⟨_, rfl⟩
  unfold newOk at hk
  rw [hb] at hmay hk
  clear hb
  unfold linkCells at hmay ⊢
  cases b with
  | false =>
    clear hk
    go_enter Tryz.func4, Tryz.ntmps4
    go_wp2_with fail
    refine (hmay _).mono ?_
    rintro e w1 ⟨rfl, hb1⟩
    clear hmay
    go_wp2_with fail
    go_ret2
    exact ⟨rfl, seqB hB hb1⟩
  | true =>
    by_cases h1 : tries < 1
    · clear hk
      go_enter Tryz.func4, Tryz.ntmps4
      go_wp2_with fail
      refine (hmay _).mono ?_
      rintro e w1 ⟨rfl, hb1⟩
      clear hmay
      go_wp2_with fail
      go_ret2
      exact ⟨rfl, seqB hB hb1⟩
    · have h2 : 10 < tries := by simp at hk; omega
      clear hk
      go_enter Tryz.func4, Tryz.ntmps4
      go_wp2_with fail
      refine (hmay _).mono ?_
      rintro e w1 ⟨rfl, hb1⟩
      clear hmay
      go_wp2_with fail
      go_ret2
      exact ⟨rfl, seqB hB hb1⟩
set_option maxRecDepth 100000 in
theorem state_any (p t : Nat) (o : Value) (s : NegM) (w : World) (h : NegBlk w p t o s) :
    Calls Tryz.prog 16 #[.pointer (some ⟨p, 0, none⟩)] w fun e w' => e = .returned (.int .i64 s.state) ∧ w' = w := by
  have c1 : w.cell? ⟨p, 1, none⟩ = some (.int .i64 s.state) := h.cell 1
  clear h
  go_enter Tryz.func16, Tryz.ntmps16
  go_wp2_with fail
  go_ret
  exact ⟨rfl, rfl⟩
set_option maxRecDepth 100000 in
theorem left_any (p t : Nat) (o : Value) (s : NegM) (w : World) (h : NegBlk w p t o s) :
    Calls Tryz.prog 19 #[.pointer (some ⟨p, 0, none⟩)] w fun e w' => e = .returned (.int .i64 s.left) ∧ w' = w := by
  have c1 : w.cell? ⟨p, 2, none⟩ = some (.int .i64 s.left) := h.cell 2
  clear h
  go_enter Tryz.func19, Tryz.ntmps19
  go_wp2_with fail
  go_ret
  exact ⟨rfl, rfl⟩
end Go.Proofs.YtagnbdenecphcaaGreatDoor
/-! the readers of a Neg: Own, Other. -/
namespace Go.Proofs.YtagnbdenecphcaaGreatDoor
open Go.RowKit
set_option linter.unusedVariables false
set_option linter.unusedSimpArgs false
set_option maxRecDepth 100000 in
theorem own_any (p t : Nat) (o : Value) (s : NegM) (w : World) (h : NegBlk w p t o s) :
    Calls Tryz.prog 17 #[.pointer (some ⟨p, 0, none⟩)] w fun e w' => e = .returned (.agg (linkCells s.own)) ∧ Below w.heap.size w w' := by
  have c0 : w.cell? ⟨p, 4, none⟩ = some (.int .i64 s.own.mru) := h.cell 4
  have c1 : w.cell? ⟨p, 4 + 1, none⟩ = some (.int .i64 s.own.magic) := h.cell (4 + 1)
  have c2 : w.cell? ⟨p, 4 + 2, none⟩ = some (.int .i64 s.own.mrru) := h.cell (4 + 2)
  have c3 : w.cell? ⟨p, 4 + 3, none⟩ = some (.bool s.own.short) := h.cell (4 + 3)
  have c4 : w.cell? ⟨p, 4 + 4, none⟩ = some (.string s.own.disc) := h.cell (4 + 4)
  have c5 : w.cell? ⟨p, 4 + 5, none⟩ = some (.int .i64 s.own.num) := h.cell (4 + 5)
  have hpl := h.lt
  clear h
  go_enter Tryz.func17, Tryz.ntmps17
  go_wp2_with fail
  obtain ⟨k0, k1, k2, k3, k4, k5⟩ : (w.alloc (.cells (linkCells s.own) 23)).cell? ⟨w.heap.size, 0, none⟩ = some (.int .i64 s.own.mru) ∧ (w.alloc (.cells (linkCells s.own) 23)).cell? ⟨w.heap.size, 1, none⟩ = some (.int .i64 s.own.magic) ∧ (w.alloc (.cells (linkCells s.own) 23)).cell? ⟨w.heap.size, 2, none⟩ = some (.int .i64 s.own.mrru) ∧ (w.alloc (.cells (linkCells s.own) 23)).cell? ⟨w.heap.size, 3, none⟩ = some (.bool s.own.short) ∧ (w.alloc (.cells (linkCells s.own) 23)).cell? ⟨w.heap.size, 4, none⟩ = some (.string s.own.disc) ∧ (w.alloc (.cells (linkCells s.own) 23)).cell? ⟨w.heap.size, 5, none⟩ = some (.int .i64 s.own.num) := by
    refine ⟨?_, ?_, ?_, ?_, ?_, ?_⟩ <;> (rw [World.cell?_alloc_new]; rfl)
  unfold linkCells at k0 k1 k2 k3 k4 k5
  refine bodyPost_ret (v := .agg (linkCells s.own)) (by simp [results, Tryz.results17, go_sem, k0, k1, k2, k3, k4, k5, linkCells]) rfl ⟨rfl, allocB (Below.refl _ _) _⟩
set_option maxRecDepth 100000 in
theorem other_any (p t : Nat) (o : Value) (s : NegM) (w : World) (h : NegBlk w p t o s) :
    Calls Tryz.prog 18 #[.pointer (some ⟨p, 0, none⟩)] w fun e w' => e = .returned (.agg (linkCells s.other)) ∧ Below w.heap.size w w' := by
  have c0 : w.cell? ⟨p, 10, none⟩ = some (.int .i64 s.other.mru) := h.cell 10
  have c1 : w.cell? ⟨p, 10 + 1, none⟩ = some (.int .i64 s.other.magic) := h.cell (10 + 1)
  have c2 : w.cell? ⟨p, 10 + 2, none⟩ = some (.int .i64 s.other.mrru) := h.cell (10 + 2)
  have c3 : w.cell? ⟨p, 10 + 3, none⟩ = some (.bool s.other.short) := h.cell (10 + 3)
  have c4 : w.cell? ⟨p, 10 + 4, none⟩ = some (.string s.other.disc) := h.cell (10 + 4)
  have c5 : w.cell? ⟨p, 10 + 5, none⟩ = some (.int .i64 s.other.num) := h.cell (10 + 5)
  have hpl := h.lt
  clear h
  go_enter Tryz.func18, Tryz.ntmps18
  go_wp2_with fail
  obtain ⟨k0, k1, k2, k3, k4, k5⟩ : (w.alloc (.cells (linkCells s.other) 23)).cell? ⟨w.heap.size, 0, none⟩ = some (.int .i64 s.other.mru) ∧ (w.alloc (.cells (linkCells s.other) 23)).cell? ⟨w.heap.size, 1, none⟩ = some (.int .i64 s.other.magic) ∧ (w.alloc (.cells (linkCells s.other) 23)).cell? ⟨w.heap.size, 2, none⟩ = some (.int .i64 s.other.mrru) ∧ (w.alloc (.cells (linkCells s.other) 23)).cell? ⟨w.heap.size, 3, none⟩ = some (.bool s.other.short) ∧ (w.alloc (.cells (linkCells s.other) 23)).cell? ⟨w.heap.size, 4, none⟩ = some (.string s.other.disc) ∧ (w.alloc (.cells (linkCells s.other) 23)).cell? ⟨w.heap.size, 5, none⟩ = some (.int .i64 s.other.num) := by
    refine ⟨?_, ?_, ?_, ?_, ?_, ?_⟩ <;> (rw [World.cell?_alloc_new]; rfl)
  unfold linkCells at k0 k1 k2 k3 k4 k5
  refine bodyPost_ret (v := .agg (linkCells s.other)) (by simp [results, Tryz.results18, go_sem, k0, k1, k2, k3, k4, k5, linkCells]) rfl ⟨rfl, allocB (Below.refl _ _) _⟩
end Go.Proofs.YtagnbdenecphcaaGreatDoor
