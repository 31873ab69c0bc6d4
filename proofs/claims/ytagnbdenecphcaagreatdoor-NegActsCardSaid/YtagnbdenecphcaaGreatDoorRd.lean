/- The reference's policy: Learn. -/
import Derived.Test.YtagnbdenecphcaaGreatDoorRc
import Derived.Test.YtagnbdenecphcaaGreatDoorRin
namespace Go.Proofs.YtagnbdenecphcaaGreatDoor
open Go.RowKit
set_option linter.unusedVariables false
set_option linter.unusedSimpArgs false
/-- where a link lies -/
def LinkAt (w : World) (p : Nat) (l : LinkM) : Prop := w.heap[p]? = some (.cells (linkCells l) 23 (0, 0))
theorem LinkAt.below {w w' : World} {p : Nat} {l : LinkM} (h : LinkAt w p l) (hb : Below w.heap.size w w') : LinkAt w' p l := below_of hb h
theorem LinkAt.frozen {w : World} {p : Nat} {l : LinkM} (h : LinkAt w p l) (i : Nat) : w.frozen? ⟨p, i, none⟩ = false := by
  unfold LinkAt at h
  simp [World.frozen?, h]
/-- a link is stored -/
def putLink (w : World) (p : Nat) (l : LinkM) : World :=
  (((((w.setCell ⟨p, 0, none⟩ (.int .i64 l.mru)).setCell ⟨p, 1, none⟩ (.int .i64 l.magic)).setCell ⟨p, 2, none⟩ (.int .i64 l.mrru)).setCell ⟨p, 3, none⟩ (.bool l.short)).setCell ⟨p, 4, none⟩ (.string l.disc)).setCell ⟨p, 5, none⟩ (.int .i64 l.num)
theorem putLink_only (w : World) (p : Nat) (l : LinkM) : Only (· = p) w (putLink w p l) := by
  have z : ∀ w i x, Only (· = p) w (w.setCell ⟨p, i, none⟩ x) := fun w i x => only_set w p i x
  exact (((((z _ _ _).trans (z _ _ _)).trans (z _ _ _)).trans (z _ _ _)).trans (z _ _ _)).trans (z _ _ _)
theorem putLink_at {w : World} {p : Nat} {l0 : LinkM} (h : LinkAt w p l0) (l : LinkM) : LinkAt (putLink w p l) p l := by
  unfold LinkAt at h
  rw [linkCells_eq] at h
  exact link_after h _ _ _ _ _ _
theorem clear_noask (l : LinkM) (k : Int) (hk : k = 1 ∨ k = 5 ∨ k = 17 ∨ k = 18 ∨ k = 19 ∨ k = 23) (h : asksM l k = false) : clearM l k = l := by
  obtain ⟨l0, l1, l2, l3, l4, l5⟩ := l
  rcases hk with rfl | rfl | rfl | rfl | rfl | rfl
  · simp [asksM, fieldM] at h; simp [clearM, putF, h]
  · simp [asksM, fieldM] at h; simp [clearM, putF, h]
  · simp [asksM, fieldM] at h; simp [clearM, putF, h]
  · simp [asksM] at h; simp [clearM, h]
  · simp [asksM] at h
    have h2 : l4 = ⟨#[]⟩ := by apply ByteArray.ext; apply Array.ext'; simpa using h
    simp [clearM, h2]
  · simp [asksM, fieldM] at h; simp [clearM, putF, h]
set_option maxRecDepth 100000 in
set_option maxHeartbeats 8000000 in
theorem rlearn_nil3 (l : LinkM) (a : Option Addr) (c : Nat) (w : World) (hm : mayM l = true) :
    Calls Tryz.prog 34 #[.agg (linkCells l), .int .i64 3, .slice a 0 c] w fun e w' => e = .returned (.tuple #[.agg (linkCells l), .int .i64 0]) ∧ Below w.heap.size w w' := by
  have hmay := fun w => rmay_any l w
  rw [hm] at hmay
  clear hm
  have HLh := Lib.hid linkCells_eq
  rw [HLh.out] at hmay ⊢
  go_enter Tryz.func34, Tryz.ntmps34
  go_wp2_with fail
  refine (hmay _).mono ?_
  rintro e w1 ⟨rfl, hb1⟩
  have hS : LinkAt w1 w.heap.size l := below_of hb1 (by rw [HLh.out]; exact heap_first2 _ _ _)
  have hzz : w1.heap[w.heap.size + 1]? = some (.cells #[.int .i64 0, .int .i64 0, .int .i64 0, .bool false, .string ⟨#[]⟩, .int .i64 0] 23 (0, 0)) := below_of hb1 (by simpa using heap_alloc_last (w.alloc _) _)
  have hBW : Below w.heap.size w w1 := seqB (allocB (allocB (Below.refl _ _) _) _) hb1
  have hlt1 : w.heap.size + 1 < w1.heap.size := (Array.getElem?_eq_some_iff.1 hzz).1
  clear hb1 hmay
  go_wp2_with fail
  go_loopw [8] (fun i wr => i = .int .i64 0 ∧ wr = w1) (fun _ _ => 0)
  case atStart => exact ⟨rfl, rfl⟩
  case round =>
      obtain ⟨rfl, rfl⟩ := hrel
      have hend := hS
      have hz2 := hzz
      have hBf := hBW
      clear hS hzz hBW
      obtain ⟨q, hq⟩ : ∃ q, l = q := ⟨_, rfl⟩
      rw [hq] at hend
      have HQ := Lib.hid hq
      clear hq
      obtain ⟨c0, c1, c2, c3, c4, c5⟩ := link_cells hend
      have z0 : wr.cell? ⟨w.heap.size + 1, 0, none⟩ = some (.int .i64 0) := by simp [World.cell?, hz2]
      have z1 : wr.cell? ⟨w.heap.size + 1, 1, none⟩ = some (.int .i64 0) := by simp [World.cell?, hz2]
      have z2 : wr.cell? ⟨w.heap.size + 1, 2, none⟩ = some (.int .i64 0) := by simp [World.cell?, hz2]
      have z3 : wr.cell? ⟨w.heap.size + 1, 3, none⟩ = some (.bool false) := by simp [World.cell?, hz2]
      have z4 : wr.cell? ⟨w.heap.size + 1, 4, none⟩ = some (.string ⟨#[]⟩) := by simp [World.cell?, hz2]
      have z5 : wr.cell? ⟨w.heap.size + 1, 5, none⟩ = some (.int .i64 0) := by simp [World.cell?, hz2]
      have f0 : wr.frozen? ⟨w.heap.size + 1, 0, none⟩ = false := by simp [World.frozen?, hz2]
      have f1 : wr.frozen? ⟨w.heap.size + 1, 1, none⟩ = false := by simp [World.frozen?, hz2]
      have f2 : wr.frozen? ⟨w.heap.size + 1, 2, none⟩ = false := by simp [World.frozen?, hz2]
      have f3 : wr.frozen? ⟨w.heap.size + 1, 3, none⟩ = false := by simp [World.frozen?, hz2]
      have f4 : wr.frozen? ⟨w.heap.size + 1, 4, none⟩ = false := by simp [World.frozen?, hz2]
      have f5 : wr.frozen? ⟨w.heap.size + 1, 5, none⟩ = false := by simp [World.frozen?, hz2]
      obtain ⟨k0, k1, k2, k3, k4, k5⟩ := link_after_cells hz2 (.int .i64 q.mru) (.int .i64 q.magic) (.int .i64 q.mrru) (.bool q.short) (.string q.disc) (.int .i64 q.num) _ rfl
      have hBl := below6 (B := w.heap.size + 1) hBf (Nat.le_succ _) (.int .i64 q.mru) (.int .i64 q.magic) (.int .i64 q.mrru) (.bool q.short) (.string q.disc) (.int .i64 q.num)
      go_wp2_with fail
      refine bodyPost_ret (v := .tuple #[.agg #[.int .i64 q.mru, .int .i64 q.magic, .int .i64 q.mrru, .bool q.short, .string q.disc, .int .i64 q.num], .int .i64 0]) (by simp [results, Tryz.results34, go_sem, k0, k1, k2, k3, k4, k5]) rfl ⟨?_, hBl⟩
      rw [← HLh.out, ← HQ.out]
      try rfl
set_option maxRecDepth 100000 in
set_option maxHeartbeats 8000000 in
theorem rlearn_some3 (l : LinkM) (g o c : Nat) (os : List OptM) (w : World) (hm : mayM l = true) (hv : OptsAt w (.slice (some ⟨g, o, none⟩) os.length c) os) :
    Calls Tryz.prog 34 #[.agg (linkCells l), .int .i64 3, .slice (some ⟨g, o, none⟩) os.length c] w fun e w' => e = .returned (.tuple #[.agg (linkCells (os.foldl (learnStep 3) l)), .int .i64 0]) ∧ Below w.heap.size w w' := by
  have hn := SeqAt.le hv
  have hgl : g < w.heap.size := SeqAt.lt hv g rfl
  have hmay := fun w => rmay_any l w
  rw [hm] at hmay
  clear hm
  have HLh := Lib.hid linkCells_eq
  rw [HLh.out] at hmay ⊢
  go_enter Tryz.func34, Tryz.ntmps34
  go_wp2_with fail
  refine (hmay _).mono ?_
  rintro e w1 ⟨rfl, hb1⟩
  have hS : LinkAt w1 w.heap.size l := below_of hb1 (by rw [HLh.out]; exact heap_first2 _ _ _)
  have hzz : w1.heap[w.heap.size + 1]? = some (.cells #[.int .i64 0, .int .i64 0, .int .i64 0, .bool false, .string ⟨#[]⟩, .int .i64 0] 23 (0, 0)) := below_of hb1 (by simpa using heap_alloc_last (w.alloc _) _)
  have hBW : Below w.heap.size w w1 := seqB (allocB (allocB (Below.refl _ _) _) _) hb1
  have hlt1 : w.heap.size + 1 < w1.heap.size := (Array.getElem?_eq_some_iff.1 hzz).1
  clear hb1 hmay
  go_wp2_with fail
  obtain ⟨-, hcl, hcm, hcell⟩ := (hv.below hBW).cells
  have hcn : c ≤ 9223372036854775807 := by unfold maxLen at hcm; omega
  obtain ⟨n, hnn⟩ : ∃ n, os.length = n := ⟨_, rfl⟩
  have HN := Lib.hid hnn
  have HC := Lib.hid hcell
  rw [hnn] at hn hcl ⊢
  clear hnn hcell hv hcm
  go_loopw [8] (fun i wr => ∃ k : Nat, k ≤ n ∧ i = .int .i64 k ∧ LinkAt wr w.heap.size ((os.take k).foldl (learnStep 3) l) ∧ Only (· = w.heap.size) w1 wr) (fun i _ => n - (intOf i).toNat)
  case atStart => exact ⟨0, Nat.zero_le _, rfl, hS, Only.refl _ _⟩
  case round =>
    obtain ⟨k, hk, rfl, hSr, hOr⟩ := hrel
    by_cases hlt : k < n
    · have hkl : k < os.length := by rw [HN.out]; exact hlt
      obtain ⟨d1, d2⟩ := HC.out k hkl
      replace d1 := hOr.cell d1 (show ¬ (g = w.heap.size) by omega)
      replace d2 := hOr.cell d2 (show ¬ (g = w.heap.size) by omega)
      have hst := learnTo_succ l 3 os k hkl
      obtain ⟨x, hx⟩ : ∃ x, os[k] = x := ⟨_, rfl⟩
      rw [hx] at d1 d2 hst
      obtain ⟨acc, hacc⟩ : ∃ acc, (os.take k).foldl (learnStep 3) l = acc := ⟨_, rfl⟩
      rw [hacc] at hSr hst
      have hri := fun w => rright_any x w
      clear hx hacc hS hzz
      cases hr : rightM x with
      | false =>
        rw [hr] at hri
        have HST : Hid ((os.take (k + 1)).foldl (learnStep 3) l = acc) := Lib.hid (by rw [hst]; unfold learnStep; rw [if_pos (.inl hr)])
        clear hst hr
        go_wp2_with fail
        refine (hri _).mono ?_
        rintro e w3 ⟨rfl, hb3⟩
        have hS3 := hSr.below hb3
        have hO3 := hOr.then hb3
        clear hb3 hSr hOr
        go_wp2_with fail
        go_roundw
        case rel => exact ⟨k + 1, by omega, by go_num, by rw [HST.out]; exact hS3, hO3⟩
        case measure => simp [intOf]; omega
      | true =>
        rw [hr] at hri
        have hkk := right_six hr
        have hstep := fun w => rtaught_any acc x w hr
        have HST : Hid ((os.take (k + 1)).foldl (learnStep 3) l = learnStep 3 acc x) := Lib.hid (by
          rw [hst])
        obtain ⟨J, hJ⟩ : ∃ J, learnStep 3 acc x = J := ⟨_, rfl⟩
        rw [hJ] at hstep HST
        simp only [linkCells_eq] at hstep
        clear hst hr hkk hJ
        go_wp2_with fail
        refine (hri _).mono ?_
        rintro e w3 ⟨rfl, hb3⟩
        have hS3 := hSr.below hb3
        have hO3 := hOr.then hb3
        have d31 := fsm_below_cell hb3 d1
        have d32 := fsm_below_cell hb3 d2
        clear hb3 hSr hOr d1 d2
        obtain ⟨c0, c1, c2, c3, c4, c5⟩ := link_cells hS3
        go_wp2_with fail
        refine wp_schedS (fun w' => w'.cell? ⟨w.heap.size, 0, none⟩ = some (.int .i64 acc.mru) ∧ w'.cell? ⟨w.heap.size, 1, none⟩ = some (.int .i64 acc.magic) ∧ w'.cell? ⟨w.heap.size, 2, none⟩ = some (.int .i64 acc.mrru) ∧ w'.cell? ⟨w.heap.size, 3, none⟩ = some (.bool acc.short) ∧ w'.cell? ⟨w.heap.size, 4, none⟩ = some (.string acc.disc) ∧ w'.cell? ⟨w.heap.size, 5, none⟩ = some (.int .i64 acc.num) ∧ w'.cell? ⟨g, o + k * 2, none⟩ = some (.int .i64 x.1) ∧ w'.cell? ⟨g, o + k * 2 + 1, none⟩ = some (.string x.2)) 6 [(0, 1), (1, 1), (2, 1), (3, 1), (4, 1), (5, 0), (6, 0)] (by kernel_rfl) (by kernel_rfl) rfl (by kernel_rfl) (by kernel_rfl) ⟨c0, c1, c2, c3, c4, c5, d31, d32⟩ (fun _ d _ _ _ h => by cases d <;> exact h) ?_
        simp only [schedOpsN, List.filterMap_cons, List.filterMap_nil, List.getElem?_toArray, List.getElem?_cons_zero, List.getElem?_cons_succ, Option.map_some]
        repeat (first | (refine' wpS_take _ (by rfl) (fun wS hS => ?_) ?_; rotate_left; (focus (obtain ⟨k0, k1, k2, k3, k4, k5, k6, k7⟩ := hS; go_simp; first | done | rfl)); (try simp only [Act.put, List.setIfInBounds_toArray, List.set_cons_zero, List.set_cons_succ])) | (refine' wpS_pure _ (by rfl) (fun wS => ?_) ?_; rotate_left; (focus (go_simp; first | done | rfl)); (try simp only [Act.put, List.setIfInBounds_toArray, List.set_cons_zero, List.set_cons_succ])) | (refine wpS_skip (by rfl) ?_; try simp only [Act.put, List.setIfInBounds_toArray, List.set_cons_zero, List.set_cons_succ]))
        refine wpS_run (fun K hK => ?_)
        go_wp2_with (go_at_call 58; refine (hstep _).mono ?_; rintro e w5 ⟨rfl, hb5⟩)
        have gg := fun {a : Addr} {v : Value} (h : w3.cell? a = some v) => fsm_below_cell (W := w3.drew) hb5 h
        refine QRun_normal (hK.out _ _ ⟨gg c0, gg c1, gg c2, gg c3, gg c4, gg c5, gg d31, gg d32⟩ ?_)
        clear hK K
        repeat (first | (refine' wpS_take _ (by rfl) (fun wS hS => ?_) ?_; rotate_left; (focus (obtain ⟨k0, k1, k2, k3, k4, k5, k6, k7⟩ := hS; go_simp; first | done | rfl)); (try simp only [Act.put, List.setIfInBounds_toArray, List.set_cons_zero, List.set_cons_succ])) | (refine' wpS_pure _ (by rfl) (fun wS => ?_) ?_; rotate_left; (focus (go_simp; first | done | rfl)); (try simp only [Act.put, List.setIfInBounds_toArray, List.set_cons_zero, List.set_cons_succ])) | (refine wpS_skip (by rfl) ?_; try simp only [Act.put, List.setIfInBounds_toArray, List.set_cons_zero, List.set_cons_succ]))
        have hS5 : LinkAt w5 w.heap.size acc := LinkAt.below (w := w3.drew) hS3 hb5
        obtain ⟨x0, x1, x2, x3, x4, x5⟩ := link_cells hS5
        have f0 := hS5.frozen 0
        have f1 := hS5.frozen 1
        have f2 := hS5.frozen 2
        have f3 := hS5.frozen 3
        have f4 := hS5.frozen 4
        have f5 := hS5.frozen 5
        have hSL := putLink_at hS5 J
        have hOL := (hO3.drew.then (w1 := w3.drew) hb5).trans (putLink_only w5 w.heap.size J)
        have hW : (((((w5.setCell ⟨w.heap.size, 0, none⟩ (.int .i64 J.mru)).setCell ⟨w.heap.size, 1, none⟩ (.int .i64 J.magic)).setCell ⟨w.heap.size, 2, none⟩ (.int .i64 J.mrru)).setCell ⟨w.heap.size, 3, none⟩ (.bool J.short)).setCell ⟨w.heap.size, 4, none⟩ (.string J.disc)).setCell ⟨w.heap.size, 5, none⟩ (.int .i64 J.num) = putLink w5 w.heap.size J := rfl
        clear hb5 gg c0 c1 c2 c3 c4 c5 d31 d32 hS3 hO3 hS5
        refine wpS_last (fun K hK => ?_)
        go_wp2_with fail
        refine QRun_normal (hK.out _ _ ?_)
        clear hK K
        go_wp2_with fail
        go_roundw
        case rel => exact ⟨k + 1, by omega, by go_num, by rw [HST.out]; exact hSL, hOL⟩
        case measure => simp [intOf]; omega
    · obtain rfl : k = n := by omega
      have hend := hSr
      rw [← HN.out, List.take_length] at hend
      have hz2 := hOr.heap hzz (by omega)
      have hBf : Below w.heap.size w wr := hBW.trans (hOr.below (B := w.heap.size) hBW.size (fun k hk => by subst hk; omega))
      clear hSr hOr hS hzz
      obtain ⟨q, hq⟩ : ∃ q, (os.foldl (learnStep 3) l) = q := ⟨_, rfl⟩
      rw [hq] at hend
      have HQ := Lib.hid hq
      clear hq
      obtain ⟨c0, c1, c2, c3, c4, c5⟩ := link_cells hend
      have z0 : wr.cell? ⟨w.heap.size + 1, 0, none⟩ = some (.int .i64 0) := by simp [World.cell?, hz2]
      have z1 : wr.cell? ⟨w.heap.size + 1, 1, none⟩ = some (.int .i64 0) := by simp [World.cell?, hz2]
      have z2 : wr.cell? ⟨w.heap.size + 1, 2, none⟩ = some (.int .i64 0) := by simp [World.cell?, hz2]
      have z3 : wr.cell? ⟨w.heap.size + 1, 3, none⟩ = some (.bool false) := by simp [World.cell?, hz2]
      have z4 : wr.cell? ⟨w.heap.size + 1, 4, none⟩ = some (.string ⟨#[]⟩) := by simp [World.cell?, hz2]
      have z5 : wr.cell? ⟨w.heap.size + 1, 5, none⟩ = some (.int .i64 0) := by simp [World.cell?, hz2]
      have f0 : wr.frozen? ⟨w.heap.size + 1, 0, none⟩ = false := by simp [World.frozen?, hz2]
      have f1 : wr.frozen? ⟨w.heap.size + 1, 1, none⟩ = false := by simp [World.frozen?, hz2]
      have f2 : wr.frozen? ⟨w.heap.size + 1, 2, none⟩ = false := by simp [World.frozen?, hz2]
      have f3 : wr.frozen? ⟨w.heap.size + 1, 3, none⟩ = false := by simp [World.frozen?, hz2]
      have f4 : wr.frozen? ⟨w.heap.size + 1, 4, none⟩ = false := by simp [World.frozen?, hz2]
      have f5 : wr.frozen? ⟨w.heap.size + 1, 5, none⟩ = false := by simp [World.frozen?, hz2]
      obtain ⟨k0, k1, k2, k3, k4, k5⟩ := link_after_cells hz2 (.int .i64 q.mru) (.int .i64 q.magic) (.int .i64 q.mrru) (.bool q.short) (.string q.disc) (.int .i64 q.num) _ rfl
      have hBl := below6 (B := w.heap.size + 1) hBf (Nat.le_succ _) (.int .i64 q.mru) (.int .i64 q.magic) (.int .i64 q.mrru) (.bool q.short) (.string q.disc) (.int .i64 q.num)
      go_wp2_with fail
      refine bodyPost_ret (v := .tuple #[.agg #[.int .i64 q.mru, .int .i64 q.magic, .int .i64 q.mrru, .bool q.short, .string q.disc, .int .i64 q.num], .int .i64 0]) (by simp [results, Tryz.results34, go_sem, k0, k1, k2, k3, k4, k5]) rfl ⟨?_, hBl⟩
      rw [← HLh.out, ← HQ.out]
      try rfl
set_option maxRecDepth 100000 in
set_option maxHeartbeats 8000000 in
theorem rlearn_nil4 (l : LinkM) (a : Option Addr) (c : Nat) (w : World) (hm : mayM l = true) :
    Calls Tryz.prog 34 #[.agg (linkCells l), .int .i64 4, .slice a 0 c] w fun e w' => e = .returned (.tuple #[.agg (linkCells l), .int .i64 0]) ∧ Below w.heap.size w w' := by
  have hmay := fun w => rmay_any l w
  rw [hm] at hmay
  clear hm
  have HLh := Lib.hid linkCells_eq
  rw [HLh.out] at hmay ⊢
  go_enter Tryz.func34, Tryz.ntmps34
  go_wp2_with fail
  refine (hmay _).mono ?_
  rintro e w1 ⟨rfl, hb1⟩
  have hS : LinkAt w1 w.heap.size l := below_of hb1 (by rw [HLh.out]; exact heap_first2 _ _ _)
  have hzz : w1.heap[w.heap.size + 1]? = some (.cells #[.int .i64 0, .int .i64 0, .int .i64 0, .bool false, .string ⟨#[]⟩, .int .i64 0] 23 (0, 0)) := below_of hb1 (by simpa using heap_alloc_last (w.alloc _) _)
  have hBW : Below w.heap.size w w1 := seqB (allocB (allocB (Below.refl _ _) _) _) hb1
  have hlt1 : w.heap.size + 1 < w1.heap.size := (Array.getElem?_eq_some_iff.1 hzz).1
  clear hb1 hmay
  go_wp2_with fail
  go_loopw [8] (fun i wr => i = .int .i64 0 ∧ wr = w1) (fun _ _ => 0)
  case atStart => exact ⟨rfl, rfl⟩
  case round =>
      obtain ⟨rfl, rfl⟩ := hrel
      have hend := hS
      have hz2 := hzz
      have hBf := hBW
      clear hS hzz hBW
      obtain ⟨q, hq⟩ : ∃ q, l = q := ⟨_, rfl⟩
      rw [hq] at hend
      have HQ := Lib.hid hq
      clear hq
      obtain ⟨c0, c1, c2, c3, c4, c5⟩ := link_cells hend
      have z0 : wr.cell? ⟨w.heap.size + 1, 0, none⟩ = some (.int .i64 0) := by simp [World.cell?, hz2]
      have z1 : wr.cell? ⟨w.heap.size + 1, 1, none⟩ = some (.int .i64 0) := by simp [World.cell?, hz2]
      have z2 : wr.cell? ⟨w.heap.size + 1, 2, none⟩ = some (.int .i64 0) := by simp [World.cell?, hz2]
      have z3 : wr.cell? ⟨w.heap.size + 1, 3, none⟩ = some (.bool false) := by simp [World.cell?, hz2]
      have z4 : wr.cell? ⟨w.heap.size + 1, 4, none⟩ = some (.string ⟨#[]⟩) := by simp [World.cell?, hz2]
      have z5 : wr.cell? ⟨w.heap.size + 1, 5, none⟩ = some (.int .i64 0) := by simp [World.cell?, hz2]
      have f0 : wr.frozen? ⟨w.heap.size + 1, 0, none⟩ = false := by simp [World.frozen?, hz2]
      have f1 : wr.frozen? ⟨w.heap.size + 1, 1, none⟩ = false := by simp [World.frozen?, hz2]
      have f2 : wr.frozen? ⟨w.heap.size + 1, 2, none⟩ = false := by simp [World.frozen?, hz2]
      have f3 : wr.frozen? ⟨w.heap.size + 1, 3, none⟩ = false := by simp [World.frozen?, hz2]
      have f4 : wr.frozen? ⟨w.heap.size + 1, 4, none⟩ = false := by simp [World.frozen?, hz2]
      have f5 : wr.frozen? ⟨w.heap.size + 1, 5, none⟩ = false := by simp [World.frozen?, hz2]
      obtain ⟨k0, k1, k2, k3, k4, k5⟩ := link_after_cells hz2 (.int .i64 q.mru) (.int .i64 q.magic) (.int .i64 q.mrru) (.bool q.short) (.string q.disc) (.int .i64 q.num) _ rfl
      have hBl := below6 (B := w.heap.size + 1) hBf (Nat.le_succ _) (.int .i64 q.mru) (.int .i64 q.magic) (.int .i64 q.mrru) (.bool q.short) (.string q.disc) (.int .i64 q.num)
      go_wp2_with fail
      refine bodyPost_ret (v := .tuple #[.agg #[.int .i64 q.mru, .int .i64 q.magic, .int .i64 q.mrru, .bool q.short, .string q.disc, .int .i64 q.num], .int .i64 0]) (by simp [results, Tryz.results34, go_sem, k0, k1, k2, k3, k4, k5]) rfl ⟨?_, hBl⟩
      rw [← HLh.out, ← HQ.out]
      try rfl
set_option maxRecDepth 100000 in
set_option maxHeartbeats 8000000 in
theorem rlearn_some4 (l : LinkM) (g o c : Nat) (os : List OptM) (w : World) (hm : mayM l = true) (hv : OptsAt w (.slice (some ⟨g, o, none⟩) os.length c) os) :
    Calls Tryz.prog 34 #[.agg (linkCells l), .int .i64 4, .slice (some ⟨g, o, none⟩) os.length c] w fun e w' => e = .returned (.tuple #[.agg (linkCells (os.foldl (learnStep 4) l)), .int .i64 0]) ∧ Below w.heap.size w w' := by
  have hn := SeqAt.le hv
  have hgl : g < w.heap.size := SeqAt.lt hv g rfl
  have hmay := fun w => rmay_any l w
  rw [hm] at hmay
  clear hm
  have HLh := Lib.hid linkCells_eq
  rw [HLh.out] at hmay ⊢
  go_enter Tryz.func34, Tryz.ntmps34
  go_wp2_with fail
  refine (hmay _).mono ?_
  rintro e w1 ⟨rfl, hb1⟩
  have hS : LinkAt w1 w.heap.size l := below_of hb1 (by rw [HLh.out]; exact heap_first2 _ _ _)
  have hzz : w1.heap[w.heap.size + 1]? = some (.cells #[.int .i64 0, .int .i64 0, .int .i64 0, .bool false, .string ⟨#[]⟩, .int .i64 0] 23 (0, 0)) := below_of hb1 (by simpa using heap_alloc_last (w.alloc _) _)
  have hBW : Below w.heap.size w w1 := seqB (allocB (allocB (Below.refl _ _) _) _) hb1
  have hlt1 : w.heap.size + 1 < w1.heap.size := (Array.getElem?_eq_some_iff.1 hzz).1
  clear hb1 hmay
  go_wp2_with fail
  obtain ⟨-, hcl, hcm, hcell⟩ := (hv.below hBW).cells
  have hcn : c ≤ 9223372036854775807 := by unfold maxLen at hcm; omega
  obtain ⟨n, hnn⟩ : ∃ n, os.length = n := ⟨_, rfl⟩
  have HN := Lib.hid hnn
  have HC := Lib.hid hcell
  rw [hnn] at hn hcl ⊢
  clear hnn hcell hv hcm
  go_loopw [8] (fun i wr => ∃ k : Nat, k ≤ n ∧ i = .int .i64 k ∧ LinkAt wr w.heap.size ((os.take k).foldl (learnStep 4) l) ∧ Only (· = w.heap.size) w1 wr) (fun i _ => n - (intOf i).toNat)
  case atStart => exact ⟨0, Nat.zero_le _, rfl, hS, Only.refl _ _⟩
  case round =>
    obtain ⟨k, hk, rfl, hSr, hOr⟩ := hrel
    by_cases hlt : k < n
    · have hkl : k < os.length := by rw [HN.out]; exact hlt
      obtain ⟨d1, d2⟩ := HC.out k hkl
      replace d1 := hOr.cell d1 (show ¬ (g = w.heap.size) by omega)
      replace d2 := hOr.cell d2 (show ¬ (g = w.heap.size) by omega)
      have hst := learnTo_succ l 4 os k hkl
      obtain ⟨x, hx⟩ : ∃ x, os[k] = x := ⟨_, rfl⟩
      rw [hx] at d1 d2 hst
      obtain ⟨acc, hacc⟩ : ∃ acc, (os.take k).foldl (learnStep 4) l = acc := ⟨_, rfl⟩
      rw [hacc] at hSr hst
      have hri := fun w => rright_any x w
      clear hx hacc hS hzz
      cases hr : rightM x with
      | false =>
        rw [hr] at hri
        have HST : Hid ((os.take (k + 1)).foldl (learnStep 4) l = acc) := Lib.hid (by rw [hst]; unfold learnStep; rw [if_pos (.inl hr)])
        clear hst hr
        go_wp2_with fail
        refine (hri _).mono ?_
        rintro e w3 ⟨rfl, hb3⟩
        have hS3 := hSr.below hb3
        have hO3 := hOr.then hb3
        clear hb3 hSr hOr
        go_wp2_with fail
        go_roundw
        case rel => exact ⟨k + 1, by omega, by go_num, by rw [HST.out]; exact hS3, hO3⟩
        case measure => simp [intOf]; omega
      | true =>
        rw [hr] at hri
        have hkk := right_six hr
        have hstep := fun w => rwithout_any acc x.1 w hkk.1
        have HST : Hid ((os.take (k + 1)).foldl (learnStep 4) l = clearM acc x.1) := Lib.hid (by
          rw [hst]
          unfold learnStep
          rw [hr]
          by_cases ha : asksM acc x.1 = false
          · rw [if_pos (.inr ha), clear_noask acc x.1 hkk.1 ha]
          · rw [if_neg (by simp [ha]), if_pos rfl])
        obtain ⟨J, hJ⟩ : ∃ J, clearM acc x.1 = J := ⟨_, rfl⟩
        rw [hJ] at hstep HST
        simp only [linkCells_eq] at hstep
        clear hst hr hkk hJ
        go_wp2_with fail
        refine (hri _).mono ?_
        rintro e w3 ⟨rfl, hb3⟩
        have hS3 := hSr.below hb3
        have hO3 := hOr.then hb3
        have d31 := fsm_below_cell hb3 d1
        have d32 := fsm_below_cell hb3 d2
        clear hb3 hSr hOr d1 d2
        obtain ⟨c0, c1, c2, c3, c4, c5⟩ := link_cells hS3
        go_wp2_with fail
        refine wp_schedS (fun w' => w'.cell? ⟨w.heap.size, 0, none⟩ = some (.int .i64 acc.mru) ∧ w'.cell? ⟨w.heap.size, 1, none⟩ = some (.int .i64 acc.magic) ∧ w'.cell? ⟨w.heap.size, 2, none⟩ = some (.int .i64 acc.mrru) ∧ w'.cell? ⟨w.heap.size, 3, none⟩ = some (.bool acc.short) ∧ w'.cell? ⟨w.heap.size, 4, none⟩ = some (.string acc.disc) ∧ w'.cell? ⟨w.heap.size, 5, none⟩ = some (.int .i64 acc.num) ∧ w'.cell? ⟨g, o + k * 2, none⟩ = some (.int .i64 x.1) ∧ w'.cell? ⟨g, o + k * 2 + 1, none⟩ = some (.string x.2)) 7 [(0, 1), (1, 1), (2, 1), (3, 1), (4, 1), (5, 1), (6, 0), (7, 0)] (by kernel_rfl) (by kernel_rfl) rfl (by kernel_rfl) (by kernel_rfl) ⟨c0, c1, c2, c3, c4, c5, d31, d32⟩ (fun _ d _ _ _ h => by cases d <;> exact h) ?_
        simp only [schedOpsN, List.filterMap_cons, List.filterMap_nil, List.getElem?_toArray, List.getElem?_cons_zero, List.getElem?_cons_succ, Option.map_some]
        repeat (first | (refine' wpS_take _ (by rfl) (fun wS hS => ?_) ?_; rotate_left; (focus (obtain ⟨k0, k1, k2, k3, k4, k5, k6, k7⟩ := hS; go_simp; first | done | rfl)); (try simp only [Act.put, List.setIfInBounds_toArray, List.set_cons_zero, List.set_cons_succ])) | (refine' wpS_pure _ (by rfl) (fun wS => ?_) ?_; rotate_left; (focus (go_simp; first | done | rfl)); (try simp only [Act.put, List.setIfInBounds_toArray, List.set_cons_zero, List.set_cons_succ])) | (refine wpS_skip (by rfl) ?_; try simp only [Act.put, List.setIfInBounds_toArray, List.set_cons_zero, List.set_cons_succ]))
        refine wpS_run (fun K hK => ?_)
        go_wp2_with (go_at_call 57; refine (hstep _).mono ?_; rintro e w5 ⟨rfl, hb5⟩)
        have gg := fun {a : Addr} {v : Value} (h : w3.cell? a = some v) => fsm_below_cell (W := w3.drew) hb5 h
        refine QRun_normal (hK.out _ _ ⟨gg c0, gg c1, gg c2, gg c3, gg c4, gg c5, gg d31, gg d32⟩ ?_)
        clear hK K
        repeat (first | (refine' wpS_take _ (by rfl) (fun wS hS => ?_) ?_; rotate_left; (focus (obtain ⟨k0, k1, k2, k3, k4, k5, k6, k7⟩ := hS; go_simp; first | done | rfl)); (try simp only [Act.put, List.setIfInBounds_toArray, List.set_cons_zero, List.set_cons_succ])) | (refine' wpS_pure _ (by rfl) (fun wS => ?_) ?_; rotate_left; (focus (go_simp; first | done | rfl)); (try simp only [Act.put, List.setIfInBounds_toArray, List.set_cons_zero, List.set_cons_succ])) | (refine wpS_skip (by rfl) ?_; try simp only [Act.put, List.setIfInBounds_toArray, List.set_cons_zero, List.set_cons_succ]))
        have hS5 : LinkAt w5 w.heap.size acc := LinkAt.below (w := w3.drew) hS3 hb5
        obtain ⟨x0, x1, x2, x3, x4, x5⟩ := link_cells hS5
        have f0 := hS5.frozen 0
        have f1 := hS5.frozen 1
        have f2 := hS5.frozen 2
        have f3 := hS5.frozen 3
        have f4 := hS5.frozen 4
        have f5 := hS5.frozen 5
        have hSL := putLink_at hS5 J
        have hOL := (hO3.drew.then (w1 := w3.drew) hb5).trans (putLink_only w5 w.heap.size J)
        have hW : (((((w5.setCell ⟨w.heap.size, 0, none⟩ (.int .i64 J.mru)).setCell ⟨w.heap.size, 1, none⟩ (.int .i64 J.magic)).setCell ⟨w.heap.size, 2, none⟩ (.int .i64 J.mrru)).setCell ⟨w.heap.size, 3, none⟩ (.bool J.short)).setCell ⟨w.heap.size, 4, none⟩ (.string J.disc)).setCell ⟨w.heap.size, 5, none⟩ (.int .i64 J.num) = putLink w5 w.heap.size J := rfl
        clear hb5 gg c0 c1 c2 c3 c4 c5 d31 d32 hS3 hO3 hS5
        refine wpS_last (fun K hK => ?_)
        go_wp2_with fail
        refine QRun_normal (hK.out _ _ ?_)
        clear hK K
        go_wp2_with fail
        go_roundw
        case rel => exact ⟨k + 1, by omega, by go_num, by rw [HST.out]; exact hSL, hOL⟩
        case measure => simp [intOf]; omega
    · obtain rfl : k = n := by omega
      have hend := hSr
      rw [← HN.out, List.take_length] at hend
      have hz2 := hOr.heap hzz (by omega)
      have hBf : Below w.heap.size w wr := hBW.trans (hOr.below (B := w.heap.size) hBW.size (fun k hk => by subst hk; omega))
      clear hSr hOr hS hzz
      obtain ⟨q, hq⟩ : ∃ q, (os.foldl (learnStep 4) l) = q := ⟨_, rfl⟩
      rw [hq] at hend
      have HQ := Lib.hid hq
      clear hq
      obtain ⟨c0, c1, c2, c3, c4, c5⟩ := link_cells hend
      have z0 : wr.cell? ⟨w.heap.size + 1, 0, none⟩ = some (.int .i64 0) := by simp [World.cell?, hz2]
      have z1 : wr.cell? ⟨w.heap.size + 1, 1, none⟩ = some (.int .i64 0) := by simp [World.cell?, hz2]
      have z2 : wr.cell? ⟨w.heap.size + 1, 2, none⟩ = some (.int .i64 0) := by simp [World.cell?, hz2]
      have z3 : wr.cell? ⟨w.heap.size + 1, 3, none⟩ = some (.bool false) := by simp [World.cell?, hz2]
      have z4 : wr.cell? ⟨w.heap.size + 1, 4, none⟩ = some (.string ⟨#[]⟩) := by simp [World.cell?, hz2]
      have z5 : wr.cell? ⟨w.heap.size + 1, 5, none⟩ = some (.int .i64 0) := by simp [World.cell?, hz2]
      have f0 : wr.frozen? ⟨w.heap.size + 1, 0, none⟩ = false := by simp [World.frozen?, hz2]
      have f1 : wr.frozen? ⟨w.heap.size + 1, 1, none⟩ = false := by simp [World.frozen?, hz2]
      have f2 : wr.frozen? ⟨w.heap.size + 1, 2, none⟩ = false := by simp [World.frozen?, hz2]
      have f3 : wr.frozen? ⟨w.heap.size + 1, 3, none⟩ = false := by simp [World.frozen?, hz2]
      have f4 : wr.frozen? ⟨w.heap.size + 1, 4, none⟩ = false := by simp [World.frozen?, hz2]
      have f5 : wr.frozen? ⟨w.heap.size + 1, 5, none⟩ = false := by simp [World.frozen?, hz2]
      obtain ⟨k0, k1, k2, k3, k4, k5⟩ := link_after_cells hz2 (.int .i64 q.mru) (.int .i64 q.magic) (.int .i64 q.mrru) (.bool q.short) (.string q.disc) (.int .i64 q.num) _ rfl
      have hBl := below6 (B := w.heap.size + 1) hBf (Nat.le_succ _) (.int .i64 q.mru) (.int .i64 q.magic) (.int .i64 q.mrru) (.bool q.short) (.string q.disc) (.int .i64 q.num)
      go_wp2_with fail
      refine bodyPost_ret (v := .tuple #[.agg #[.int .i64 q.mru, .int .i64 q.magic, .int .i64 q.mrru, .bool q.short, .string q.disc, .int .i64 q.num], .int .i64 0]) (by simp [results, Tryz.results34, go_sem, k0, k1, k2, k3, k4, k5]) rfl ⟨?_, hBl⟩
      rw [← HLh.out, ← HQ.out]
      try rfl
theorem rlearn_any (l : LinkM) (code : Int) (v : Value) (os : List OptM) (w : World) (hm : mayM l = true) (hc : code = 3 ∨ code = 4) (hv : OptsIn w v os) :
    Calls Tryz.prog 34 #[.agg (linkCells l), .int .i64 code, v] w fun e w' => e = .returned (.tuple #[.agg (linkCells (os.foldl (learnStep code) l)), .int .i64 0]) ∧ Below w.heap.size w w' := by
  rcases hv.or with ⟨rfl, a, c, rfl, hcm⟩ | ⟨g, o, c, rfl, hv⟩
  · rcases hc with rfl | rfl
    · exact rlearn_nil3 l a c w hm
    · exact rlearn_nil4 l a c w hm
  · rcases hc with rfl | rfl
    · exact rlearn_some3 l g o c os w hm hv
    · exact rlearn_some4 l g o c os w hm hv
end Go.Proofs.YtagnbdenecphcaaGreatDoor
