/- policy: Taken. policy: Judge. policy: Judge at nil; the reference's May. -/
import Derived.Test.YtagnbdenecphcaaGreatDoorMg1
import Derived.Outline
/-! policy: Taken. -/
namespace Go.Proofs.YtagnbdenecphcaaGreatDoor
open Go.RowKit
set_option linter.unusedVariables false
set_option linter.unusedSimpArgs false
theorem setTo_succ (l : LinkM) (os : List OptM) (k : Nat) (hk : k < os.length) : (os.take (k + 1)).foldl setM l = setM ((os.take k).foldl setM l) os[k] := by
  rw [List.take_succ_eq_append_getElem hk, List.foldl_append]; rfl
def dupAt (os : List OptM) (k : Nat) (o : OptM) : Bool := (os.take k).any fun q => decide (q.1 = o.1)
theorem takenBad_succ (os : List OptM) (k : Nat) (hk : k < os.length) : takenBad os (k + 1) = (takenBad os k || (!rightM os[k] || dupAt os k os[k])) := by
  unfold takenBad dupAt
  rw [List.range_succ, List.any_append]
  simp only [List.any_cons, List.any_nil, Bool.or_false, List.getElem?_eq_getElem hk]
theorem takenBad_mono (os : List OptM) (k n : Nat) (h : k ≤ n) (hb : takenBad os k = true) : takenBad os n = true := by
  unfold takenBad at *
  rw [List.any_eq_true] at *
  obtain ⟨x, hx, hy⟩ := hb
  exact ⟨x, List.mem_range.2 (Nat.lt_of_lt_of_le (List.mem_range.1 hx) h), hy⟩
theorem OptsAt.take {w : World} {g o n c : Nat} {l : List OptM} (h : OptsAt w (.slice (some ⟨g, o, none⟩) n c) l) (k : Nat) (hk : k ≤ l.length) : OptsAt w (.slice (some ⟨g, o, none⟩) k c) (l.take k) := by
  rcases h with ⟨_, h⟩ | ⟨g', o', c', h, h1, h2, h3, hc⟩
  · cases h
  · cases h
    refine .inr ⟨g, o, c, ?_, ?_, h2, h3, fun j hj i hi => ?_⟩
    · rw [List.length_take, Nat.min_eq_left hk]
    · rw [List.length_take]; omega
    · have hj' : j < k ∧ j < l.length := by rw [List.length_take] at hj; omega
      rw [hc j hj'.2 i hi, List.getElem_take]
theorem slice_opts (g o n c k : Nat) (hk : k ≤ c) (w : World) : (Instr.slice 34 (.slice (some ⟨g, o, none⟩) n c) none (some (.int .i64 (k : Int))) none).run Tryz.prog w = .ok (.slice (some ⟨g, o, none⟩) k c) w := by
  rw [run_slice_h w 34 _ n c (by kernel_rfl) .i64 (k : Int) (by omega) (by omega)]
  have hs : ∀ w, (sizeOf (Tryz.prog.elem 34)).run Tryz.prog w = .ok 2 w := fun w => by kernel_rfl
  rw [hs]
  simp only [Result.andThen, sliced]
  by_cases h : c = 0
  · simp [h]
  · simp [h, Addr.add]
theorem zero_cells : linkCells linkZ = #[.int .i64 0, .int .i64 0, .int .i64 0, .bool false, .string ⟨#[]⟩, .int .i64 0] := rfl
set_option maxRecDepth 100000 in
set_option maxHeartbeats 8000000 in
theorem ptaken_nil (w : World) :
    Calls Tryz.prog 64 #[.slice none 0 0] w fun e w' => e = .returned (.tuple #[.agg (linkCells (takenM ([] : List OptM)).1), .int .i64 (takenM ([] : List OptM)).2]) ∧ Below w.heap.size w w' := by
  go_enter Tryz.func64, Tryz.ntmps64
  go_wp2_with fail
  have hzz : ((w.alloc (.cells (linkCells linkZ) 23)).alloc (.cells (linkCells linkZ) 131)).heap[w.heap.size]? = some (.cells (linkCells linkZ) 23 (0, 0)) := heap_first2 _ _ _
  have hS : SideAt ((w.alloc (.cells (linkCells linkZ) 23)).alloc (.cells (linkCells linkZ) 131)) (w.heap.size + 1) linkZ := by
    unfold SideAt
    simpa using heap_alloc_last (w.alloc (.cells (linkCells linkZ) 23)) (.cells (linkCells linkZ) 131)
  have hBW : Below w.heap.size w ((w.alloc (.cells (linkCells linkZ) 23)).alloc (.cells (linkCells linkZ) 131)) := allocB (allocB (Below.refl _ _) _) _
  rw [zero_cells] at hzz hS hBW
  obtain ⟨W2, hW2⟩ : ∃ W2, (w.alloc (.cells #[.int .i64 0, .int .i64 0, .int .i64 0, .bool false, .string ⟨#[]⟩, .int .i64 0] 23)).alloc (.cells #[.int .i64 0, .int .i64 0, .int .i64 0, .bool false, .string ⟨#[]⟩, .int .i64 0] 131) = W2 := ⟨_, rfl⟩
  rw [hW2] at hzz hS hBW ⊢
  clear hW2
  go_loopw [11] (fun i wr => i = .int .i64 0 ∧ W2 = wr) (fun i _ => 0)
  case atStart => exact ⟨rfl, rfl⟩
  case round =>
    obtain ⟨rfl, rfl⟩ := hrel
    have hend := hS
    have hz2 := hzz
    have hBf := hBW
    clear hS hzz hBW
    obtain ⟨q, hqq⟩ : ∃ q, linkZ = q := ⟨_, rfl⟩
    have HQ : Hid (([] : List OptM).foldl setM linkZ = q) := Lib.hid hqq
    have HBD : Hid (takenBad [] ([] : List OptM).length = false) := Lib.hid rfl
    rw [hqq] at hend
    clear hqq
    obtain ⟨c0, c1, c2, c3, c4, c5⟩ := hend.cells
    have hmay := fun w => pmay_any q w
    have HLh := Lib.hid linkCells_eq
    rw [HLh.out] at hmay
    cases hq : mayM q with
    | false =>
      rw [hq] at hmay
      have HT : Hid (takenM ([] : List OptM) = (linkZ, 1400)) := Lib.hid (by unfold takenM; rw [if_pos (.inr (by rw [HQ.out]; exact hq))])
      go_wp2_with fail
      refine (hmay _).mono ?_
      rintro e w8 ⟨rfl, hb8⟩
      have hz8 := below_of hb8 hz2
      have hB8 := seqB hBf hb8
      have z0 : w8.cell? ⟨w.heap.size, 0, none⟩ = some (.int .i64 0) := by simp [World.cell?, hz8]
      have z1 : w8.cell? ⟨w.heap.size, 1, none⟩ = some (.int .i64 0) := by simp [World.cell?, hz8]
      have z2 : w8.cell? ⟨w.heap.size, 2, none⟩ = some (.int .i64 0) := by simp [World.cell?, hz8]
      have z3 : w8.cell? ⟨w.heap.size, 3, none⟩ = some (.bool false) := by simp [World.cell?, hz8]
      have z4 : w8.cell? ⟨w.heap.size, 4, none⟩ = some (.string ⟨#[]⟩) := by simp [World.cell?, hz8]
      have z5 : w8.cell? ⟨w.heap.size, 5, none⟩ = some (.int .i64 0) := by simp [World.cell?, hz8]
      have f0 : w8.frozen? ⟨w.heap.size, 0, none⟩ = false := by simp [World.frozen?, hz8]
      have f1 : w8.frozen? ⟨w.heap.size, 1, none⟩ = false := by simp [World.frozen?, hz8]
      have f2 : w8.frozen? ⟨w.heap.size, 2, none⟩ = false := by simp [World.frozen?, hz8]
      have f3 : w8.frozen? ⟨w.heap.size, 3, none⟩ = false := by simp [World.frozen?, hz8]
      have f4 : w8.frozen? ⟨w.heap.size, 4, none⟩ = false := by simp [World.frozen?, hz8]
      have f5 : w8.frozen? ⟨w.heap.size, 5, none⟩ = false := by simp [World.frozen?, hz8]
      obtain ⟨k0, k1, k2, k3, k4, k5⟩ := link_after_cells hz8 (.int .i64 0) (.int .i64 0) (.int .i64 0) (.bool false) (.string ⟨#[]⟩) (.int .i64 0) _ rfl
      have hBl := below6 (B := w.heap.size) hB8 (Nat.le_refl _) (.int .i64 0) (.int .i64 0) (.int .i64 0) (.bool false) (.string ⟨#[]⟩) (.int .i64 0)
      go_wp2_with fail
      refine bodyPost_ret (v := .tuple #[.agg #[.int .i64 0, .int .i64 0, .int .i64 0, .bool false, .string ⟨#[]⟩, .int .i64 0], .int .i64 1400]) (by simp [results, Tryz.results64, go_sem, k0, k1, k2, k3, k4, k5]) rfl ⟨?_, hBl⟩
      rw [HT.out, zero_cells]
    | true =>
      rw [hq] at hmay
      have HT : Hid (takenM ([] : List OptM) = (q, 0)) := Lib.hid (by unfold takenM; rw [if_neg (by rw [HBD.out, HQ.out, hq]; simp), HQ.out])
      go_wp2_with fail
      refine (hmay _).mono ?_
      rintro e w8 ⟨rfl, hb8⟩
      have hz8 := below_of hb8 hz2
      have hB8 := seqB hBf hb8
      obtain ⟨d0, d1, d2, d3, d4, d5⟩ := (hend.below hb8).cells
      have z0 : w8.cell? ⟨w.heap.size, 0, none⟩ = some (.int .i64 0) := by simp [World.cell?, hz8]
      have z1 : w8.cell? ⟨w.heap.size, 1, none⟩ = some (.int .i64 0) := by simp [World.cell?, hz8]
      have z2 : w8.cell? ⟨w.heap.size, 2, none⟩ = some (.int .i64 0) := by simp [World.cell?, hz8]
      have z3 : w8.cell? ⟨w.heap.size, 3, none⟩ = some (.bool false) := by simp [World.cell?, hz8]
      have z4 : w8.cell? ⟨w.heap.size, 4, none⟩ = some (.string ⟨#[]⟩) := by simp [World.cell?, hz8]
      have z5 : w8.cell? ⟨w.heap.size, 5, none⟩ = some (.int .i64 0) := by simp [World.cell?, hz8]
      have f0 : w8.frozen? ⟨w.heap.size, 0, none⟩ = false := by simp [World.frozen?, hz8]
      have f1 : w8.frozen? ⟨w.heap.size, 1, none⟩ = false := by simp [World.frozen?, hz8]
      have f2 : w8.frozen? ⟨w.heap.size, 2, none⟩ = false := by simp [World.frozen?, hz8]
      have f3 : w8.frozen? ⟨w.heap.size, 3, none⟩ = false := by simp [World.frozen?, hz8]
      have f4 : w8.frozen? ⟨w.heap.size, 4, none⟩ = false := by simp [World.frozen?, hz8]
      have f5 : w8.frozen? ⟨w.heap.size, 5, none⟩ = false := by simp [World.frozen?, hz8]
      obtain ⟨k0, k1, k2, k3, k4, k5⟩ := link_after_cells hz8 (.int .i64 q.mru) (.int .i64 q.magic) (.int .i64 q.mrru) (.bool q.short) (.string q.disc) (.int .i64 q.num) _ rfl
      have hBl := below6 (B := w.heap.size) hB8 (Nat.le_refl _) (.int .i64 q.mru) (.int .i64 q.magic) (.int .i64 q.mrru) (.bool q.short) (.string q.disc) (.int .i64 q.num)
      go_wp2_with fail
      refine bodyPost_ret (v := .tuple #[.agg #[.int .i64 q.mru, .int .i64 q.magic, .int .i64 q.mrru, .bool q.short, .string q.disc, .int .i64 q.num], .int .i64 0]) (by simp [results, Tryz.results64, go_sem, k0, k1, k2, k3, k4, k5]) rfl ⟨?_, hBl⟩
      rw [HT.out, HLh.out]
set_option maxRecDepth 100000 in
set_option maxHeartbeats 8000000 in
theorem ptaken_some (g o c : Nat) (os : List OptM) (w : World) (hv : OptsAt w (.slice (some ⟨g, o, none⟩) os.length c) os) :
    Calls Tryz.prog 64 #[.slice (some ⟨g, o, none⟩) os.length c] w fun e w' => e = .returned (.tuple #[.agg (linkCells (takenM os).1), .int .i64 (takenM os).2]) ∧ Below w.heap.size w w' := by
  have hn := SeqAt.le hv
  have hgl : g < w.heap.size := SeqAt.lt hv g rfl
  go_enter Tryz.func64, Tryz.ntmps64
  go_wp2_with fail
  have hzz : ((w.alloc (.cells (linkCells linkZ) 23)).alloc (.cells (linkCells linkZ) 131)).heap[w.heap.size]? = some (.cells (linkCells linkZ) 23 (0, 0)) := heap_first2 _ _ _
  have hS : SideAt ((w.alloc (.cells (linkCells linkZ) 23)).alloc (.cells (linkCells linkZ) 131)) (w.heap.size + 1) linkZ := by
    unfold SideAt
    simpa using heap_alloc_last (w.alloc (.cells (linkCells linkZ) 23)) (.cells (linkCells linkZ) 131)
  have hBW : Below w.heap.size w ((w.alloc (.cells (linkCells linkZ) 23)).alloc (.cells (linkCells linkZ) 131)) := allocB (allocB (Below.refl _ _) _) _
  rw [zero_cells] at hzz hS hBW
  obtain ⟨W2, hW2⟩ : ∃ W2, (w.alloc (.cells #[.int .i64 0, .int .i64 0, .int .i64 0, .bool false, .string ⟨#[]⟩, .int .i64 0] 23)).alloc (.cells #[.int .i64 0, .int .i64 0, .int .i64 0, .bool false, .string ⟨#[]⟩, .int .i64 0] 131) = W2 := ⟨_, rfl⟩
  rw [hW2] at hzz hS hBW ⊢
  clear hW2
  have HV := Lib.hid (hv.below hBW)
  obtain ⟨-, hcl, hcm, hcell⟩ := (hv.below hBW).cells
  obtain ⟨n, hnn⟩ : ∃ n, os.length = n := ⟨_, rfl⟩
  have HN := Lib.hid hnn
  have HC := Lib.hid hcell
  have hcn : c ≤ 9223372036854775807 := by unfold maxLen at hcm; omega
  rw [hnn] at hn hcl ⊢
  clear hnn hcell hv hcm
  go_loopw [11] (fun i wr => ∃ k : Nat, k ≤ n ∧ i = .int .i64 k ∧ SideAt wr (w.heap.size + 1) ((os.take k).foldl setM linkZ) ∧ Only (· = w.heap.size + 1) W2 wr ∧ Hid (takenBad os k = false)) (fun i _ => n - (intOf i).toNat)
  case atStart => exact ⟨0, Nat.zero_le _, rfl, hS, Only.refl _ _, Lib.hid rfl⟩
  case round =>
    obtain ⟨k, hk, rfl, hSr, hOr, HBk⟩ := hrel
    by_cases hlt : k < n
    · have hkl : k < os.length := by rw [HN.out]; exact hlt
      obtain ⟨d1, d2⟩ := HC.out k hkl
      replace d1 := hOr.cell d1 (show ¬ (g = w.heap.size + 1) by omega)
      replace d2 := hOr.cell d2 (show ¬ (g = w.heap.size + 1) by omega)
      have hst := setTo_succ linkZ os k hkl
      have hbs := takenBad_succ os k hkl
      have hmn := takenBad_mono os (k + 1) os.length (by omega)
      rw [HBk.out, Bool.false_or] at hbs
      have hfind := fun w h => find_any (os[k]).1 (.slice (some ⟨g, o, none⟩) k c) (os.take k) w h
      have hfa := findFrom_any (os[k]).1 (os.take k)
      have hvk := (HV.out.take k (by omega)).only hOr (fun b hb => by cases hb; show ¬ (g = w.heap.size + 1); omega)
      obtain ⟨x, hx⟩ : ∃ x, os[k] = x := ⟨_, rfl⟩
      rw [hx] at d1 d2 hst hbs hfind hfa
      obtain ⟨acc, hacc⟩ : ∃ acc, (os.take k).foldl setM linkZ = acc := ⟨_, rfl⟩
      rw [hacc] at hSr hst
      have hri := fun w => right_any x w
      have hsl := slice_opts g o n c k (by omega)
      have hO1 : Only (· = w.heap.size + 1) W2 (wr.alloc (.cells #[.int .i64 x.1, .string x.2] 70)) := hOr.alloc _
      have hS1 := hSr.below ((Below.refl _ _).alloc (Nat.le_refl _) (.cells #[.int .i64 x.1, .string x.2] 70))
      have hv1 := SeqAt.below hvk ((Below.refl _ _).alloc (Nat.le_refl _) (.cells #[.int .i64 x.1, .string x.2] 70))
      have hh6 : (wr.alloc (.cells #[.int .i64 x.1, .string x.2] 70)).heap[wr.heap.size]? = some (.cells #[.int .i64 x.1, .string x.2] 70 (0, 0)) := heap_alloc_last _ _
      have s0 : (wr.alloc (.cells #[.int .i64 x.1, .string x.2] 70)).cell? ⟨wr.heap.size, 0, none⟩ = some (.int .i64 x.1) := by rw [World.cell?_alloc_new]; rfl
      have s1 : (wr.alloc (.cells #[.int .i64 x.1, .string x.2] 70)).cell? ⟨wr.heap.size, 1, none⟩ = some (.string x.2) := by rw [World.cell?_alloc_new]; rfl
      have hz1 := hO1.heap hzz (show ¬ (w.heap.size = w.heap.size + 1) by omega)
      clear hx hacc hS hzz hOr hSr hvk
      cases hr : rightM x with
      | false =>
        rw [hr] at hri
        have HT : Hid (takenM os = (linkZ, 1400)) := Lib.hid (by unfold takenM; rw [if_pos (.inl (hmn (by rw [hbs, hr]; rfl)))])
        clear hst hr hbs hmn
        go_wp2_with fail
        refine wp_schedL (fun w' => w'.cell? ⟨wr.heap.size, 0, none⟩ = some (.int .i64 x.1) ∧ w'.cell? ⟨wr.heap.size, 1, none⟩ = some (.string x.2)) [(0, true), (1, false), (2, true), (3, true), (4, true), (5, true), (6, true), (7, true), (8, true), (9, false), (10, true), (11, true)] (by kernel_rfl) (by kernel_rfl) rfl (by kernel_rfl) (by kernel_rfl) ⟨s0, s1⟩ (fun _ d _ _ _ h => by cases d <;> exact h) ?_
        simp only [schedOps, List.filterMap_cons, List.filterMap_nil, List.getElem?_toArray, List.getElem?_cons_zero, List.getElem?_cons_succ, Option.map_some]
        repeat (first | (refine' wpSched_take _ (by rfl) (fun wS hS => ?_) ?_; rotate_left; (focus (obtain ⟨s1, s2⟩ := hS; go_simp; first | done | rfl)); (try simp only [Act.put, List.setIfInBounds_toArray, List.set_cons_zero, List.set_cons_succ])) | (refine wpSched_skip (by rfl) ?_; try simp only [Act.put, List.setIfInBounds_toArray, List.set_cons_zero, List.set_cons_succ]))
        refine wpSched_run (fun K hK => ?_)
        go_wp2_with (go_at_call 74; refine (hri _).mono ?_; rintro e w3 ⟨rfl, hb3⟩)
        refine QRun_normal (hK.out _ _ ⟨fsm_below_cell hb3 s0, fsm_below_cell hb3 s1⟩ ?_)
        clear hK K
        repeat (first | (refine' wpSched_take _ (by rfl) (fun wS hS => ?_) ?_; rotate_left; (focus (obtain ⟨s1, s2⟩ := hS; go_simp; first | done | rfl)); (try simp only [Act.put, List.setIfInBounds_toArray, List.set_cons_zero, List.set_cons_succ])) | (refine wpSched_skip (by rfl) ?_; try simp only [Act.put, List.setIfInBounds_toArray, List.set_cons_zero, List.set_cons_succ]))
        refine wpSched_run (fun K hK => ?_)
        go_wp2_with fail
        refine QRun_normal (hK.out _ _ ⟨fsm_below_cell hb3 s0, fsm_below_cell hb3 s1⟩ ?_)
        clear hK K
        repeat (first | (refine' wpSched_take _ (by rfl) (fun wS hS => ?_) ?_; rotate_left; (focus (obtain ⟨s1, s2⟩ := hS; go_simp; first | done | rfl)); (try simp only [Act.put, List.setIfInBounds_toArray, List.set_cons_zero, List.set_cons_succ])) | (refine wpSched_skip (by rfl) ?_; try simp only [Act.put, List.setIfInBounds_toArray, List.set_cons_zero, List.set_cons_succ]))
        refine wpSched_done ?_
        have hz3 := below_of hb3 (show (World.drew _).heap[_]? = _ from hz1)
        have hB3 : Below w.heap.size w w3 := seqB (drewB (hBW.trans (hO1.below (B := w.heap.size) hBW.size (fun k hk => by subst hk; omega)))) hb3
        have z0 : w3.cell? ⟨w.heap.size, 0, none⟩ = some (.int .i64 0) := by simp [World.cell?, hz3]
        have z1 : w3.cell? ⟨w.heap.size, 1, none⟩ = some (.int .i64 0) := by simp [World.cell?, hz3]
        have z2 : w3.cell? ⟨w.heap.size, 2, none⟩ = some (.int .i64 0) := by simp [World.cell?, hz3]
        have z3 : w3.cell? ⟨w.heap.size, 3, none⟩ = some (.bool false) := by simp [World.cell?, hz3]
        have z4 : w3.cell? ⟨w.heap.size, 4, none⟩ = some (.string ⟨#[]⟩) := by simp [World.cell?, hz3]
        have z5 : w3.cell? ⟨w.heap.size, 5, none⟩ = some (.int .i64 0) := by simp [World.cell?, hz3]
        have f0 : w3.frozen? ⟨w.heap.size, 0, none⟩ = false := by simp [World.frozen?, hz3]
        have f1 : w3.frozen? ⟨w.heap.size, 1, none⟩ = false := by simp [World.frozen?, hz3]
        have f2 : w3.frozen? ⟨w.heap.size, 2, none⟩ = false := by simp [World.frozen?, hz3]
        have f3 : w3.frozen? ⟨w.heap.size, 3, none⟩ = false := by simp [World.frozen?, hz3]
        have f4 : w3.frozen? ⟨w.heap.size, 4, none⟩ = false := by simp [World.frozen?, hz3]
        have f5 : w3.frozen? ⟨w.heap.size, 5, none⟩ = false := by simp [World.frozen?, hz3]
        obtain ⟨k0, k1, k2, k3, k4, k5⟩ := link_after_cells hz3 (.int .i64 0) (.int .i64 0) (.int .i64 0) (.bool false) (.string ⟨#[]⟩) (.int .i64 0) _ rfl
        have hBl := below6 (B := w.heap.size) hB3 (Nat.le_refl _) (.int .i64 0) (.int .i64 0) (.int .i64 0) (.bool false) (.string ⟨#[]⟩) (.int .i64 0)
        go_wp2_with fail
        refine bodyPost_ret (v := .tuple #[.agg #[.int .i64 0, .int .i64 0, .int .i64 0, .bool false, .string ⟨#[]⟩, .int .i64 0], .int .i64 1400]) (by simp [results, Tryz.results64, go_sem, k0, k1, k2, k3, k4, k5]) rfl ⟨?_, hBl⟩
        rw [HT.out, zero_cells]
      | true =>
        rw [hr] at hri
        obtain ⟨hkk, hsz⟩ := right_kind hr
        cases hdu : dupAt os k x with
        | true =>
          have HT : Hid (takenM os = (linkZ, 1400)) := Lib.hid (by unfold takenM; rw [if_pos (.inl (hmn (by rw [hbs, hdu]; simp)))])
          have hge : decide (0 ≤ findFrom x.1 (os.take k)) = true := hfa.trans hdu
          clear hst hr hbs hmn hdu hfa hkk
          go_wp2_with fail
          refine wp_schedL (fun w' => w'.cell? ⟨wr.heap.size, 0, none⟩ = some (.int .i64 x.1) ∧ w'.cell? ⟨wr.heap.size, 1, none⟩ = some (.string x.2)) [(0, true), (1, false), (2, true), (3, true), (4, true), (5, true), (6, true), (7, true), (8, true), (9, false), (10, true), (11, true)] (by kernel_rfl) (by kernel_rfl) rfl (by kernel_rfl) (by kernel_rfl) ⟨s0, s1⟩ (fun _ d _ _ _ h => by cases d <;> exact h) ?_
          simp only [schedOps, List.filterMap_cons, List.filterMap_nil, List.getElem?_toArray, List.getElem?_cons_zero, List.getElem?_cons_succ, Option.map_some]
          repeat (first | (refine' wpSched_take _ (by rfl) (fun wS hS => ?_) ?_; rotate_left; (focus (obtain ⟨s1, s2⟩ := hS; go_simp; first | done | rfl)); (try simp only [Act.put, List.setIfInBounds_toArray, List.set_cons_zero, List.set_cons_succ])) | (refine wpSched_skip (by rfl) ?_; try simp only [Act.put, List.setIfInBounds_toArray, List.set_cons_zero, List.set_cons_succ]))
          refine wpSched_run (fun K hK => ?_)
          go_wp2_with (go_at_call 74; refine (hri _).mono ?_; rintro e w3 ⟨rfl, hb3⟩)
          refine QRun_normal (hK.out _ _ ⟨fsm_below_cell hb3 s0, fsm_below_cell hb3 s1⟩ ?_)
          clear hK K
          repeat (first | (refine' wpSched_take _ (by rfl) (fun wS hS => ?_) ?_; rotate_left; (focus (obtain ⟨s1, s2⟩ := hS; go_simp; first | done | rfl)); (try simp only [Act.put, List.setIfInBounds_toArray, List.set_cons_zero, List.set_cons_succ])) | (refine wpSched_skip (by rfl) ?_; try simp only [Act.put, List.setIfInBounds_toArray, List.set_cons_zero, List.set_cons_succ]))
          refine wpSched_run (fun K hK => ?_)
          have hv3 := SeqAt.below (SeqAt.below hv1 (Below.refl _ _).drew) hb3
          go_wp2_with (go_at_call 75; refine (hfind _ hv3).mono ?_; rintro e w4 ⟨rfl, hb4⟩)
          refine QRun_normal (hK.out _ _ ⟨fsm_below_cell hb4 (fsm_below_cell hb3 s0), fsm_below_cell hb4 (fsm_below_cell hb3 s1)⟩ ?_)
          clear hK K
          repeat (first | (refine' wpSched_take _ (by rfl) (fun wS hS => ?_) ?_; rotate_left; (focus (obtain ⟨s1, s2⟩ := hS; go_simp; first | done | rfl)); (try simp only [Act.put, List.setIfInBounds_toArray, List.set_cons_zero, List.set_cons_succ])) | (refine wpSched_skip (by rfl) ?_; try simp only [Act.put, List.setIfInBounds_toArray, List.set_cons_zero, List.set_cons_succ]))
          refine wpSched_done ?_
          have hz3 := below_of hb4 (below_of hb3 (show (World.drew _).heap[_]? = _ from hz1))
          have hB3 : Below w.heap.size w w4 := seqB (seqB (drewB (hBW.trans (hO1.below (B := w.heap.size) hBW.size (fun k hk => by subst hk; omega)))) hb3) hb4
          have z0 : w4.cell? ⟨w.heap.size, 0, none⟩ = some (.int .i64 0) := by simp [World.cell?, hz3]
          have z1 : w4.cell? ⟨w.heap.size, 1, none⟩ = some (.int .i64 0) := by simp [World.cell?, hz3]
          have z2 : w4.cell? ⟨w.heap.size, 2, none⟩ = some (.int .i64 0) := by simp [World.cell?, hz3]
          have z3 : w4.cell? ⟨w.heap.size, 3, none⟩ = some (.bool false) := by simp [World.cell?, hz3]
          have z4 : w4.cell? ⟨w.heap.size, 4, none⟩ = some (.string ⟨#[]⟩) := by simp [World.cell?, hz3]
          have z5 : w4.cell? ⟨w.heap.size, 5, none⟩ = some (.int .i64 0) := by simp [World.cell?, hz3]
          have f0 : w4.frozen? ⟨w.heap.size, 0, none⟩ = false := by simp [World.frozen?, hz3]
          have f1 : w4.frozen? ⟨w.heap.size, 1, none⟩ = false := by simp [World.frozen?, hz3]
          have f2 : w4.frozen? ⟨w.heap.size, 2, none⟩ = false := by simp [World.frozen?, hz3]
          have f3 : w4.frozen? ⟨w.heap.size, 3, none⟩ = false := by simp [World.frozen?, hz3]
          have f4 : w4.frozen? ⟨w.heap.size, 4, none⟩ = false := by simp [World.frozen?, hz3]
          have f5 : w4.frozen? ⟨w.heap.size, 5, none⟩ = false := by simp [World.frozen?, hz3]
          obtain ⟨k0, k1, k2, k3, k4, k5⟩ := link_after_cells hz3 (.int .i64 0) (.int .i64 0) (.int .i64 0) (.bool false) (.string ⟨#[]⟩) (.int .i64 0) _ rfl
          have hBl := below6 (B := w.heap.size) hB3 (Nat.le_refl _) (.int .i64 0) (.int .i64 0) (.int .i64 0) (.bool false) (.string ⟨#[]⟩) (.int .i64 0)
          go_wp2_with fail
          refine bodyPost_ret (v := .tuple #[.agg #[.int .i64 0, .int .i64 0, .int .i64 0, .bool false, .string ⟨#[]⟩, .int .i64 0], .int .i64 1400]) (by simp [results, Tryz.results64, go_sem, k0, k1, k2, k3, k4, k5]) rfl ⟨?_, hBl⟩
          rw [HT.out, zero_cells]
        | false =>
          have HBk2 : Hid (takenBad os (k + 1) = false) := Lib.hid (by rw [hbs, hr, hdu]; rfl)
          have HST : Hid ((os.take (k + 1)).foldl setM linkZ = setM acc x) := Lib.hid hst
          have hge : decide (0 ≤ findFrom x.1 (os.take k)) = false := hfa.trans hdu
          have hset : ∀ w', SideAt w' (w.heap.size + 1) acc → _ := fun w' h => set_any (w.heap.size + 1) acc x w' h hkk (by omega)
          clear hst hr hbs hmn hdu hfa hkk
          go_wp2_with fail
          refine wp_schedL (fun w' => w'.cell? ⟨wr.heap.size, 0, none⟩ = some (.int .i64 x.1) ∧ w'.cell? ⟨wr.heap.size, 1, none⟩ = some (.string x.2)) [(0, true), (1, false), (2, true), (3, true), (4, true), (5, true), (6, true), (7, true), (8, true), (9, false), (10, true), (11, true)] (by kernel_rfl) (by kernel_rfl) rfl (by kernel_rfl) (by kernel_rfl) ⟨s0, s1⟩ (fun _ d _ _ _ h => by cases d <;> exact h) ?_
          simp only [schedOps, List.filterMap_cons, List.filterMap_nil, List.getElem?_toArray, List.getElem?_cons_zero, List.getElem?_cons_succ, Option.map_some]
          repeat (first | (refine' wpSched_take _ (by rfl) (fun wS hS => ?_) ?_; rotate_left; (focus (obtain ⟨s1, s2⟩ := hS; go_simp; first | done | rfl)); (try simp only [Act.put, List.setIfInBounds_toArray, List.set_cons_zero, List.set_cons_succ])) | (refine wpSched_skip (by rfl) ?_; try simp only [Act.put, List.setIfInBounds_toArray, List.set_cons_zero, List.set_cons_succ]))
          refine wpSched_run (fun K hK => ?_)
          go_wp2_with (go_at_call 74; refine (hri _).mono ?_; rintro e w3 ⟨rfl, hb3⟩)
          refine QRun_normal (hK.out _ _ ⟨fsm_below_cell hb3 s0, fsm_below_cell hb3 s1⟩ ?_)
          clear hK K
          repeat (first | (refine' wpSched_take _ (by rfl) (fun wS hS => ?_) ?_; rotate_left; (focus (obtain ⟨s1, s2⟩ := hS; go_simp; first | done | rfl)); (try simp only [Act.put, List.setIfInBounds_toArray, List.set_cons_zero, List.set_cons_succ])) | (refine wpSched_skip (by rfl) ?_; try simp only [Act.put, List.setIfInBounds_toArray, List.set_cons_zero, List.set_cons_succ]))
          refine wpSched_run (fun K hK => ?_)
          have hv3 := SeqAt.below (SeqAt.below hv1 (Below.refl _ _).drew) hb3
          go_wp2_with (go_at_call 75; refine (hfind _ hv3).mono ?_; rintro e w4 ⟨rfl, hb4⟩)
          refine QRun_normal (hK.out _ _ ⟨fsm_below_cell hb4 (fsm_below_cell hb3 s0), fsm_below_cell hb4 (fsm_below_cell hb3 s1)⟩ ?_)
          clear hK K
          repeat (first | (refine' wpSched_take _ (by rfl) (fun wS hS => ?_) ?_; rotate_left; (focus (obtain ⟨s1, s2⟩ := hS; go_simp; first | done | rfl)); (try simp only [Act.put, List.setIfInBounds_toArray, List.set_cons_zero, List.set_cons_succ])) | (refine wpSched_skip (by rfl) ?_; try simp only [Act.put, List.setIfInBounds_toArray, List.set_cons_zero, List.set_cons_succ]))
          refine wpSched_done ?_
          have hS4 := ((SideAt.below hS1 (Below.refl _ _).drew).below hb3).below hb4
          have hO4 := ((hO1.drew).then hb3).then hb4
          have hh4 := below_of hb4 (below_of hb3 (show (World.drew _).heap[_]? = _ from hh6))
          have u0 : w4.cell? ⟨wr.heap.size, 0, none⟩ = some (.int .i64 x.1) := by simp [World.cell?, hh4]
          have u1 : w4.cell? ⟨wr.heap.size, 1, none⟩ = some (.string x.2) := by simp [World.cell?, hh4]
          go_wp2_with fail
          refine (hset _ hS4).mono ?_
          rintro e w5 ⟨rfl, hS5, hO5⟩
          go_wp2_with fail
          go_roundw
          case rel => exact ⟨k + 1, by omega, by go_num, by rw [HST.out]; exact hS5, hO4.trans hO5, HBk2⟩
          case measure => simp [intOf]; omega
    · obtain rfl : k = n := by omega
      have hend := hSr
      obtain ⟨q, hqq⟩ : ∃ q, os.foldl setM linkZ = q := ⟨_, rfl⟩
      have HQ := Lib.hid hqq
      rw [← HN.out, List.take_length, hqq] at hend
      have HBD : Hid (takenBad os os.length = false) := Lib.hid (by rw [HN.out]; exact HBk.out)
      have hz2 := hOr.heap hzz (show ¬ (w.heap.size = w.heap.size + 1) by omega)
      have hBf : Below w.heap.size w wr := hBW.trans (hOr.below (B := w.heap.size) hBW.size (fun k hk => by subst hk; omega))
      clear hSr hOr hS hzz hqq
      obtain ⟨c0, c1, c2, c3, c4, c5⟩ := hend.cells
      have hmay := fun w => pmay_any q w
      have HLh := Lib.hid linkCells_eq
      rw [HLh.out] at hmay
      cases hq : mayM q with
      | false =>
        rw [hq] at hmay
        have HT : Hid (takenM os = (linkZ, 1400)) := Lib.hid (by unfold takenM; rw [if_pos (.inr (by rw [HQ.out]; exact hq))])
        go_wp2_with fail
        refine (hmay _).mono ?_
        rintro e w8 ⟨rfl, hb8⟩
        have hz8 := below_of hb8 hz2
        have hB8 := seqB hBf hb8
        have z0 : w8.cell? ⟨w.heap.size, 0, none⟩ = some (.int .i64 0) := by simp [World.cell?, hz8]
        have z1 : w8.cell? ⟨w.heap.size, 1, none⟩ = some (.int .i64 0) := by simp [World.cell?, hz8]
        have z2 : w8.cell? ⟨w.heap.size, 2, none⟩ = some (.int .i64 0) := by simp [World.cell?, hz8]
        have z3 : w8.cell? ⟨w.heap.size, 3, none⟩ = some (.bool false) := by simp [World.cell?, hz8]
        have z4 : w8.cell? ⟨w.heap.size, 4, none⟩ = some (.string ⟨#[]⟩) := by simp [World.cell?, hz8]
        have z5 : w8.cell? ⟨w.heap.size, 5, none⟩ = some (.int .i64 0) := by simp [World.cell?, hz8]
        have f0 : w8.frozen? ⟨w.heap.size, 0, none⟩ = false := by simp [World.frozen?, hz8]
        have f1 : w8.frozen? ⟨w.heap.size, 1, none⟩ = false := by simp [World.frozen?, hz8]
        have f2 : w8.frozen? ⟨w.heap.size, 2, none⟩ = false := by simp [World.frozen?, hz8]
        have f3 : w8.frozen? ⟨w.heap.size, 3, none⟩ = false := by simp [World.frozen?, hz8]
        have f4 : w8.frozen? ⟨w.heap.size, 4, none⟩ = false := by simp [World.frozen?, hz8]
        have f5 : w8.frozen? ⟨w.heap.size, 5, none⟩ = false := by simp [World.frozen?, hz8]
        obtain ⟨k0, k1, k2, k3, k4, k5⟩ := link_after_cells hz8 (.int .i64 0) (.int .i64 0) (.int .i64 0) (.bool false) (.string ⟨#[]⟩) (.int .i64 0) _ rfl
        have hBl := below6 (B := w.heap.size) hB8 (Nat.le_refl _) (.int .i64 0) (.int .i64 0) (.int .i64 0) (.bool false) (.string ⟨#[]⟩) (.int .i64 0)
        go_wp2_with fail
        refine bodyPost_ret (v := .tuple #[.agg #[.int .i64 0, .int .i64 0, .int .i64 0, .bool false, .string ⟨#[]⟩, .int .i64 0], .int .i64 1400]) (by simp [results, Tryz.results64, go_sem, k0, k1, k2, k3, k4, k5]) rfl ⟨?_, hBl⟩
        rw [HT.out, zero_cells]
      | true =>
        rw [hq] at hmay
        have HT : Hid (takenM os = (q, 0)) := Lib.hid (by unfold takenM; rw [if_neg (by rw [HBD.out, HQ.out, hq]; simp), HQ.out])
        go_wp2_with fail
        refine (hmay _).mono ?_
        rintro e w8 ⟨rfl, hb8⟩
        have hz8 := below_of hb8 hz2
        have hB8 := seqB hBf hb8
        obtain ⟨d0, d1, d2, d3, d4, d5⟩ := (hend.below hb8).cells
        have z0 : w8.cell? ⟨w.heap.size, 0, none⟩ = some (.int .i64 0) := by simp [World.cell?, hz8]
        have z1 : w8.cell? ⟨w.heap.size, 1, none⟩ = some (.int .i64 0) := by simp [World.cell?, hz8]
        have z2 : w8.cell? ⟨w.heap.size, 2, none⟩ = some (.int .i64 0) := by simp [World.cell?, hz8]
        have z3 : w8.cell? ⟨w.heap.size, 3, none⟩ = some (.bool false) := by simp [World.cell?, hz8]
        have z4 : w8.cell? ⟨w.heap.size, 4, none⟩ = some (.string ⟨#[]⟩) := by simp [World.cell?, hz8]
        have z5 : w8.cell? ⟨w.heap.size, 5, none⟩ = some (.int .i64 0) := by simp [World.cell?, hz8]
        have f0 : w8.frozen? ⟨w.heap.size, 0, none⟩ = false := by simp [World.frozen?, hz8]
        have f1 : w8.frozen? ⟨w.heap.size, 1, none⟩ = false := by simp [World.frozen?, hz8]
        have f2 : w8.frozen? ⟨w.heap.size, 2, none⟩ = false := by simp [World.frozen?, hz8]
        have f3 : w8.frozen? ⟨w.heap.size, 3, none⟩ = false := by simp [World.frozen?, hz8]
        have f4 : w8.frozen? ⟨w.heap.size, 4, none⟩ = false := by simp [World.frozen?, hz8]
        have f5 : w8.frozen? ⟨w.heap.size, 5, none⟩ = false := by simp [World.frozen?, hz8]
        obtain ⟨k0, k1, k2, k3, k4, k5⟩ := link_after_cells hz8 (.int .i64 q.mru) (.int .i64 q.magic) (.int .i64 q.mrru) (.bool q.short) (.string q.disc) (.int .i64 q.num) _ rfl
        have hBl := below6 (B := w.heap.size) hB8 (Nat.le_refl _) (.int .i64 q.mru) (.int .i64 q.magic) (.int .i64 q.mrru) (.bool q.short) (.string q.disc) (.int .i64 q.num)
        go_wp2_with fail
        refine bodyPost_ret (v := .tuple #[.agg #[.int .i64 q.mru, .int .i64 q.magic, .int .i64 q.mrru, .bool q.short, .string q.disc, .int .i64 q.num], .int .i64 0]) (by simp [results, Tryz.results64, go_sem, k0, k1, k2, k3, k4, k5]) rfl ⟨?_, hBl⟩
        rw [HT.out, HLh.out]
theorem ptaken_any (v : Value) (os : List OptM) (w : World) (hv : OptsAt w v os) :
    Calls Tryz.prog 64 #[v] w fun e w' => e = .returned (.tuple #[.agg (linkCells (takenM os).1), .int .i64 (takenM os).2]) ∧ Below w.heap.size w w' := by
  rcases hv.or with ⟨rfl, rfl⟩ | ⟨g, o, c, rfl⟩
  · exact ptaken_nil w
  · exact ptaken_some g o c os w hv
end Go.Proofs.YtagnbdenecphcaaGreatDoor
/-! policy: Judge. -/
namespace Go.Proofs.YtagnbdenecphcaaGreatDoor
open Go.RowKit
set_option linter.unusedVariables false
set_option linter.unusedSimpArgs false
theorem OwnE.form {P : Program} {α : Type} {E : Elem P α} {w : World} {b : Nat} {v : Value} {l : List α} (h : OwnE E w b v l) : ∃ a c, v = .slice a l.length c := by
  rcases h.2 with ⟨rfl, h0⟩ | ⟨g, cap, cur, rfl, _⟩
  · exact ⟨none, 0, by rw [h0]⟩
  · exact ⟨_, _, rfl⟩
theorem badsTo_succ (own : LinkM) (os : List OptM) (k : Nat) (hk : k < os.length) : badsTo own os (k + 1) = badsTo own os k ++ (if badM own (os.take k) os[k] then [os[k]] else []) := by
  unfold badsTo
  rw [List.range_succ, List.filterMap_append]
  congr 1
  simp only [List.filterMap_cons, List.filterMap_nil, List.getElem?_eq_getElem hk]
  cases badM own (os.take k) os[k] <;> simp
theorem bettersTo_succ (own : LinkM) (os : List OptM) (k : Nat) (hk : k < os.length) : bettersTo own os (k + 1) = bettersTo own os k ++ (if badM own (os.take k) os[k] then [] else (betterM own os[k]).toList) := by
  unfold bettersTo
  rw [List.range_succ, List.filterMap_append]
  congr 1
  simp only [List.filterMap_cons, List.filterMap_nil, List.getElem?_eq_getElem hk]
  cases badM own (os.take k) os[k] <;> cases betterM own os[k] <;> simp
theorem badsTo_len (own : LinkM) (os : List OptM) (k : Nat) : (badsTo own os k).length ≤ k := by
  unfold badsTo; refine Nat.le_trans (List.length_filterMap_le _ _) (by simp)
theorem bettersTo_len (own : LinkM) (os : List OptM) (k : Nat) : (bettersTo own os k).length ≤ k := by
  unfold bettersTo; refine Nat.le_trans (List.length_filterMap_le _ _) (by simp)
/-- two slices that lie in no one block -/
def Apart (u v : Value) : Prop := ∀ g, u.ownBlock = some g → v.ownBlock ≠ some g
theorem Apart.symm {u v : Value} (h : Apart u v) : Apart v u := fun g hv hu => h g hu hv
theorem Apart.grow {u u' v : Value} {n : Nat} (h : Apart u v) (ha : u'.ownBlock = u.ownBlock ∨ ∃ k, u'.ownBlock = some k ∧ n ≤ k) (hl : ∀ k, v.ownBlock = some k → k < n) : Apart u' v := by
  intro g hg hv
  rcases ha with e | ⟨k, hk, hn⟩
  · exact h g (e.symm.trans hg) hv
  · have := hl g hv
    rw [hg] at hk; cases hk; omega
theorem fit_iff (o : OptM) : fitM o = true ↔ 0 ≤ o.1 ∧ o.1 ≤ 255 ∧ o.2.size ≤ 253 := by
  unfold fitM; simp [and_assoc]
set_option maxRecDepth 100000 in
set_option maxHeartbeats 16000000 in
theorem pjudge_some (own : LinkM) (g o c : Nat) (os : List OptM) (w : World) (hm : mayM own = true) (hv : OptsAt w (.slice (some ⟨g, o, none⟩) os.length c) os) (hlen : os.length ≤ 1000000) :
    Calls Tryz.prog 49 #[.agg (linkCells own), .slice (some ⟨g, o, none⟩) os.length c] w fun e w' => ∃ v, e = .returned (.tuple #[.int .i64 (judgeM own os).1, v, .int .i64 (judgeM own os).2.2]) ∧ OwnE optE w' w.heap.size v (judgeM own os).2.1 ∧ Below w.heap.size w w' := by
  have hgl : g < w.heap.size := SeqAt.lt hv g rfl
  have hmay := fun w => pmay_any own w
  have HM := Lib.hid (mayM_bounds hm)
  have HMay := Lib.hid hm
  rw [hm] at hmay
  clear hm
  have HLh := Lib.hid linkCells_eq
  rw [HLh.out] at hmay ⊢
  go_enter Tryz.func49, Tryz.ntmps49
  go_wp2_with fail
  refine (hmay _).mono ?_
  rintro e w1 ⟨rfl, hb1⟩
  have hh1 : w1.heap[w.heap.size]? = some (.cells (linkCells own) 23 (0, 0)) := below_of hb1 (by rw [HLh.out]; exact heap_alloc_last _ _)
  obtain ⟨c0, c1, c2, c3, c4, c5⟩ := link_cells hh1
  have hB1 : Below w.heap.size w w1 := seqB (allocB (Below.refl _ _) _) hb1
  clear hb1 hmay
  go_wp2_with fail
  have hS : SideAt (w1.alloc (.cells (linkCells own) 131)) w1.heap.size own := heap_alloc_last _ _
  have hsh := fsm_below_cell ((Below.refl w1.heap.size w1).alloc (Nat.le_refl _) (.cells (linkCells own) 131)) c3
  have hBW : Below w.heap.size w (w1.alloc (.cells (linkCells own) 131)) := allocB hB1 _
  rw [HLh.out] at hS hsh hBW
  obtain ⟨W2, hW2⟩ : ∃ W2, w1.alloc (.cells #[.int .i64 own.mru, .int .i64 own.magic, .int .i64 own.mrru, .bool own.short, .string own.disc, .int .i64 own.num] 131) = W2 := ⟨_, rfl⟩
  rw [hW2] at hS hsh hBW ⊢
  obtain ⟨p, hp⟩ : ∃ p, w1.heap.size = p := ⟨_, rfl⟩
  rw [hp] at hS ⊢
  clear hW2 hh1 c0 c1 c2 c3 c4 c5 hB1 hp
  have HV := Lib.hid (hv.below hBW)
  obtain ⟨-, hcl, hcm, hcell⟩ := (hv.below hBW).cells
  obtain ⟨n, hnn⟩ : ∃ n, os.length = n := ⟨_, rfl⟩
  have HN := Lib.hid hnn
  have HC := Lib.hid hcell
  have hcn : c ≤ 9223372036854775807 := by unfold maxLen at hcm; omega
  rw [hnn] at hlen hcl ⊢
  clear hnn hcell hv hcm
  go_loopw [8, 9, 22] (fun b d i wr => ∃ k : Nat, k ≤ n ∧ i = .int .i64 k ∧ OwnE optE wr W2.heap.size b (badsTo own os k) ∧ OwnE optE wr W2.heap.size d (bettersTo own os k) ∧ Apart b d ∧ Below W2.heap.size W2 wr ∧ Hid ((os.take k).all fitM = true)) (fun _ _ i _ => n - (intOf i).toNat)
  case atStart => exact ⟨0, Nat.zero_le _, rfl, OwnE.nil _ _ _, OwnE.nil _ _ _, (fun g hg => by cases hg), Below.refl _ _, Lib.hid rfl⟩
  case round =>
    obtain ⟨k, hk, rfl, hown8, hown9, hap, hbl, HFk⟩ := hrel
    by_cases hlt : k < n
    · have hkl : k < os.length := by rw [HN.out]; exact hlt
      obtain ⟨d1, d2⟩ := HC.out k hkl
      replace d1 := fsm_below_cell hbl d1
      replace d2 := fsm_below_cell hbl d2
      have hbs := badsTo_succ own os k hkl
      have hgs := bettersTo_succ own os k hkl
      have hl8k := badsTo_len own os k
      have hl9k := bettersTo_len own os k
      have hmem := List.getElem_mem hkl
      have hfind := fun w h => find_any (os[k]).1 (.slice (some ⟨g, o, none⟩) k c) (os.take k) w h
      have hfa := findFrom_any (os[k]).1 (os.take k)
      have hvk := SeqAt.below (HV.out.take k (by omega)) hbl
      obtain ⟨x, hx⟩ : ∃ x, os[k] = x := ⟨_, rfl⟩
      rw [hx] at d1 d2 hbs hgs hfind hfa hmem
      have hft : (os.take (k + 1)).all fitM = fitM x := by
        rw [List.take_succ_eq_append_getElem hkl, List.all_append, HFk.out, hx]; simp
      have hri := fun w => right_any x w
      have hsl := slice_opts g o n c k (by omega)
      have hv1 := SeqAt.below hvk ((Below.refl _ _).alloc (Nat.le_refl _) (.cells #[.int .i64 x.1, .string x.2] 70))
      have hh6 : (wr.alloc (.cells #[.int .i64 x.1, .string x.2] 70)).heap[wr.heap.size]? = some (.cells #[.int .i64 x.1, .string x.2] 70 (0, 0)) := heap_alloc_last _ _
      have s0 : (wr.alloc (.cells #[.int .i64 x.1, .string x.2] 70)).cell? ⟨wr.heap.size, 0, none⟩ = some (.int .i64 x.1) := by rw [World.cell?_alloc_new]; rfl
      have s1 : (wr.alloc (.cells #[.int .i64 x.1, .string x.2] 70)).cell? ⟨wr.heap.size, 1, none⟩ = some (.string x.2) := by rw [World.cell?_alloc_new]; rfl
      have s3 := fsm_below_cell ((Below.refl wr.heap.size wr).alloc (Nat.le_refl _) (.cells #[.int .i64 x.1, .string x.2] 70)) (fsm_below_cell hbl hsh)
      clear hx hvk
      cases hfx : fitM x with
      | false =>
        have HT : Hid (judgeM own os = (0, [], 1400)) := Lib.hid (by unfold judgeM; rw [if_pos (.inr (List.any_eq_true.2 ⟨x, hmem, by rw [hfx]; rfl⟩))])
        have hnf : x.1 < 0 ∨ 255 < x.1 ∨ 253 < x.2.size := by
          have := mt (fit_iff x).2 (by rw [hfx]; simp); omega
        have hBf : Below w.heap.size w (wr.alloc (.cells #[.int .i64 x.1, .string x.2] 70)) := allocB (seqB hBW hbl) _
        clear hfx hft hbs hgs hmem hfind hfa hri hsl hv1 hh6 s0 s1 s3 hown8 hown9
        by_cases f1 : x.1 < 0
        · go_wp2_with fail
          go_ret3
          exact ⟨.slice none 0 0, by rw [HT.out]; rfl, by rw [HT.out]; exact OwnE.nil _ _ _, hBf⟩
        · by_cases f2 : 255 < x.1
          · go_wp2_with fail
            go_ret3
            exact ⟨.slice none 0 0, by rw [HT.out]; rfl, by rw [HT.out]; exact OwnE.nil _ _ _, hBf⟩
          · have f3 : 253 < x.2.size := by omega
            go_wp2_with fail
            go_ret3
            exact ⟨.slice none 0 0, by rw [HT.out]; rfl, by rw [HT.out]; exact OwnE.nil _ _ _, hBf⟩
      | true =>
        obtain ⟨f1, f2, f3⟩ := (fit_iff x).1 hfx
        have HF : Hid ((os.take (k + 1)).all fitM = true) := Lib.hid (hft.trans hfx)
        have hbet := fun w h => better_any p own x w h HM.out.2.1.1 HM.out.2.1.2 (by omega)
        clear hft hmem hfx
        cases hr : rightM x with
        | false =>
          have hbad : badM own (os.take k) x = true := by unfold badM; rw [hr]; rfl
          rw [hr] at hri
          clear hr hfa hfind
          have HB8 : Hid (badsTo own os (k + 1) = badsTo own os k ++ [(x.1, x.2)]) := Lib.hid (by rw [hbs, hbad]; rfl)
          have HB9 : Hid (bettersTo own os (k + 1) = bettersTo own os k) := Lib.hid (by rw [hgs, hbad]; simp)
          clear hbs hgs hbad
          go_wp2_with fail
          refine wp_schedL (fun w' => w'.cell? ⟨wr.heap.size, 0, none⟩ = some (.int .i64 x.1) ∧ w'.cell? ⟨wr.heap.size, 1, none⟩ = some (.string x.2) ∧ w'.cell? ⟨w.heap.size, 3, none⟩ = some (.bool own.short)) [(0, true), (1, false), (2, true), (3, true), (4, true), (5, true), (6, true), (7, true), (8, true), (9, true), (10, true), (11, true), (12, true), (13, true), (14, true), (15, true), (16, true), (17, true), (18, true), (19, false), (20, true), (21, true)] (by kernel_rfl) (by kernel_rfl) rfl (by kernel_rfl) (by kernel_rfl) ⟨s0, s1, s3⟩ (fun _ d _ _ _ h => by cases d <;> exact h) ?_
          simp only [schedOps, List.filterMap_cons, List.filterMap_nil, List.getElem?_toArray, List.getElem?_cons_zero, List.getElem?_cons_succ, Option.map_some]
          repeat (first | (refine' wpSched_take _ (by rfl) (fun wS hS => ?_) ?_; rotate_left; (focus (obtain ⟨s1, s2, s3⟩ := hS; go_simp; first | done | rfl)); (try simp only [Act.put, List.setIfInBounds_toArray, List.set_cons_zero, List.set_cons_succ])) | (refine wpSched_skip (by rfl) ?_; try simp only [Act.put, List.setIfInBounds_toArray, List.set_cons_zero, List.set_cons_succ]))
          refine wpSched_run (fun K hK => ?_)
          go_wp2_with (go_at_call 74; refine (hri _).mono ?_; rintro e w3 ⟨rfl, hb3⟩)
          refine QRun_normal (hK.out _ _ ⟨fsm_below_cell hb3 s0, fsm_below_cell hb3 s1, fsm_below_cell hb3 s3⟩ ?_)
          clear hK K
          repeat (first | (refine' wpSched_take _ (by rfl) (fun wS hS => ?_) ?_; rotate_left; (focus (obtain ⟨s1, s2, s3⟩ := hS; go_simp; first | done | rfl)); (try simp only [Act.put, List.setIfInBounds_toArray, List.set_cons_zero, List.set_cons_succ])) | (refine wpSched_skip (by rfl) ?_; try simp only [Act.put, List.setIfInBounds_toArray, List.set_cons_zero, List.set_cons_succ]))
          refine wpSched_run (fun K hK => ?_)
          go_wp2_with fail
          refine QRun_normal (hK.out _ _ ⟨fsm_below_cell hb3 s0, fsm_below_cell hb3 s1, fsm_below_cell hb3 s3⟩ ?_)
          obtain ⟨w4, rfl⟩ : ∃ w4 : World, w4 = w3 := ⟨_, rfl⟩
          have hb4 := Below.refl w4.heap.size w4
          clear hK K
          repeat (first | (refine' wpSched_take _ (by rfl) (fun wS hS => ?_) ?_; rotate_left; (focus (obtain ⟨s1, s2, s3⟩ := hS; go_simp; first | done | rfl)); (try simp only [Act.put, List.setIfInBounds_toArray, List.set_cons_zero, List.set_cons_succ])) | (refine wpSched_skip (by rfl) ?_; try simp only [Act.put, List.setIfInBounds_toArray, List.set_cons_zero, List.set_cons_succ]))
          refine wpSched_done ?_
          have hb34 := seqB hb3 hb4
          have hh4 := below_of hb34 (show (World.drew _).heap[_]? = _ from hh6)
          have u0 : w4.cell? ⟨wr.heap.size, 0, none⟩ = some (.int .i64 x.1) := by simp [World.cell?, hh4]
          have u1 : w4.cell? ⟨wr.heap.size, 1, none⟩ = some (.string x.2) := by simp [World.cell?, hh4]
          have hO8 := ((hown8.below ((Below.refl _ _).alloc (Nat.le_refl _) (.cells #[.int .i64 x.1, .string x.2] 70))).below (Below.refl _ _).drew).below hb34
          have hO9 := ((hown9.below ((Below.refl _ _).alloc (Nat.le_refl _) (.cells #[.int .i64 x.1, .string x.2] 70))).below (Below.refl _ _).drew).below hb34
          have hB4 : Below W2.heap.size W2 w4 := seqB (drewB (allocB hbl _)) hb34
          clear hb3 hb4 hb34 hh4
          have hl9 := hO9.lt
          go_wp2_with (at_builtin; refine wpList_appO rfl _ _ rfl W2 _ _ x.1 x.2 1 hO8 rfl _ rfl (by simp) (by omega) hB4 ?_; intro v' w5 hown5 hbl5 hon5 hat5)
          have hO9' := hO9.only hon5 (fun b hb e => hap b e hb)
          go_roundw
          case rel => exact ⟨k + 1, by omega, by go_num, by rw [HB8.out]; exact hown5, by rw [HB9.out]; exact hO9', hap.grow hat5 hl9, hbl5, HF⟩
          case measure => simp [intOf]; omega
        | true =>
          rw [hr] at hri
          by_cases k18 : x.1 = 18
          · have q18 : (x.1 == 18) = true := by simp [k18]
            cases hsx : own.short with
            | false =>
              have hbad : badM own (os.take k) x = true := by unfold badM; rw [hsx]; simp [k18]
              rw [hsx] at s3
              clear hr hfa hfind k18
              have HB8 : Hid (badsTo own os (k + 1) = badsTo own os k ++ [(x.1, x.2)]) := Lib.hid (by rw [hbs, hbad]; rfl)
              have HB9 : Hid (bettersTo own os (k + 1) = bettersTo own os k) := Lib.hid (by rw [hgs, hbad]; simp)
              clear hbs hgs hbad
              go_wp2_with fail
              refine wp_schedL (fun w' => w'.cell? ⟨wr.heap.size, 0, none⟩ = some (.int .i64 x.1) ∧ w'.cell? ⟨wr.heap.size, 1, none⟩ = some (.string x.2) ∧ w'.cell? ⟨w.heap.size, 3, none⟩ = some (.bool false)) [(0, true), (1, false), (2, true), (3, true), (4, true), (5, true), (6, true), (7, true), (8, true), (9, true), (10, true), (11, true), (12, true), (13, true), (14, true), (15, true), (16, true), (17, true), (18, true), (19, false), (20, true), (21, true)] (by kernel_rfl) (by kernel_rfl) rfl (by kernel_rfl) (by kernel_rfl) ⟨s0, s1, s3⟩ (fun _ d _ _ _ h => by cases d <;> exact h) ?_
              simp only [schedOps, List.filterMap_cons, List.filterMap_nil, List.getElem?_toArray, List.getElem?_cons_zero, List.getElem?_cons_succ, Option.map_some]
              repeat (first | (refine' wpSched_take _ (by rfl) (fun wS hS => ?_) ?_; rotate_left; (focus (obtain ⟨s1, s2, s3⟩ := hS; go_simp; first | done | rfl)); (try simp only [Act.put, List.setIfInBounds_toArray, List.set_cons_zero, List.set_cons_succ])) | (refine wpSched_skip (by rfl) ?_; try simp only [Act.put, List.setIfInBounds_toArray, List.set_cons_zero, List.set_cons_succ]))
              refine wpSched_run (fun K hK => ?_)
              go_wp2_with (go_at_call 74; refine (hri _).mono ?_; rintro e w3 ⟨rfl, hb3⟩)
              refine QRun_normal (hK.out _ _ ⟨fsm_below_cell hb3 s0, fsm_below_cell hb3 s1, fsm_below_cell hb3 s3⟩ ?_)
              clear hK K
              repeat (first | (refine' wpSched_take _ (by rfl) (fun wS hS => ?_) ?_; rotate_left; (focus (obtain ⟨s1, s2, s3⟩ := hS; go_simp; first | done | rfl)); (try simp only [Act.put, List.setIfInBounds_toArray, List.set_cons_zero, List.set_cons_succ])) | (refine wpSched_skip (by rfl) ?_; try simp only [Act.put, List.setIfInBounds_toArray, List.set_cons_zero, List.set_cons_succ]))
              refine wpSched_run (fun K hK => ?_)
              go_wp2_with fail
              refine QRun_normal (hK.out _ _ ⟨fsm_below_cell hb3 s0, fsm_below_cell hb3 s1, fsm_below_cell hb3 s3⟩ ?_)
              obtain ⟨w4, rfl⟩ : ∃ w4 : World, w4 = w3 := ⟨_, rfl⟩
              have hb4 := Below.refl w4.heap.size w4
              clear hK K
              repeat (first | (refine' wpSched_take _ (by rfl) (fun wS hS => ?_) ?_; rotate_left; (focus (obtain ⟨s1, s2, s3⟩ := hS; go_simp; first | done | rfl)); (try simp only [Act.put, List.setIfInBounds_toArray, List.set_cons_zero, List.set_cons_succ])) | (refine wpSched_skip (by rfl) ?_; try simp only [Act.put, List.setIfInBounds_toArray, List.set_cons_zero, List.set_cons_succ]))
              refine wpSched_done ?_
              have hb34 := seqB hb3 hb4
              have hh4 := below_of hb34 (show (World.drew _).heap[_]? = _ from hh6)
              have u0 : w4.cell? ⟨wr.heap.size, 0, none⟩ = some (.int .i64 x.1) := by simp [World.cell?, hh4]
              have u1 : w4.cell? ⟨wr.heap.size, 1, none⟩ = some (.string x.2) := by simp [World.cell?, hh4]
              have hO8 := ((hown8.below ((Below.refl _ _).alloc (Nat.le_refl _) (.cells #[.int .i64 x.1, .string x.2] 70))).below (Below.refl _ _).drew).below hb34
              have hO9 := ((hown9.below ((Below.refl _ _).alloc (Nat.le_refl _) (.cells #[.int .i64 x.1, .string x.2] 70))).below (Below.refl _ _).drew).below hb34
              have hB4 : Below W2.heap.size W2 w4 := seqB (drewB (allocB hbl _)) hb34
              clear hb3 hb4 hb34 hh4
              have hl9 := hO9.lt
              go_wp2_with (at_builtin; refine wpList_appO rfl _ _ rfl W2 _ _ x.1 x.2 1 hO8 rfl _ rfl (by simp) (by omega) hB4 ?_; intro v' w5 hown5 hbl5 hon5 hat5)
              have hO9' := hO9.only hon5 (fun b hb e => hap b e hb)
              go_roundw
              case rel => exact ⟨k + 1, by omega, by go_num, by rw [HB8.out]; exact hown5, by rw [HB9.out]; exact hO9', hap.grow hat5 hl9, hbl5, HF⟩
              case measure => simp [intOf]; omega
            | true =>
              rw [hsx] at s3
              cases hdu : (os.take k).any fun q => decide (q.1 = x.1) with
              | true =>
                have hge : decide (0 ≤ findFrom x.1 (os.take k)) = true := hfa.trans hdu
                have hbad : badM own (os.take k) x = true := by unfold badM; rw [hdu]; simp
                clear hr hfa hdu k18
                have HB8 : Hid (badsTo own os (k + 1) = badsTo own os k ++ [(x.1, x.2)]) := Lib.hid (by rw [hbs, hbad]; rfl)
                have HB9 : Hid (bettersTo own os (k + 1) = bettersTo own os k) := Lib.hid (by rw [hgs, hbad]; simp)
                clear hbs hgs hbad
                go_wp2_with fail
                refine wp_schedL (fun w' => w'.cell? ⟨wr.heap.size, 0, none⟩ = some (.int .i64 x.1) ∧ w'.cell? ⟨wr.heap.size, 1, none⟩ = some (.string x.2) ∧ w'.cell? ⟨w.heap.size, 3, none⟩ = some (.bool true)) [(0, true), (1, false), (2, true), (3, true), (4, true), (5, true), (6, true), (7, true), (8, true), (9, true), (10, true), (11, true), (12, true), (13, true), (14, true), (15, true), (16, true), (17, true), (18, true), (19, false), (20, true), (21, true)] (by kernel_rfl) (by kernel_rfl) rfl (by kernel_rfl) (by kernel_rfl) ⟨s0, s1, s3⟩ (fun _ d _ _ _ h => by cases d <;> exact h) ?_
                simp only [schedOps, List.filterMap_cons, List.filterMap_nil, List.getElem?_toArray, List.getElem?_cons_zero, List.getElem?_cons_succ, Option.map_some]
                repeat (first | (refine' wpSched_take _ (by rfl) (fun wS hS => ?_) ?_; rotate_left; (focus (obtain ⟨s1, s2, s3⟩ := hS; go_simp; first | done | rfl)); (try simp only [Act.put, List.setIfInBounds_toArray, List.set_cons_zero, List.set_cons_succ])) | (refine wpSched_skip (by rfl) ?_; try simp only [Act.put, List.setIfInBounds_toArray, List.set_cons_zero, List.set_cons_succ]))
                refine wpSched_run (fun K hK => ?_)
                go_wp2_with (go_at_call 74; refine (hri _).mono ?_; rintro e w3 ⟨rfl, hb3⟩)
                refine QRun_normal (hK.out _ _ ⟨fsm_below_cell hb3 s0, fsm_below_cell hb3 s1, fsm_below_cell hb3 s3⟩ ?_)
                clear hK K
                repeat (first | (refine' wpSched_take _ (by rfl) (fun wS hS => ?_) ?_; rotate_left; (focus (obtain ⟨s1, s2, s3⟩ := hS; go_simp; first | done | rfl)); (try simp only [Act.put, List.setIfInBounds_toArray, List.set_cons_zero, List.set_cons_succ])) | (refine wpSched_skip (by rfl) ?_; try simp only [Act.put, List.setIfInBounds_toArray, List.set_cons_zero, List.set_cons_succ]))
                refine wpSched_run (fun K hK => ?_)
                have hv3 := SeqAt.below (SeqAt.below hv1 (Below.refl _ _).drew) hb3
                go_wp2_with (go_at_call 75; refine (hfind _ hv3).mono ?_; rintro e w4 ⟨rfl, hb4⟩)
                refine QRun_normal (hK.out _ _ ⟨fsm_below_cell hb4 (fsm_below_cell hb3 s0), fsm_below_cell hb4 (fsm_below_cell hb3 s1), fsm_below_cell hb4 (fsm_below_cell hb3 s3)⟩ ?_)
                clear hK K
                repeat (first | (refine' wpSched_take _ (by rfl) (fun wS hS => ?_) ?_; rotate_left; (focus (obtain ⟨s1, s2, s3⟩ := hS; go_simp; first | done | rfl)); (try simp only [Act.put, List.setIfInBounds_toArray, List.set_cons_zero, List.set_cons_succ])) | (refine wpSched_skip (by rfl) ?_; try simp only [Act.put, List.setIfInBounds_toArray, List.set_cons_zero, List.set_cons_succ]))
                refine wpSched_done ?_
                have hb34 := seqB hb3 hb4
                have hh4 := below_of hb34 (show (World.drew _).heap[_]? = _ from hh6)
                have u0 : w4.cell? ⟨wr.heap.size, 0, none⟩ = some (.int .i64 x.1) := by simp [World.cell?, hh4]
                have u1 : w4.cell? ⟨wr.heap.size, 1, none⟩ = some (.string x.2) := by simp [World.cell?, hh4]
                have hO8 := ((hown8.below ((Below.refl _ _).alloc (Nat.le_refl _) (.cells #[.int .i64 x.1, .string x.2] 70))).below (Below.refl _ _).drew).below hb34
                have hO9 := ((hown9.below ((Below.refl _ _).alloc (Nat.le_refl _) (.cells #[.int .i64 x.1, .string x.2] 70))).below (Below.refl _ _).drew).below hb34
                have hB4 : Below W2.heap.size W2 w4 := seqB (drewB (allocB hbl _)) hb34
                clear hb3 hb4 hb34 hh4
                have hl9 := hO9.lt
                go_wp2_with (at_builtin; refine wpList_appO rfl _ _ rfl W2 _ _ x.1 x.2 1 hO8 rfl _ rfl (by simp) (by omega) hB4 ?_; intro v' w5 hown5 hbl5 hon5 hat5)
                have hO9' := hO9.only hon5 (fun b hb e => hap b e hb)
                go_roundw
                case rel => exact ⟨k + 1, by omega, by go_num, by rw [HB8.out]; exact hown5, by rw [HB9.out]; exact hO9', hap.grow hat5 hl9, hbl5, HF⟩
                case measure => simp [intOf]; omega
              | false =>
                have hge : decide (0 ≤ findFrom x.1 (os.take k)) = false := hfa.trans hdu
                have hbad : badM own (os.take k) x = false := by unfold badM; rw [hr, hdu, hsx]; simp
                clear hr hfa hdu k18
                have HB8 : Hid (badsTo own os (k + 1) = badsTo own os k) := Lib.hid (by rw [hbs, hbad]; simp)
                have HB9 : Hid (bettersTo own os (k + 1) = bettersTo own os k ++ (betterM own x).toList) := Lib.hid (by rw [hgs, hbad]; simp)
                clear hbs hgs hbad
                go_wp2_with fail
                refine wp_schedL (fun w' => w'.cell? ⟨wr.heap.size, 0, none⟩ = some (.int .i64 x.1) ∧ w'.cell? ⟨wr.heap.size, 1, none⟩ = some (.string x.2) ∧ w'.cell? ⟨w.heap.size, 3, none⟩ = some (.bool true)) [(0, true), (1, false), (2, true), (3, true), (4, true), (5, true), (6, true), (7, true), (8, true), (9, true), (10, true), (11, true), (12, true), (13, true), (14, true), (15, true), (16, true), (17, true), (18, true), (19, false), (20, true), (21, true)] (by kernel_rfl) (by kernel_rfl) rfl (by kernel_rfl) (by kernel_rfl) ⟨s0, s1, s3⟩ (fun _ d _ _ _ h => by cases d <;> exact h) ?_
                simp only [schedOps, List.filterMap_cons, List.filterMap_nil, List.getElem?_toArray, List.getElem?_cons_zero, List.getElem?_cons_succ, Option.map_some]
                repeat (first | (refine' wpSched_take _ (by rfl) (fun wS hS => ?_) ?_; rotate_left; (focus (obtain ⟨s1, s2, s3⟩ := hS; go_simp; first | done | rfl)); (try simp only [Act.put, List.setIfInBounds_toArray, List.set_cons_zero, List.set_cons_succ])) | (refine wpSched_skip (by rfl) ?_; try simp only [Act.put, List.setIfInBounds_toArray, List.set_cons_zero, List.set_cons_succ]))
                refine wpSched_run (fun K hK => ?_)
                go_wp2_with (go_at_call 74; refine (hri _).mono ?_; rintro e w3 ⟨rfl, hb3⟩)
                refine QRun_normal (hK.out _ _ ⟨fsm_below_cell hb3 s0, fsm_below_cell hb3 s1, fsm_below_cell hb3 s3⟩ ?_)
                clear hK K
                repeat (first | (refine' wpSched_take _ (by rfl) (fun wS hS => ?_) ?_; rotate_left; (focus (obtain ⟨s1, s2, s3⟩ := hS; go_simp; first | done | rfl)); (try simp only [Act.put, List.setIfInBounds_toArray, List.set_cons_zero, List.set_cons_succ])) | (refine wpSched_skip (by rfl) ?_; try simp only [Act.put, List.setIfInBounds_toArray, List.set_cons_zero, List.set_cons_succ]))
                refine wpSched_run (fun K hK => ?_)
                have hv3 := SeqAt.below (SeqAt.below hv1 (Below.refl _ _).drew) hb3
                go_wp2_with (go_at_call 75; refine (hfind _ hv3).mono ?_; rintro e w4 ⟨rfl, hb4⟩)
                refine QRun_normal (hK.out _ _ ⟨fsm_below_cell hb4 (fsm_below_cell hb3 s0), fsm_below_cell hb4 (fsm_below_cell hb3 s1), fsm_below_cell hb4 (fsm_below_cell hb3 s3)⟩ ?_)
                clear hK K
                repeat (first | (refine' wpSched_take _ (by rfl) (fun wS hS => ?_) ?_; rotate_left; (focus (obtain ⟨s1, s2, s3⟩ := hS; go_simp; first | done | rfl)); (try simp only [Act.put, List.setIfInBounds_toArray, List.set_cons_zero, List.set_cons_succ])) | (refine wpSched_skip (by rfl) ?_; try simp only [Act.put, List.setIfInBounds_toArray, List.set_cons_zero, List.set_cons_succ]))
                refine wpSched_done ?_
                have hb34 := seqB hb3 hb4
                have hh4 := below_of hb34 (show (World.drew _).heap[_]? = _ from hh6)
                have u0 : w4.cell? ⟨wr.heap.size, 0, none⟩ = some (.int .i64 x.1) := by simp [World.cell?, hh4]
                have u1 : w4.cell? ⟨wr.heap.size, 1, none⟩ = some (.string x.2) := by simp [World.cell?, hh4]
                have hO8 := ((hown8.below ((Below.refl _ _).alloc (Nat.le_refl _) (.cells #[.int .i64 x.1, .string x.2] 70))).below (Below.refl _ _).drew).below hb34
                have hO9 := ((hown9.below ((Below.refl _ _).alloc (Nat.le_refl _) (.cells #[.int .i64 x.1, .string x.2] 70))).below (Below.refl _ _).drew).below hb34
                have hB4 : Below W2.heap.size W2 w4 := seqB (drewB (allocB hbl _)) hb34
                clear hb3 hb4 hb34 hh4
                have hS4 : SideAt w4 p own := (hS.below hB4)
                have hl8 := hO8.lt
                have hl9 := hO9.lt
                go_wp2_with fail
                refine (hbet _ hS4).mono ?_
                rintro e w5 ⟨bk, bd, rfl, hbe, hb5⟩
                cases hbt : betterM own x with
                | none =>
                  have HB9' : Hid (bettersTo own os (k + 1) = bettersTo own os k) := Lib.hid (by rw [HB9.out, hbt]; simp)
                  have hO8' := (hO8.below hb5).below ((Below.refl _ _).alloc (Nat.le_refl _) (.cells #[.int .i64 bk, .string bd] 70))
                  have hO9' := (hO9.below hb5).below ((Below.refl _ _).alloc (Nat.le_refl _) (.cells #[.int .i64 bk, .string bd] 70))
                  have hB5 : Below W2.heap.size W2 (w5.alloc (.cells #[.int .i64 bk, .string bd] 70)) := allocB (seqB hB4 hb5) _
                  clear hbe hb5 hO8 hO9 hB4
                  go_wp2_with fail
                  go_roundw
                  case rel => exact ⟨k + 1, by omega, by go_num, by rw [HB8.out]; exact hO8', by rw [HB9'.out]; exact hO9', hap, hB5, HF⟩
                  case measure => simp [intOf]; omega
                | some bx =>
                  have hbx := hbe bx hbt
                  have HB9' : Hid (bettersTo own os (k + 1) = bettersTo own os k ++ [(bk, bd)]) := Lib.hid (by rw [HB9.out, hbt, hbx]; rfl)
                  have hO8' := (hO8.below hb5).below ((Below.refl _ _).alloc (Nat.le_refl _) (.cells #[.int .i64 bk, .string bd] 70))
                  have hO9' := (hO9.below hb5).below ((Below.refl _ _).alloc (Nat.le_refl _) (.cells #[.int .i64 bk, .string bd] 70))
                  have hB5 : Below W2.heap.size W2 (w5.alloc (.cells #[.int .i64 bk, .string bd] 70)) := allocB (seqB hB4 hb5) _
                  have hl8' := hO8'.lt
                  clear hbe hb5 hO8 hO9 hB4 hbx
                  go_wp2_with (at_builtin; refine wpList_appO rfl _ _ rfl W2 _ _ bk bd 1 hO9' rfl _ rfl (by simp) (by omega) hB5 ?_; intro v' w6 hown6 hbl6 hon6 hat6)
                  have hO8'' := hO8'.only hon6 (fun b hb e => hap b hb e)
                  go_roundw
                  case rel => exact ⟨k + 1, by omega, by go_num, by rw [HB8.out]; exact hO8'', by rw [HB9'.out]; exact hown6, (hap.symm.grow hat6 hl8').symm, hbl6, HF⟩
                  case measure => simp [intOf]; omega
          · have q18 : (x.1 == 18) = false := beq_eq_false_iff_ne.2 k18
            cases hdu : (os.take k).any fun q => decide (q.1 = x.1) with
            | true =>
              have hge : decide (0 ≤ findFrom x.1 (os.take k)) = true := hfa.trans hdu
              have hbad : badM own (os.take k) x = true := by unfold badM; rw [hdu]; simp
              clear hr hfa hdu k18
              have HB8 : Hid (badsTo own os (k + 1) = badsTo own os k ++ [(x.1, x.2)]) := Lib.hid (by rw [hbs, hbad]; rfl)
              have HB9 : Hid (bettersTo own os (k + 1) = bettersTo own os k) := Lib.hid (by rw [hgs, hbad]; simp)
              clear hbs hgs hbad
              go_wp2_with fail
              refine wp_schedL (fun w' => w'.cell? ⟨wr.heap.size, 0, none⟩ = some (.int .i64 x.1) ∧ w'.cell? ⟨wr.heap.size, 1, none⟩ = some (.string x.2) ∧ w'.cell? ⟨w.heap.size, 3, none⟩ = some (.bool own.short)) [(0, true), (1, false), (2, true), (3, true), (4, true), (5, true), (6, true), (7, true), (8, true), (9, true), (10, true), (11, true), (12, true), (13, true), (14, true), (15, true), (16, true), (17, true), (18, true), (19, false), (20, true), (21, true)] (by kernel_rfl) (by kernel_rfl) rfl (by kernel_rfl) (by kernel_rfl) ⟨s0, s1, s3⟩ (fun _ d _ _ _ h => by cases d <;> exact h) ?_
              simp only [schedOps, List.filterMap_cons, List.filterMap_nil, List.getElem?_toArray, List.getElem?_cons_zero, List.getElem?_cons_succ, Option.map_some]
              repeat (first | (refine' wpSched_take _ (by rfl) (fun wS hS => ?_) ?_; rotate_left; (focus (obtain ⟨s1, s2, s3⟩ := hS; go_simp; first | done | rfl)); (try simp only [Act.put, List.setIfInBounds_toArray, List.set_cons_zero, List.set_cons_succ])) | (refine wpSched_skip (by rfl) ?_; try simp only [Act.put, List.setIfInBounds_toArray, List.set_cons_zero, List.set_cons_succ]))
              refine wpSched_run (fun K hK => ?_)
              go_wp2_with (go_at_call 74; refine (hri _).mono ?_; rintro e w3 ⟨rfl, hb3⟩)
              refine QRun_normal (hK.out _ _ ⟨fsm_below_cell hb3 s0, fsm_below_cell hb3 s1, fsm_below_cell hb3 s3⟩ ?_)
              clear hK K
              repeat (first | (refine' wpSched_take _ (by rfl) (fun wS hS => ?_) ?_; rotate_left; (focus (obtain ⟨s1, s2, s3⟩ := hS; go_simp; first | done | rfl)); (try simp only [Act.put, List.setIfInBounds_toArray, List.set_cons_zero, List.set_cons_succ])) | (refine wpSched_skip (by rfl) ?_; try simp only [Act.put, List.setIfInBounds_toArray, List.set_cons_zero, List.set_cons_succ]))
              refine wpSched_run (fun K hK => ?_)
              have hv3 := SeqAt.below (SeqAt.below hv1 (Below.refl _ _).drew) hb3
              go_wp2_with (go_at_call 75; refine (hfind _ hv3).mono ?_; rintro e w4 ⟨rfl, hb4⟩)
              refine QRun_normal (hK.out _ _ ⟨fsm_below_cell hb4 (fsm_below_cell hb3 s0), fsm_below_cell hb4 (fsm_below_cell hb3 s1), fsm_below_cell hb4 (fsm_below_cell hb3 s3)⟩ ?_)
              clear hK K
              repeat (first | (refine' wpSched_take _ (by rfl) (fun wS hS => ?_) ?_; rotate_left; (focus (obtain ⟨s1, s2, s3⟩ := hS; go_simp; first | done | rfl)); (try simp only [Act.put, List.setIfInBounds_toArray, List.set_cons_zero, List.set_cons_succ])) | (refine wpSched_skip (by rfl) ?_; try simp only [Act.put, List.setIfInBounds_toArray, List.set_cons_zero, List.set_cons_succ]))
              refine wpSched_done ?_
              have hb34 := seqB hb3 hb4
              have hh4 := below_of hb34 (show (World.drew _).heap[_]? = _ from hh6)
              have u0 : w4.cell? ⟨wr.heap.size, 0, none⟩ = some (.int .i64 x.1) := by simp [World.cell?, hh4]
              have u1 : w4.cell? ⟨wr.heap.size, 1, none⟩ = some (.string x.2) := by simp [World.cell?, hh4]
              have hO8 := ((hown8.below ((Below.refl _ _).alloc (Nat.le_refl _) (.cells #[.int .i64 x.1, .string x.2] 70))).below (Below.refl _ _).drew).below hb34
              have hO9 := ((hown9.below ((Below.refl _ _).alloc (Nat.le_refl _) (.cells #[.int .i64 x.1, .string x.2] 70))).below (Below.refl _ _).drew).below hb34
              have hB4 : Below W2.heap.size W2 w4 := seqB (drewB (allocB hbl _)) hb34
              clear hb3 hb4 hb34 hh4
              have hl9 := hO9.lt
              go_wp2_with (at_builtin; refine wpList_appO rfl _ _ rfl W2 _ _ x.1 x.2 1 hO8 rfl _ rfl (by simp) (by omega) hB4 ?_; intro v' w5 hown5 hbl5 hon5 hat5)
              have hO9' := hO9.only hon5 (fun b hb e => hap b e hb)
              go_roundw
              case rel => exact ⟨k + 1, by omega, by go_num, by rw [HB8.out]; exact hown5, by rw [HB9.out]; exact hO9', hap.grow hat5 hl9, hbl5, HF⟩
              case measure => simp [intOf]; omega
            | false =>
              have hge : decide (0 ≤ findFrom x.1 (os.take k)) = false := hfa.trans hdu
              have hbad : badM own (os.take k) x = false := by unfold badM; rw [hr, hdu]; simp [k18]
              clear hr hfa hdu k18
              have HB8 : Hid (badsTo own os (k + 1) = badsTo own os k) := Lib.hid (by rw [hbs, hbad]; simp)
              have HB9 : Hid (bettersTo own os (k + 1) = bettersTo own os k ++ (betterM own x).toList) := Lib.hid (by rw [hgs, hbad]; simp)
              clear hbs hgs hbad
              go_wp2_with fail
              refine wp_schedL (fun w' => w'.cell? ⟨wr.heap.size, 0, none⟩ = some (.int .i64 x.1) ∧ w'.cell? ⟨wr.heap.size, 1, none⟩ = some (.string x.2) ∧ w'.cell? ⟨w.heap.size, 3, none⟩ = some (.bool own.short)) [(0, true), (1, false), (2, true), (3, true), (4, true), (5, true), (6, true), (7, true), (8, true), (9, true), (10, true), (11, true), (12, true), (13, true), (14, true), (15, true), (16, true), (17, true), (18, true), (19, false), (20, true), (21, true)] (by kernel_rfl) (by kernel_rfl) rfl (by kernel_rfl) (by kernel_rfl) ⟨s0, s1, s3⟩ (fun _ d _ _ _ h => by cases d <;> exact h) ?_
              simp only [schedOps, List.filterMap_cons, List.filterMap_nil, List.getElem?_toArray, List.getElem?_cons_zero, List.getElem?_cons_succ, Option.map_some]
              repeat (first | (refine' wpSched_take _ (by rfl) (fun wS hS => ?_) ?_; rotate_left; (focus (obtain ⟨s1, s2, s3⟩ := hS; go_simp; first | done | rfl)); (try simp only [Act.put, List.setIfInBounds_toArray, List.set_cons_zero, List.set_cons_succ])) | (refine wpSched_skip (by rfl) ?_; try simp only [Act.put, List.setIfInBounds_toArray, List.set_cons_zero, List.set_cons_succ]))
              refine wpSched_run (fun K hK => ?_)
              go_wp2_with (go_at_call 74; refine (hri _).mono ?_; rintro e w3 ⟨rfl, hb3⟩)
              refine QRun_normal (hK.out _ _ ⟨fsm_below_cell hb3 s0, fsm_below_cell hb3 s1, fsm_below_cell hb3 s3⟩ ?_)
              clear hK K
              repeat (first | (refine' wpSched_take _ (by rfl) (fun wS hS => ?_) ?_; rotate_left; (focus (obtain ⟨s1, s2, s3⟩ := hS; go_simp; first | done | rfl)); (try simp only [Act.put, List.setIfInBounds_toArray, List.set_cons_zero, List.set_cons_succ])) | (refine wpSched_skip (by rfl) ?_; try simp only [Act.put, List.setIfInBounds_toArray, List.set_cons_zero, List.set_cons_succ]))
              refine wpSched_run (fun K hK => ?_)
              have hv3 := SeqAt.below (SeqAt.below hv1 (Below.refl _ _).drew) hb3
              go_wp2_with (go_at_call 75; refine (hfind _ hv3).mono ?_; rintro e w4 ⟨rfl, hb4⟩)
              refine QRun_normal (hK.out _ _ ⟨fsm_below_cell hb4 (fsm_below_cell hb3 s0), fsm_below_cell hb4 (fsm_below_cell hb3 s1), fsm_below_cell hb4 (fsm_below_cell hb3 s3)⟩ ?_)
              clear hK K
              repeat (first | (refine' wpSched_take _ (by rfl) (fun wS hS => ?_) ?_; rotate_left; (focus (obtain ⟨s1, s2, s3⟩ := hS; go_simp; first | done | rfl)); (try simp only [Act.put, List.setIfInBounds_toArray, List.set_cons_zero, List.set_cons_succ])) | (refine wpSched_skip (by rfl) ?_; try simp only [Act.put, List.setIfInBounds_toArray, List.set_cons_zero, List.set_cons_succ]))
              refine wpSched_done ?_
              have hb34 := seqB hb3 hb4
              have hh4 := below_of hb34 (show (World.drew _).heap[_]? = _ from hh6)
              have u0 : w4.cell? ⟨wr.heap.size, 0, none⟩ = some (.int .i64 x.1) := by simp [World.cell?, hh4]
              have u1 : w4.cell? ⟨wr.heap.size, 1, none⟩ = some (.string x.2) := by simp [World.cell?, hh4]
              have hO8 := ((hown8.below ((Below.refl _ _).alloc (Nat.le_refl _) (.cells #[.int .i64 x.1, .string x.2] 70))).below (Below.refl _ _).drew).below hb34
              have hO9 := ((hown9.below ((Below.refl _ _).alloc (Nat.le_refl _) (.cells #[.int .i64 x.1, .string x.2] 70))).below (Below.refl _ _).drew).below hb34
              have hB4 : Below W2.heap.size W2 w4 := seqB (drewB (allocB hbl _)) hb34
              clear hb3 hb4 hb34 hh4
              have hS4 : SideAt w4 p own := (hS.below hB4)
              have hl8 := hO8.lt
              have hl9 := hO9.lt
              go_wp2_with fail
              refine (hbet _ hS4).mono ?_
              rintro e w5 ⟨bk, bd, rfl, hbe, hb5⟩
              cases hbt : betterM own x with
              | none =>
                have HB9' : Hid (bettersTo own os (k + 1) = bettersTo own os k) := Lib.hid (by rw [HB9.out, hbt]; simp)
                have hO8' := (hO8.below hb5).below ((Below.refl _ _).alloc (Nat.le_refl _) (.cells #[.int .i64 bk, .string bd] 70))
                have hO9' := (hO9.below hb5).below ((Below.refl _ _).alloc (Nat.le_refl _) (.cells #[.int .i64 bk, .string bd] 70))
                have hB5 : Below W2.heap.size W2 (w5.alloc (.cells #[.int .i64 bk, .string bd] 70)) := allocB (seqB hB4 hb5) _
                clear hbe hb5 hO8 hO9 hB4
                go_wp2_with fail
                go_roundw
                case rel => exact ⟨k + 1, by omega, by go_num, by rw [HB8.out]; exact hO8', by rw [HB9'.out]; exact hO9', hap, hB5, HF⟩
                case measure => simp [intOf]; omega
              | some bx =>
                have hbx := hbe bx hbt
                have HB9' : Hid (bettersTo own os (k + 1) = bettersTo own os k ++ [(bk, bd)]) := Lib.hid (by rw [HB9.out, hbt, hbx]; rfl)
                have hO8' := (hO8.below hb5).below ((Below.refl _ _).alloc (Nat.le_refl _) (.cells #[.int .i64 bk, .string bd] 70))
                have hO9' := (hO9.below hb5).below ((Below.refl _ _).alloc (Nat.le_refl _) (.cells #[.int .i64 bk, .string bd] 70))
                have hB5 : Below W2.heap.size W2 (w5.alloc (.cells #[.int .i64 bk, .string bd] 70)) := allocB (seqB hB4 hb5) _
                have hl8' := hO8'.lt
                clear hbe hb5 hO8 hO9 hB4 hbx
                go_wp2_with (at_builtin; refine wpList_appO rfl _ _ rfl W2 _ _ bk bd 1 hO9' rfl _ rfl (by simp) (by omega) hB5 ?_; intro v' w6 hown6 hbl6 hon6 hat6)
                have hO8'' := hO8'.only hon6 (fun b hb e => hap b hb e)
                go_roundw
                case rel => exact ⟨k + 1, by omega, by go_num, by rw [HB8.out]; exact hO8'', by rw [HB9'.out]; exact hown6, (hap.symm.grow hat6 hl8').symm, hbl6, HF⟩
                case measure => simp [intOf]; omega
    · obtain rfl : k = n := by omega
      have hfin : os.any (fun o => !fitM o) = false := by
        have h := HFk.out
        rw [← HN.out, List.take_length] at h
        rw [List.any_eq_false]
        intro y hy
        rw [List.all_eq_true] at h
        rw [h y hy]; simp
      have HJ : Hid (judgeM own os = if badsTo own os os.length ≠ [] then (2, badsTo own os os.length, 0) else if bettersTo own os os.length ≠ [] then (1, bettersTo own os os.length, 0) else (0, os, 0)) := Lib.hid (by
        unfold judgeM; rw [if_neg (by rw [hfin, HMay.out]; simp)])
      have hBf : Below w.heap.size w wr := seqB hBW hbl
      have h8 := hown8.base (b' := w.heap.size) hBW.size
      have h9 := hown9.base (b' := w.heap.size) hBW.size
      rw [← HN.out] at h8 h9
      obtain ⟨B8, hB8⟩ : ∃ B8, badsTo own os os.length = B8 := ⟨_, rfl⟩
      obtain ⟨B9, hB9⟩ : ∃ B9, bettersTo own os os.length = B9 := ⟨_, rfl⟩
      rw [hB8] at h8
      rw [hB9] at h9
      have hJ := HJ.out
      rw [hB8, hB9] at hJ
      have hr8 := hown8
      have hr9 := hown9
      have e8 : badsTo own os k = B8 := by rw [← HN.out]; exact hB8
      have e9 : bettersTo own os k = B9 := by rw [← HN.out]; exact hB9
      rw [e8] at hr8
      rw [e9] at hr9
      obtain ⟨a8, c8, x8⟩ := OwnE.form hr8
      obtain ⟨a9, c9, x9⟩ := OwnE.form hr9
      have HJ2 := Lib.hid hJ
      clear hfin HJ hown8 hown9 hB8 hB9 hJ e8 e9 hr8 hr9
      subst x8 x9
      by_cases n8 : B8 = []
      · by_cases n9 : B9 = []
        · have HJ3 : Hid (judgeM own os = (0, os, 0)) := Lib.hid (by rw [HJ2.out, if_neg (by rw [n8]; simp), if_neg (by rw [n9]; simp)])
          subst n8 n9
          have hvf := SeqAt.below HV.out hbl
          have hL24 : (([] : List OptM).length + os.length) * 24 ≤ 140737488355328 := by rw [HN.out]; simp; omega
          rw [HN.out] at hvf
          clear HJ2 h8 h9
          go_wp2_with (at_builtin; refine wpList_appOs rfl _ _ rfl w _ _ [] os (OwnE.nil _ _ _) hvf rfl rfl hL24 hBf ?_; intro v' w6 hown6 hbl6 _ _)
          go_ret3
          exact ⟨v', by rw [HJ3.out]; rfl, by rw [HJ3.out]; simpa using hown6, hbl6⟩
        · have HJ3 : Hid (judgeM own os = (1, B9, 0)) := Lib.hid (by rw [HJ2.out, if_neg (by rw [n8]; simp), if_pos n9])
          have l9 : 0 < B9.length := List.length_pos_iff.2 n9
          subst n8
          clear HJ2 h8 n9
          go_wp2_with fail
          go_ret3
          exact ⟨_, by rw [HJ3.out]; rfl, by rw [HJ3.out]; exact h9, hBf⟩
      · have HJ3 : Hid (judgeM own os = (2, B8, 0)) := Lib.hid (by rw [HJ2.out, if_pos n8])
        have l8 : 0 < B8.length := List.length_pos_iff.2 n8
        clear HJ2 h9 n8
        go_wp2_with fail
        go_ret3
        exact ⟨_, by rw [HJ3.out]; rfl, by rw [HJ3.out]; exact h8, hBf⟩
end Go.Proofs.YtagnbdenecphcaaGreatDoor
/-! policy: Judge at nil; the reference's May. -/
namespace Go.Proofs.YtagnbdenecphcaaGreatDoor
open Go.RowKit
set_option linter.unusedVariables false
set_option maxRecDepth 100000 in
set_option maxHeartbeats 8000000 in
theorem pjudge_nil (own : LinkM) (w : World) (hm : mayM own = true) :
    Calls Tryz.prog 49 #[.agg (linkCells own), .slice none 0 0] w fun e w' => e = .returned (.tuple #[.int .i64 0, .slice none 0 0, .int .i64 0]) ∧ Below w.heap.size w w' := by
  have hmay := fun w => pmay_any own w
  rw [hm] at hmay
  clear hm
  have HLh := Lib.hid linkCells_eq
  rw [HLh.out] at hmay ⊢
  go_enter Tryz.func49, Tryz.ntmps49
  go_wp2_with fail
  refine (hmay _).mono ?_
  rintro e w1 ⟨rfl, hb1⟩
  have hh1 : w1.heap[w.heap.size]? = some (.cells (linkCells own) 23 (0, 0)) := below_of hb1 (by rw [HLh.out]; exact heap_alloc_last _ _)
  obtain ⟨c0, c1, c2, c3, c4, c5⟩ := link_cells hh1
  have hB1 : Below w.heap.size w w1 := seqB (allocB (Below.refl _ _) _) hb1
  clear hb1 hmay
  go_wp2_with fail
  have hBW : Below w.heap.size w (w1.alloc (.cells (linkCells own) 131)) := allocB hB1 _
  rw [HLh.out] at hBW
  obtain ⟨W2, hW2⟩ : ∃ W2, w1.alloc (.cells #[.int .i64 own.mru, .int .i64 own.magic, .int .i64 own.mrru, .bool own.short, .string own.disc, .int .i64 own.num] 131) = W2 := ⟨_, rfl⟩
  rw [hW2] at hBW ⊢
  clear hW2 hh1 c0 c1 c2 c3 c4 c5 hB1
  go_loopw [8, 9, 22] (fun b d i wr => i = .int .i64 0 ∧ b = .slice none 0 0 ∧ d = .slice none 0 0 ∧ W2 = wr) (fun _ _ _ _ => 0)
  case atStart => exact ⟨rfl, rfl, rfl, rfl⟩
  case round =>
    obtain ⟨rfl, rfl, rfl, rfl⟩ := hrel
    have hrun := fun (w : World) => run_append_owned_none (P := Tryz.prog) (w := w) w.heap.size 34 34 70
    clear hrun
    obtain ⟨i0, hi, hz0, hz1, hz2⟩ := info_of optE
    go_wp2_with (at_builtin; refine wpList_append_own_none rfl _ _ _ rfl W2.heap.size 70 i0 i0.size Tryz.underlying34 hi (.slice none 0 0) 0 [] rfl ⟨by simp, .inl ⟨rfl, rfl⟩⟩ rfl ?_)
    go_ret3
    exact ⟨rfl, hBW⟩
theorem pjudge_any (own : LinkM) (v : Value) (os : List OptM) (w : World) (hm : mayM own = true) (hv : OptsAt w v os) (hlen : os.length ≤ 1000000) :
    Calls Tryz.prog 49 #[.agg (linkCells own), v] w fun e w' => ∃ v, e = .returned (.tuple #[.int .i64 (judgeM own os).1, v, .int .i64 (judgeM own os).2.2]) ∧ OwnE optE w' w.heap.size v (judgeM own os).2.1 ∧ Below w.heap.size w w' := by
  rcases hv.or with ⟨rfl, rfl⟩ | ⟨g, o, c, rfl⟩
  · have HJ : judgeM own [] = (0, [], 0) := by unfold judgeM; rw [if_neg (by rw [hm]; simp)]; rfl
    rw [HJ]
    exact (pjudge_nil own w hm).mono fun e w' ⟨he, hb⟩ => ⟨.slice none 0 0, he, OwnE.nil _ _ _, hb⟩
  · exact pjudge_some own g o c os w hm hv hlen
theorem runit_any (x : Int) (w : World) : Calls Tryz.prog 59 #[.int .i64 x] w fun e w' => e = .returned (.bool (unitM x)) ∧ w = w' := by
  go_enter Tryz.func59, Tryz.ntmps59
  go_wp2_with fail
  all_goals
    go_ret
    refine ⟨?_, rfl⟩
    show Ending.returned (Value.bool _) = Ending.returned (Value.bool _)
    congr 2
    symm
    first
    | (rw [unitM_false]; omega)
    | (unfold unitM; simp; omega)
    | (rw [unitM_iff]; omega)
theorem rsize_any (x : Int) (w : World) : Calls Tryz.prog 37 #[.int .i64 x] w fun e w' => e = .returned (.bool (decide (x = 0) || unitM x)) ∧ w = w' := by
  by_cases h : x = 0
  · subst h
    go_enter Tryz.func37, Tryz.ntmps37
    go_wp2_with fail
    go_ret
    exact ⟨rfl, rfl⟩
  · have q : (x == 0) = false := beq_eq_false_iff_ne.2 h
    have HD : Hid ((decide (x = 0) || unitM x) = unitM x) := Lib.hid (by rw [decide_eq_false h]; rfl)
    clear h
    go_enter Tryz.func37, Tryz.ntmps37
    go_wp2_with (go_at_call 59; refine (runit_any _ _).mono ?_; rintro e w' ⟨rfl, rfl⟩)
    go_ret
    exact ⟨by rw [HD.out]; rfl, rfl⟩
set_option maxRecDepth 100000 in
set_option maxHeartbeats 4000000 in
theorem rmay_any (l : LinkM) (w : World) : Calls Tryz.prog 22 #[.agg (linkCells l)] w fun e w' => e = .returned (.bool (mayM l)) ∧ Below w.heap.size w w' := by
  have h1 := fun w => rsize_any l.mru w
  have h2 := fun w => rsize_any l.mrru w
  obtain ⟨b1, hb1⟩ : ∃ b, (decide (l.mru = 0) || unitM l.mru) = b := ⟨_, rfl⟩
  obtain ⟨b2, hb2⟩ : ∃ b, (decide (l.mrru = 0) || unitM l.mrru) = b := ⟨_, rfl⟩
  have HM : Hid (mayM l = (b1 && b2 && decide (0 ≤ l.magic) && decide (l.magic ≤ 4294967295) && decide (l.disc.size ≤ 20) && decide (0 ≤ l.num) && decide (l.num ≤ 65535))) := Lib.hid (by unfold mayM; rw [hb1, hb2])
  rw [hb1] at h1
  rw [hb2] at h2
  clear hb1 hb2
  unfold linkCells
  go_enter Tryz.func22, Tryz.ntmps22
  go_wp2_with (go_at_call 37; first | (refine (h1 _).mono ?_; rintro e w' ⟨rfl, rfl⟩) | (refine (h2 _).mono ?_; rintro e w' ⟨rfl, rfl⟩))
  all_goals
    go_ret
    refine ⟨?_, allocB (Below.refl _ _) _⟩
    rw [HM.out]
    show Ending.returned (Value.bool _) = Ending.returned (Value.bool _)
    congr 2
    symm
    have hd : ((l.disc.size : Int) ≤ 20) = (l.disc.size ≤ 20) := by simp only [eq_iff_iff]; omega
    have hd2 : ((20 : Int) < l.disc.size) = ¬ (l.disc.size ≤ 20) := by simp only [eq_iff_iff]; omega
    simp_all
    try omega
end Go.Proofs.YtagnbdenecphcaaGreatDoor
