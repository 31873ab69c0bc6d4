/- The reference's policy: Taken. -/
import Derived.Test.YtagnbdenecphcaaGreatDoorRd
import Derived.Test.YtagnbdenecphcaaGreatDoorRin
import Derived.Test.YtagnbdenecphcaaGreatDoorMe
namespace Go.Proofs.YtagnbdenecphcaaGreatDoor
open Go.RowKit
set_option linter.unusedVariables false
set_option linter.unusedSimpArgs false
theorem LinkAt.set {w : World} {p : Nat} {l : LinkM} (h : LinkAt w p l) (i : Nat) (x : Value) (l' : LinkM) (he : (linkCells l).setIfInBounds i x = linkCells l') : LinkAt (w.setCell ⟨p, i, none⟩ x) p l' := by
  have := heap_setCell_same w p i (linkCells l) 23 x h
  rw [he] at this
  exact this
theorem LinkAt.only {S : Nat → Prop} {w w' : World} {p : Nat} {l : LinkM} (h : LinkAt w p l) (ho : Only S w w') (hn : ¬ S p) : LinkAt w' p l := ho.heap h hn
theorem dupAt_succ (os : List OptM) (k : Nat) (o : OptM) (hk : k < os.length) : dupAt os (k + 1) o = (dupAt os k o || decide (os[k].1 = o.1)) := by
  unfold dupAt
  rw [List.take_add_one, List.getElem?_eq_getElem hk, Option.toList_some, List.any_append]
  simp
theorem dupAt_mono (os : List OptM) (k n : Nat) (o : OptM) (h : k ≤ n) (hd : dupAt os k o = true) : dupAt os n o = true := by
  unfold dupAt at *
  rw [List.any_eq_true] at *
  obtain ⟨q, hq, hq2⟩ := hd
  refine ⟨q, ?_, hq2⟩
  have : os.take k = (os.take n).take k := by rw [List.take_take, Nat.min_eq_left h]
  rw [this] at hq
  exact List.mem_of_mem_take hq
set_option maxRecDepth 100000 in
set_option maxHeartbeats 8000000 in
theorem rtaken_nil (a : Option Addr) (c : Nat) (w : World) :
    Calls Tryz.prog 44 #[.slice a 0 c] w fun e w' => e = .returned (.tuple #[.agg (linkCells (takenM []).1), .int .i64 (takenM []).2]) ∧ Below w.heap.size w w' := by
  obtain ⟨os, hos⟩ : ∃ os : List OptM, os = [] := ⟨_, rfl⟩
  rw [← hos]
  have HLh := Lib.hid linkCells_eq
  go_enter Tryz.func44, Tryz.ntmps44
  go_wp2_with fail
  have hzz : ((w.alloc (.cells (linkCells linkZ) 23)).alloc (.cells (linkCells linkZ) 23)).heap[w.heap.size]? = some (.cells (linkCells linkZ) 23 (0, 0)) := heap_first2 _ _ _
  have hS : LinkAt ((w.alloc (.cells (linkCells linkZ) 23)).alloc (.cells (linkCells linkZ) 23)) (w.heap.size + 1) linkZ := by
    unfold LinkAt
    simpa using heap_alloc_last (w.alloc (.cells (linkCells linkZ) 23)) (.cells (linkCells linkZ) 23)
  have hBW : Below w.heap.size w ((w.alloc (.cells (linkCells linkZ) 23)).alloc (.cells (linkCells linkZ) 23)) := allocB (allocB (Below.refl _ _) _) _
  rw [zero_cells] at hzz hS hBW
  obtain ⟨W2, hW2⟩ : ∃ W2, (w.alloc (.cells #[.int .i64 0, .int .i64 0, .int .i64 0, .bool false, .string ⟨#[]⟩, .int .i64 0] 23)).alloc (.cells #[.int .i64 0, .int .i64 0, .int .i64 0, .bool false, .string ⟨#[]⟩, .int .i64 0] 23) = W2 := ⟨_, rfl⟩
  rw [hW2] at hzz hS hBW ⊢
  clear hW2
  have hlt2 : w.heap.size < W2.heap.size := (Array.getElem?_eq_some_iff.1 hzz).1
  go_loopw [5] (fun i wr => i = .int .i64 0 ∧ wr = W2) (fun _ _ => 0)
  case atStart => exact ⟨rfl, rfl⟩
  case round =>
    obtain ⟨rfl, rfl⟩ := hrel
    obtain ⟨q, hq⟩ : ∃ q, os.foldl setM linkZ = q := ⟨_, rfl⟩
    have hend : LinkAt wr (w.heap.size + 1) q := by rw [← hq, hos]; exact hS
    have HBk : Hid (takenBad os os.length = false) := Lib.hid (by rw [hos]; rfl)
    have HQ := Lib.hid hq
    have hz2 := hzz
    have hBf := hBW
    clear hS hzz hBW hq hos
    obtain ⟨c0, c1, c2, c3, c4, c5⟩ := link_cells hend
    have hmay := fun w => rmay_any q w
    rw [HLh.out] at hmay
    cases hm : mayM q with
    | false =>
      rw [hm] at hmay
      have HT : Hid (takenM os = (linkZ, 1400)) := Lib.hid (by unfold takenM; rw [if_pos (.inr (by rw [HQ.out]; exact hm))])
      clear hm
      go_wp2_with fail
      refine (hmay _).mono ?_
      rintro e w4 ⟨rfl, hb4⟩
      have hz4 := below_of hb4 hz2
      have hB4 := seqB hBf hb4
      clear hb4 hz2 hBf hend c0 c1 c2 c3 c4 c5
      have z0 : w4.cell? ⟨w.heap.size, 0, none⟩ = some (.int .i64 0) := by simp [World.cell?, hz4]
      have z1 : w4.cell? ⟨w.heap.size, 1, none⟩ = some (.int .i64 0) := by simp [World.cell?, hz4]
      have z2 : w4.cell? ⟨w.heap.size, 2, none⟩ = some (.int .i64 0) := by simp [World.cell?, hz4]
      have z3 : w4.cell? ⟨w.heap.size, 3, none⟩ = some (.bool false) := by simp [World.cell?, hz4]
      have z4 : w4.cell? ⟨w.heap.size, 4, none⟩ = some (.string ⟨#[]⟩) := by simp [World.cell?, hz4]
      have z5 : w4.cell? ⟨w.heap.size, 5, none⟩ = some (.int .i64 0) := by simp [World.cell?, hz4]
      have f0 : w4.frozen? ⟨w.heap.size, 0, none⟩ = false := by simp [World.frozen?, hz4]
      have f1 : w4.frozen? ⟨w.heap.size, 1, none⟩ = false := by simp [World.frozen?, hz4]
      have f2 : w4.frozen? ⟨w.heap.size, 2, none⟩ = false := by simp [World.frozen?, hz4]
      have f3 : w4.frozen? ⟨w.heap.size, 3, none⟩ = false := by simp [World.frozen?, hz4]
      have f4 : w4.frozen? ⟨w.heap.size, 4, none⟩ = false := by simp [World.frozen?, hz4]
      have f5 : w4.frozen? ⟨w.heap.size, 5, none⟩ = false := by simp [World.frozen?, hz4]
      obtain ⟨k0, k1, k2, k3, k4, k5⟩ := link_after_cells hz4 (.int .i64 0) (.int .i64 0) (.int .i64 0) (.bool false) (.string ⟨#[]⟩) (.int .i64 0) _ rfl
      have hBl := below6 (B := w.heap.size) hB4 (Nat.le_refl _) (.int .i64 0) (.int .i64 0) (.int .i64 0) (.bool false) (.string ⟨#[]⟩) (.int .i64 0)
      go_wp2_with fail
      refine bodyPost_ret (v := .tuple #[.agg #[.int .i64 0, .int .i64 0, .int .i64 0, .bool false, .string ⟨#[]⟩, .int .i64 0], .int .i64 1400]) (by simp [results, Tryz.results44, go_sem, k0, k1, k2, k3, k4, k5]) rfl ⟨?_, hBl⟩
      rw [HT.out]
      rfl
    | true =>
      rw [hm] at hmay
      have HT : Hid (takenM os = (q, 0)) := Lib.hid (by unfold takenM; rw [if_neg (by rw [HQ.out, HBk.out, hm]; simp), HQ.out])
      clear hm
      go_wp2_with fail
      refine (hmay _).mono ?_
      rintro e w4 ⟨rfl, hb4⟩
      have hend4 := hend.below hb4
      obtain ⟨e0, e1, e2, e3, e4, e5⟩ := link_cells hend4
      have hz4 := below_of hb4 hz2
      have hB4 := seqB hBf hb4
      clear hb4 hz2 hBf hend hend4 c0 c1 c2 c3 c4 c5
      have z0 : w4.cell? ⟨w.heap.size, 0, none⟩ = some (.int .i64 0) := by simp [World.cell?, hz4]
      have z1 : w4.cell? ⟨w.heap.size, 1, none⟩ = some (.int .i64 0) := by simp [World.cell?, hz4]
      have z2 : w4.cell? ⟨w.heap.size, 2, none⟩ = some (.int .i64 0) := by simp [World.cell?, hz4]
      have z3 : w4.cell? ⟨w.heap.size, 3, none⟩ = some (.bool false) := by simp [World.cell?, hz4]
      have z4 : w4.cell? ⟨w.heap.size, 4, none⟩ = some (.string ⟨#[]⟩) := by simp [World.cell?, hz4]
      have z5 : w4.cell? ⟨w.heap.size, 5, none⟩ = some (.int .i64 0) := by simp [World.cell?, hz4]
      have f0 : w4.frozen? ⟨w.heap.size, 0, none⟩ = false := by simp [World.frozen?, hz4]
      have f1 : w4.frozen? ⟨w.heap.size, 1, none⟩ = false := by simp [World.frozen?, hz4]
      have f2 : w4.frozen? ⟨w.heap.size, 2, none⟩ = false := by simp [World.frozen?, hz4]
      have f3 : w4.frozen? ⟨w.heap.size, 3, none⟩ = false := by simp [World.frozen?, hz4]
      have f4 : w4.frozen? ⟨w.heap.size, 4, none⟩ = false := by simp [World.frozen?, hz4]
      have f5 : w4.frozen? ⟨w.heap.size, 5, none⟩ = false := by simp [World.frozen?, hz4]
      obtain ⟨k0, k1, k2, k3, k4, k5⟩ := link_after_cells hz4 (.int .i64 q.mru) (.int .i64 q.magic) (.int .i64 q.mrru) (.bool q.short) (.string q.disc) (.int .i64 q.num) _ rfl
      have hBl := below6 (B := w.heap.size) hB4 (Nat.le_refl _) (.int .i64 q.mru) (.int .i64 q.magic) (.int .i64 q.mrru) (.bool q.short) (.string q.disc) (.int .i64 q.num)
      go_wp2_with fail
      refine bodyPost_ret (v := .tuple #[.agg #[.int .i64 q.mru, .int .i64 q.magic, .int .i64 q.mrru, .bool q.short, .string q.disc, .int .i64 q.num], .int .i64 0]) (by simp [results, Tryz.results44, go_sem, k0, k1, k2, k3, k4, k5]) rfl ⟨?_, hBl⟩
      rw [HT.out, HLh.out]
set_option maxRecDepth 100000 in
set_option maxHeartbeats 16000000 in
theorem rtaken_some (g o c : Nat) (os : List OptM) (w : World) (hv : OptsAt w (.slice (some ⟨g, o, none⟩) os.length c) os) :
    Calls Tryz.prog 44 #[.slice (some ⟨g, o, none⟩) os.length c] w fun e w' => e = .returned (.tuple #[.agg (linkCells (takenM os).1), .int .i64 (takenM os).2]) ∧ Below w.heap.size w w' := by
  have hn := SeqAt.le hv
  have hgl : g < w.heap.size := SeqAt.lt hv g rfl
  have HLh := Lib.hid linkCells_eq
  go_enter Tryz.func44, Tryz.ntmps44
  go_wp2_with fail
  have hzz : ((w.alloc (.cells (linkCells linkZ) 23)).alloc (.cells (linkCells linkZ) 23)).heap[w.heap.size]? = some (.cells (linkCells linkZ) 23 (0, 0)) := heap_first2 _ _ _
  have hS : LinkAt ((w.alloc (.cells (linkCells linkZ) 23)).alloc (.cells (linkCells linkZ) 23)) (w.heap.size + 1) linkZ := by
    unfold LinkAt
    simpa using heap_alloc_last (w.alloc (.cells (linkCells linkZ) 23)) (.cells (linkCells linkZ) 23)
  have hBW : Below w.heap.size w ((w.alloc (.cells (linkCells linkZ) 23)).alloc (.cells (linkCells linkZ) 23)) := allocB (allocB (Below.refl _ _) _) _
  rw [zero_cells] at hzz hS hBW
  obtain ⟨W2, hW2⟩ : ∃ W2, (w.alloc (.cells #[.int .i64 0, .int .i64 0, .int .i64 0, .bool false, .string ⟨#[]⟩, .int .i64 0] 23)).alloc (.cells #[.int .i64 0, .int .i64 0, .int .i64 0, .bool false, .string ⟨#[]⟩, .int .i64 0] 23) = W2 := ⟨_, rfl⟩
  rw [hW2] at hzz hS hBW ⊢
  clear hW2
  have hlt2 : w.heap.size < W2.heap.size := (Array.getElem?_eq_some_iff.1 hzz).1
  obtain ⟨-, hcl, hcm, hcell⟩ := (hv.below hBW).cells
  obtain ⟨n, hnn⟩ : ∃ n, os.length = n := ⟨_, rfl⟩
  have HN := Lib.hid hnn
  have HC := Lib.hid hcell
  have hcn : c ≤ 9223372036854775807 := by unfold maxLen at hcm; omega
  rw [hnn] at hn hcl ⊢
  clear hnn hcell hv hcm
  go_loopw [5] (fun i wr => ∃ k : Nat, k ≤ n ∧ i = .int .i64 k ∧ LinkAt wr (w.heap.size + 1) ((os.take k).foldl setM linkZ) ∧ Only (· = w.heap.size + 1) W2 wr ∧ Hid (takenBad os k = false)) (fun i _ => n - (intOf i).toNat)
  case atStart => exact ⟨0, Nat.zero_le _, rfl, hS, Only.refl _ _, Lib.hid rfl⟩
  case round =>
    obtain ⟨k, hk, rfl, hSr, hOr, HBk⟩ := hrel
    by_cases hlt : k < n
    · have hkl : k < os.length := by rw [HN.out]; exact hlt
      obtain ⟨d1, d2⟩ := HC.out k hkl
      replace d1 := hOr.cell d1 (show ¬ (g = w.heap.size + 1) by omega)
      replace d2 := hOr.cell d2 (show ¬ (g = w.heap.size + 1) by omega)
      have hst := setTo_succ linkZ os k hkl
      have hbs := takenBad_succ os k hkl
      have hmn := takenBad_mono os (k + 1) os.length (by omega)
      rw [HBk.out, Bool.false_or] at hbs
      have hz1 := hOr.heap hzz (show ¬ (w.heap.size = w.heap.size + 1) by omega)
      have hB1 : Below w.heap.size w wr := hBW.trans (hOr.below (B := w.heap.size) hBW.size (fun k hk => by subst hk; omega))
      obtain ⟨x, hx⟩ : ∃ x, os[k] = x := ⟨_, rfl⟩
      rw [hx] at d1 d2 hst hbs
      obtain ⟨acc, hacc⟩ : ∃ acc, (os.take k).foldl setM linkZ = acc := ⟨_, rfl⟩
      rw [hacc] at hSr hst
      have hri := fun w => rright_any x w
      clear hx hacc hS
      cases hr : rightM x with
      | false =>
        rw [hr] at hri
        have HT : Hid (takenM os = (linkZ, 1400)) := Lib.hid (by unfold takenM; rw [if_pos (.inl (hmn (by rw [hbs, hr]; rfl)))])
        clear hst hr hbs hmn hzz
        go_wp2_with fail
        refine (hri _).mono ?_
        rintro e w3 ⟨rfl, hb3⟩
        have hz3 := below_of hb3 hz1
        have hB3 := seqB hB1 hb3
        clear hb3 hz1 hB1
        have z0 : w3.cell? ⟨w.heap.size, 0, none⟩ = some (.int .i64 0) := by simp [World.cell?, hz3]
        have z1 : w3.cell? ⟨w.heap.size, 1, none⟩ = some (.int .i64 0) := by simp [World.cell?, hz3]
        have z2 : w3.cell? ⟨w.heap.size, 2, none⟩ = some (.int .i64 0) := by simp [World.cell?, hz3]
        have z3 : w3.cell? ⟨w.heap.size, 3, none⟩ = some (.bool false) := by simp [World.cell?, hz3]
        have z4 : w3.cell? ⟨w.heap.size, 4, none⟩ = some (.string ⟨#[]⟩) := by simp [World.cell?, hz3]
        have z5 : w3.cell? ⟨w.heap.size, 5, none⟩ = some (.int .i64 0) := by simp [World.cell?, hz3]
        have f0 : w3.frozen? ⟨w.heap.size, 0, none⟩ = false := by simp [World.frozen?, hz3]
        have f1 : w3.frozen? ⟨w.heap.size, 1, none⟩ = false := by simp [World.frozen?, hz3]
        have f2 : w3.frozen? ⟨w.heap.size, 2, none⟩ = false := by simp [World.frozen?, hz3]
        have f3 : w3.frozen? ⟨w.heap.size, 3, none⟩ = false := by simp [World.frozen?, hz3]
        have f4 : w3.frozen? ⟨w.heap.size, 4, none⟩ = false := by simp [World.frozen?, hz3]
        have f5 : w3.frozen? ⟨w.heap.size, 5, none⟩ = false := by simp [World.frozen?, hz3]
        obtain ⟨k0, k1, k2, k3, k4, k5⟩ := link_after_cells hz3 (.int .i64 0) (.int .i64 0) (.int .i64 0) (.bool false) (.string ⟨#[]⟩) (.int .i64 0) _ rfl
        have hBl := below6 (B := w.heap.size) hB3 (Nat.le_refl _) (.int .i64 0) (.int .i64 0) (.int .i64 0) (.bool false) (.string ⟨#[]⟩) (.int .i64 0)
        go_wp2_with fail
        refine bodyPost_ret (v := .tuple #[.agg #[.int .i64 0, .int .i64 0, .int .i64 0, .bool false, .string ⟨#[]⟩, .int .i64 0], .int .i64 1400]) (by simp [results, Tryz.results44, go_sem, k0, k1, k2, k3, k4, k5]) rfl ⟨?_, hBl⟩
        rw [HT.out]
        rfl
      | true =>
        rw [hr] at hri
        rw [hr, Bool.not_true, Bool.false_or] at hbs
        have hkk := right_six hr
        clear hr
        go_wp2_with fail
        refine (hri _).mono ?_
        rintro e w3 ⟨rfl, hb3⟩
        have hz3 := below_of hb3 hz1
        have hB3 := seqB hB1 hb3
        have hS3 := hSr.below hb3
        have hO3 := hOr.then hb3
        have d31 := fsm_below_cell hb3 d1
        have d32 := fsm_below_cell hb3 d2
        have hl3 : w.heap.size + 1 < w3.heap.size := by have := hS3; unfold LinkAt at this; exact (Array.getElem?_eq_some_iff.1 this).1
        clear hb3 hz1 hB1 hSr hOr d1 d2 hzz
        have HBS := Lib.hid hbs
        have HMN := Lib.hid hmn
        have HST := Lib.hid hst
        clear hbs hmn hst
        go_wp2_with fail
        go_loopw [6] (fun i wi => ∃ j : Nat, j ≤ k ∧ i = .int .i64 j ∧ Below w3.heap.size w3 wi ∧ Hid (dupAt os j x = false)) (fun i _ => k - (intOf i).toNat)
        case atStart => exact ⟨0, Nat.zero_le _, rfl, Below.refl _ _, Lib.hid rfl⟩
        case round =>
          obtain ⟨j, hj, rfl, hbj, HD⟩ := hrel
          have hcj := fun {a : Addr} {v : Value} (h : w3.cell? a = some v) => fsm_below_cell hbj h
          have e31 := hcj d31
          have e32 := hcj d32
          by_cases hjk : j < k
          · have hjl : j < os.length := by omega
            have hjn : j < n := by omega
            obtain ⟨y1, y2⟩ := HC.out j hjl
            have z1 := hcj (hO3.cell y1 (show ¬ (g = w.heap.size + 1) by omega))
            have hds := dupAt_succ os j x hjl
            rw [HD.out, Bool.false_or] at hds
            obtain ⟨y, hy⟩ : ∃ y, os[j] = y := ⟨_, rfl⟩
            rw [hy] at z1 hds y1 y2
            by_cases heq : y.1 = x.1
            · have HT : Hid (takenM os = (linkZ, 1400)) := Lib.hid (by
                unfold takenM
                rw [if_pos (.inl (HMN.out (by rw [HBS.out]; exact dupAt_mono os (j + 1) k x (by omega) (by rw [hds]; simp [heq]))))])
              rw [heq] at z1
              have hz5 := below_of hbj hz3
              have hB5 := seqB hB3 hbj
              clear hds hy y1 y2 heq hcj
              go_wp2_with fail
              refine wp_schedL (fun w' => w'.cell? ⟨g, o + j * 2, none⟩ = some (.int .i64 x.1) ∧ w'.cell? ⟨g, o + k * 2, none⟩ = some (.int .i64 x.1)) [(0, true), (1, true), (2, true), (3, true), (4, true), (5, true), (6, true), (7, true), (8, true), (9, true), (10, true)] (by kernel_rfl) (by kernel_rfl) rfl (by kernel_rfl) (by kernel_rfl) ⟨z1, e31⟩ (fun _ d _ _ _ h => by cases d <;> exact h) ?_
              simp only [schedOps, List.filterMap_cons, List.filterMap_nil, List.getElem?_toArray, List.getElem?_cons_zero, List.getElem?_cons_succ, Option.map_some]
              repeat (first | (refine' wpSched_take _ (by rfl) (fun wS hS => ?_) ?_; rotate_left; (focus (obtain ⟨s1, s2⟩ := hS; go_simp; first | done | rfl)); (try simp only [Act.put, List.setIfInBounds_toArray, List.set_cons_zero, List.set_cons_succ])) | (refine wpSched_skip (by rfl) ?_; try simp only [Act.put, List.setIfInBounds_toArray, List.set_cons_zero, List.set_cons_succ]))
              refine wpSched_done ?_
              have hz6 : wr.drew.heap[w.heap.size]? = _ := hz5
              have hB6 := drewB hB5
              obtain ⟨wd, hwd⟩ : ∃ wd, wr.drew = wd := ⟨_, rfl⟩
              rw [hwd] at hz6 hB6 ⊢
              clear hwd hz5 hB5
              have z0 : wd.cell? ⟨w.heap.size, 0, none⟩ = some (.int .i64 0) := by simp [World.cell?, hz6]
              have z1 : wd.cell? ⟨w.heap.size, 1, none⟩ = some (.int .i64 0) := by simp [World.cell?, hz6]
              have z2 : wd.cell? ⟨w.heap.size, 2, none⟩ = some (.int .i64 0) := by simp [World.cell?, hz6]
              have z3 : wd.cell? ⟨w.heap.size, 3, none⟩ = some (.bool false) := by simp [World.cell?, hz6]
              have z4 : wd.cell? ⟨w.heap.size, 4, none⟩ = some (.string ⟨#[]⟩) := by simp [World.cell?, hz6]
              have z5 : wd.cell? ⟨w.heap.size, 5, none⟩ = some (.int .i64 0) := by simp [World.cell?, hz6]
              have f0 : wd.frozen? ⟨w.heap.size, 0, none⟩ = false := by simp [World.frozen?, hz6]
              have f1 : wd.frozen? ⟨w.heap.size, 1, none⟩ = false := by simp [World.frozen?, hz6]
              have f2 : wd.frozen? ⟨w.heap.size, 2, none⟩ = false := by simp [World.frozen?, hz6]
              have f3 : wd.frozen? ⟨w.heap.size, 3, none⟩ = false := by simp [World.frozen?, hz6]
              have f4 : wd.frozen? ⟨w.heap.size, 4, none⟩ = false := by simp [World.frozen?, hz6]
              have f5 : wd.frozen? ⟨w.heap.size, 5, none⟩ = false := by simp [World.frozen?, hz6]
              obtain ⟨k0, k1, k2, k3, k4, k5⟩ := link_after_cells hz6 (.int .i64 0) (.int .i64 0) (.int .i64 0) (.bool false) (.string ⟨#[]⟩) (.int .i64 0) _ rfl
              have hBl := below6 (B := w.heap.size) hB6 (Nat.le_refl _) (.int .i64 0) (.int .i64 0) (.int .i64 0) (.bool false) (.string ⟨#[]⟩) (.int .i64 0)
              go_wp2_with fail
              refine bodyPost_ret (v := .tuple #[.agg #[.int .i64 0, .int .i64 0, .int .i64 0, .bool false, .string ⟨#[]⟩, .int .i64 0], .int .i64 1400]) (by simp [results, Tryz.results44, go_sem, k0, k1, k2, k3, k4, k5]) rfl ⟨?_, hBl⟩
              rw [HT.out]
              rfl
            · have HD2 : Hid (dupAt os (j + 1) x = false) := Lib.hid (by rw [hds]; simp [heq])
              have hq : (y.1 == x.1) = false := beq_eq_false_iff_ne.2 heq
              clear hds hy y1 y2 heq hcj
              go_wp2_with fail
              refine wp_schedL (fun w' => w'.cell? ⟨g, o + j * 2, none⟩ = some (.int .i64 y.1) ∧ w'.cell? ⟨g, o + k * 2, none⟩ = some (.int .i64 x.1)) [(0, true), (1, true), (2, true), (3, true), (4, true), (5, true), (6, true), (7, true), (8, true), (9, true), (10, true)] (by kernel_rfl) (by kernel_rfl) rfl (by kernel_rfl) (by kernel_rfl) ⟨z1, e31⟩ (fun _ d _ _ _ h => by cases d <;> exact h) ?_
              simp only [schedOps, List.filterMap_cons, List.filterMap_nil, List.getElem?_toArray, List.getElem?_cons_zero, List.getElem?_cons_succ, Option.map_some]
              repeat (first | (refine' wpSched_take _ (by rfl) (fun wS hS => ?_) ?_; rotate_left; (focus (obtain ⟨s1, s2⟩ := hS; go_simp; first | done | rfl)); (try simp only [Act.put, List.setIfInBounds_toArray, List.set_cons_zero, List.set_cons_succ])) | (refine wpSched_skip (by rfl) ?_; try simp only [Act.put, List.setIfInBounds_toArray, List.set_cons_zero, List.set_cons_succ]))
              refine wpSched_done ?_
              go_wp2_with fail
              go_roundw
              case rel => exact ⟨j + 1, by omega, by go_num, drewB hbj, HD2⟩
              case measure => simp [intOf]; omega
          · obtain rfl : j = k := by omega
            have HB2 : Hid (takenBad os (j + 1) = false) := Lib.hid (by rw [HBS.out]; exact HD.out)
            have hval := fun w => rnumber_any x.2 w (by omega)
            have hS5 := hS3.below hbj
            have hO5 := hO3.then hbj
            have f5 := hS5.frozen
            obtain ⟨c0, c1, c2, c3, c4, c5⟩ := link_cells hS5
            obtain ⟨v, hvv⟩ : ∃ v, valueM x.2.data.toList = v := ⟨_, rfl⟩
            rw [hvv] at hval
            have HVV := Lib.hid hvv
            obtain ⟨hk6, -⟩ := hkk
            obtain ⟨xk, xd⟩ := x
            dsimp only at *
            clear hcj d31 d32 hS3 hO3 hz3 hB3 hbj hvv
            rcases hk6 with rfl | rfl | rfl | rfl | rfl | rfl
            · have fr := f5 0
              have hSN := hS5.set 0 (.int .i64 v) (setM acc (1, xd)) (by simp [linkCells, setM, putF, HVV.out])
              have hON := hO5.set (a := ⟨w.heap.size + 1, 0, none⟩) (.inl rfl) (.int .i64 v)
              clear hS5 hO5
              go_wp2_with fail
              refine (hval _).mono ?_
              rintro e w6 ⟨rfl, rfl⟩
              go_wp2_with fail
              go_roundw
              case rel => exact ⟨j + 1, by omega, by go_num, by rw [HST.out]; exact hSN, hON, HB2⟩
              case measure => simp [intOf]; omega
            · have fr := f5 1
              have hSN := hS5.set 1 (.int .i64 v) (setM acc (5, xd)) (by simp [linkCells, setM, putF, HVV.out])
              have hON := hO5.set (a := ⟨w.heap.size + 1, 1, none⟩) (.inl rfl) (.int .i64 v)
              clear hS5 hO5
              go_wp2_with fail
              refine (hval _).mono ?_
              rintro e w6 ⟨rfl, rfl⟩
              go_wp2_with fail
              go_roundw
              case rel => exact ⟨j + 1, by omega, by go_num, by rw [HST.out]; exact hSN, hON, HB2⟩
              case measure => simp [intOf]; omega
            · have fr := f5 2
              have hSN := hS5.set 2 (.int .i64 v) (setM acc (17, xd)) (by simp [linkCells, setM, putF, HVV.out])
              have hON := hO5.set (a := ⟨w.heap.size + 1, 2, none⟩) (.inl rfl) (.int .i64 v)
              clear hS5 hO5
              go_wp2_with fail
              refine (hval _).mono ?_
              rintro e w6 ⟨rfl, rfl⟩
              go_wp2_with fail
              go_roundw
              case rel => exact ⟨j + 1, by omega, by go_num, by rw [HST.out]; exact hSN, hON, HB2⟩
              case measure => simp [intOf]; omega
            · have fr := f5 3
              have hSN := hS5.set 3 (.bool true) (setM acc (18, xd)) (by simp [linkCells, setM, putF, HVV.out])
              have hON := hO5.set (a := ⟨w.heap.size + 1, 3, none⟩) (.inl rfl) (.bool true)
              clear hS5 hO5
              go_wp2_with fail
              refine (hval _).mono ?_
              rintro e w6 ⟨rfl, rfl⟩
              go_wp2_with fail
              go_roundw
              case rel => exact ⟨j + 1, by omega, by go_num, by rw [HST.out]; exact hSN, hON, HB2⟩
              case measure => simp [intOf]; omega
            · have fr := f5 4
              have hSN := hS5.set 4 (.string xd) (setM acc (19, xd)) (by simp [linkCells, setM, putF, HVV.out])
              have hON := hO5.set (a := ⟨w.heap.size + 1, 4, none⟩) (.inl rfl) (.string xd)
              clear hS5 hO5
              go_wp2_with fail
              refine (hval _).mono ?_
              rintro e w6 ⟨rfl, rfl⟩
              go_wp2_with fail
              go_roundw
              case rel => exact ⟨j + 1, by omega, by go_num, by rw [HST.out]; exact hSN, hON, HB2⟩
              case measure => simp [intOf]; omega
            · have fr := f5 5
              have hSN := hS5.set 5 (.int .i64 v) (setM acc (23, xd)) (by simp [linkCells, setM, putF, HVV.out])
              have hON := hO5.set (a := ⟨w.heap.size + 1, 5, none⟩) (.inl rfl) (.int .i64 v)
              clear hS5 hO5
              go_wp2_with fail
              refine (hval _).mono ?_
              rintro e w6 ⟨rfl, rfl⟩
              go_wp2_with fail
              go_roundw
              case rel => exact ⟨j + 1, by omega, by go_num, by rw [HST.out]; exact hSN, hON, HB2⟩
              case measure => simp [intOf]; omega
    · obtain rfl : k = n := by omega
      have hend := hSr
      rw [← HN.out, List.take_length] at hend
      rw [← HN.out] at HBk
      have hz2 := hOr.heap hzz (by omega)
      have hBf : Below w.heap.size w wr := hBW.trans (hOr.below (B := w.heap.size) hBW.size (fun k hk => by subst hk; omega))
      obtain ⟨q, hq⟩ : ∃ q, os.foldl setM linkZ = q := ⟨_, rfl⟩
      rw [hq] at hend
      have HQ := Lib.hid hq
      clear hSr hOr hS hzz hq
      obtain ⟨c0, c1, c2, c3, c4, c5⟩ := link_cells hend
      have hmay := fun w => rmay_any q w
      rw [HLh.out] at hmay
      cases hm : mayM q with
      | false =>
        rw [hm] at hmay
        have HT : Hid (takenM os = (linkZ, 1400)) := Lib.hid (by unfold takenM; rw [if_pos (.inr (by rw [HQ.out]; exact hm))])
        clear hm
        go_wp2_with fail
        refine (hmay _).mono ?_
        rintro e w4 ⟨rfl, hb4⟩
        have hz4 := below_of hb4 hz2
        have hB4 := seqB hBf hb4
        clear hb4 hz2 hBf hend c0 c1 c2 c3 c4 c5
        have z0 : w4.cell? ⟨w.heap.size, 0, none⟩ = some (.int .i64 0) := by simp [World.cell?, hz4]
        have z1 : w4.cell? ⟨w.heap.size, 1, none⟩ = some (.int .i64 0) := by simp [World.cell?, hz4]
        have z2 : w4.cell? ⟨w.heap.size, 2, none⟩ = some (.int .i64 0) := by simp [World.cell?, hz4]
        have z3 : w4.cell? ⟨w.heap.size, 3, none⟩ = some (.bool false) := by simp [World.cell?, hz4]
        have z4 : w4.cell? ⟨w.heap.size, 4, none⟩ = some (.string ⟨#[]⟩) := by simp [World.cell?, hz4]
        have z5 : w4.cell? ⟨w.heap.size, 5, none⟩ = some (.int .i64 0) := by simp [World.cell?, hz4]
        have f0 : w4.frozen? ⟨w.heap.size, 0, none⟩ = false := by simp [World.frozen?, hz4]
        have f1 : w4.frozen? ⟨w.heap.size, 1, none⟩ = false := by simp [World.frozen?, hz4]
        have f2 : w4.frozen? ⟨w.heap.size, 2, none⟩ = false := by simp [World.frozen?, hz4]
        have f3 : w4.frozen? ⟨w.heap.size, 3, none⟩ = false := by simp [World.frozen?, hz4]
        have f4 : w4.frozen? ⟨w.heap.size, 4, none⟩ = false := by simp [World.frozen?, hz4]
        have f5 : w4.frozen? ⟨w.heap.size, 5, none⟩ = false := by simp [World.frozen?, hz4]
        obtain ⟨k0, k1, k2, k3, k4, k5⟩ := link_after_cells hz4 (.int .i64 0) (.int .i64 0) (.int .i64 0) (.bool false) (.string ⟨#[]⟩) (.int .i64 0) _ rfl
        have hBl := below6 (B := w.heap.size) hB4 (Nat.le_refl _) (.int .i64 0) (.int .i64 0) (.int .i64 0) (.bool false) (.string ⟨#[]⟩) (.int .i64 0)
        go_wp2_with fail
        refine bodyPost_ret (v := .tuple #[.agg #[.int .i64 0, .int .i64 0, .int .i64 0, .bool false, .string ⟨#[]⟩, .int .i64 0], .int .i64 1400]) (by simp [results, Tryz.results44, go_sem, k0, k1, k2, k3, k4, k5]) rfl ⟨?_, hBl⟩
        rw [HT.out]
        rfl
      | true =>
        rw [hm] at hmay
        have HT : Hid (takenM os = (q, 0)) := Lib.hid (by unfold takenM; rw [if_neg (by rw [HQ.out, HBk.out, hm]; simp), HQ.out])
        clear hm
        go_wp2_with fail
        refine (hmay _).mono ?_
        rintro e w4 ⟨rfl, hb4⟩
        have hend4 := hend.below hb4
        obtain ⟨e0, e1, e2, e3, e4, e5⟩ := link_cells hend4
        have hz4 := below_of hb4 hz2
        have hB4 := seqB hBf hb4
        clear hb4 hz2 hBf hend hend4 c0 c1 c2 c3 c4 c5
        have z0 : w4.cell? ⟨w.heap.size, 0, none⟩ = some (.int .i64 0) := by simp [World.cell?, hz4]
        have z1 : w4.cell? ⟨w.heap.size, 1, none⟩ = some (.int .i64 0) := by simp [World.cell?, hz4]
        have z2 : w4.cell? ⟨w.heap.size, 2, none⟩ = some (.int .i64 0) := by simp [World.cell?, hz4]
        have z3 : w4.cell? ⟨w.heap.size, 3, none⟩ = some (.bool false) := by simp [World.cell?, hz4]
        have z4 : w4.cell? ⟨w.heap.size, 4, none⟩ = some (.string ⟨#[]⟩) := by simp [World.cell?, hz4]
        have z5 : w4.cell? ⟨w.heap.size, 5, none⟩ = some (.int .i64 0) := by simp [World.cell?, hz4]
        have f0 : w4.frozen? ⟨w.heap.size, 0, none⟩ = false := by simp [World.frozen?, hz4]
        have f1 : w4.frozen? ⟨w.heap.size, 1, none⟩ = false := by simp [World.frozen?, hz4]
        have f2 : w4.frozen? ⟨w.heap.size, 2, none⟩ = false := by simp [World.frozen?, hz4]
        have f3 : w4.frozen? ⟨w.heap.size, 3, none⟩ = false := by simp [World.frozen?, hz4]
        have f4 : w4.frozen? ⟨w.heap.size, 4, none⟩ = false := by simp [World.frozen?, hz4]
        have f5 : w4.frozen? ⟨w.heap.size, 5, none⟩ = false := by simp [World.frozen?, hz4]
        obtain ⟨k0, k1, k2, k3, k4, k5⟩ := link_after_cells hz4 (.int .i64 q.mru) (.int .i64 q.magic) (.int .i64 q.mrru) (.bool q.short) (.string q.disc) (.int .i64 q.num) _ rfl
        have hBl := below6 (B := w.heap.size) hB4 (Nat.le_refl _) (.int .i64 q.mru) (.int .i64 q.magic) (.int .i64 q.mrru) (.bool q.short) (.string q.disc) (.int .i64 q.num)
        go_wp2_with fail
        refine bodyPost_ret (v := .tuple #[.agg #[.int .i64 q.mru, .int .i64 q.magic, .int .i64 q.mrru, .bool q.short, .string q.disc, .int .i64 q.num], .int .i64 0]) (by simp [results, Tryz.results44, go_sem, k0, k1, k2, k3, k4, k5]) rfl ⟨?_, hBl⟩
        rw [HT.out, HLh.out]
theorem rtaken_any (v : Value) (os : List OptM) (w : World) (hv : OptsIn w v os) :
    Calls Tryz.prog 44 #[v] w fun e w' => e = .returned (.tuple #[.agg (linkCells (takenM os).1), .int .i64 (takenM os).2]) ∧ Below w.heap.size w w' := by
  rcases hv.or with ⟨rfl, a, c, rfl, hcm⟩ | ⟨g, o, c, rfl, hv⟩
  · exact rtaken_nil a c w
  · exact rtaken_some g o c os w hv
end Go.Proofs.YtagnbdenecphcaaGreatDoor
