/- The reference's policy: Judge. -/
import Derived.Test.YtagnbdenecphcaaGreatDoorRe
import Derived.Test.YtagnbdenecphcaaGreatDoorHeldT
namespace Go.Proofs.YtagnbdenecphcaaGreatDoor
open Go.RowKit
set_option linter.unusedVariables false
set_option linter.unusedSimpArgs false
theorem own_empty (w : World) : OwnE optE (w.alloc (.cells #[] 70)) w.heap.size (.slice (some ⟨w.heap.size, 0, none⟩) 0 0) [] :=
  ⟨by simp, .inr ⟨w.heap.size, 0, _, rfl, Nat.le_refl _, heap_alloc_last w _, Nat.le_refl _, by decide, by simp, by simp⟩⟩
theorem opt_cells {w : World} {B : Nat} {x y : Value} {T : TypeId} (hh : w.heap[B]? = some (.cells #[x, y] T (0, 0))) : w.cell? ⟨B, 0, none⟩ = some x ∧ w.cell? ⟨B, 1, none⟩ = some y ∧ w.frozen? ⟨B, 0, none⟩ = false ∧ w.frozen? ⟨B, 1, none⟩ = false := by
  simp [World.cell?, World.frozen?, hh]
set_option maxRecDepth 100000 in
set_option maxHeartbeats 16000000 in
theorem rjudge_some (own : LinkM) (g o c : Nat) (os : List OptM) (w : World) (hm : mayM own = true) (hv : OptsAt w (.slice (some ⟨g, o, none⟩) os.length c) os) (hf : ∀ o ∈ os, fitM o = true) (hlen : os.length ≤ 1000000) :
    Calls Tryz.prog 32 #[.agg (linkCells own), .slice (some ⟨g, o, none⟩) os.length c] w fun e w' => ∃ v, e = .returned (.tuple #[.int .i64 (judgeM own os).1, v, .int .i64 0]) ∧ OwnE optE w' w.heap.size v (judgeM own os).2.1 ∧ Below w.heap.size w w' := by
  have hgl : g < w.heap.size := SeqAt.lt hv g rfl
  have hmay := fun w => rmay_any own w
  have HM := Lib.hid (mayM_bounds hm)
  have HMay := Lib.hid hm
  have hfits := fun w h => rfits_any (.slice (some ⟨g, o, none⟩) os.length c) os w (OptsAt.ins h) hf
  have HFA := Lib.hid hf
  rw [hm] at hmay
  clear hm hf
  have HLh := Lib.hid linkCells_eq
  rw [HLh.out] at hmay ⊢
  go_enter Tryz.func32, Tryz.ntmps32
  go_wp2_with fail
  refine (hmay _).mono ?_
  rintro e W2 ⟨rfl, hb1⟩
  have hh1 : W2.heap[w.heap.size]? = some (.cells (linkCells own) 23 (0, 0)) := below_of hb1 (by rw [HLh.out]; exact heap_alloc_last _ _)
  have hBW : Below w.heap.size w W2 := seqB (allocB (Below.refl _ _) _) hb1
  have hlt2 : w.heap.size < W2.heap.size := (Array.getElem?_eq_some_iff.1 hh1).1
  have HH := Lib.hid (link_cells hh1)
  clear hb1 hmay hh1
  obtain ⟨V, hV⟩ : ∃ V, Value.agg #[.int .i64 own.mru, .int .i64 own.magic, .int .i64 own.mrru, .bool own.short, .string own.disc, .int .i64 own.num] = V := ⟨_, rfl⟩
  rw [hV]
  clear hV
  go_wp2_with fail
  refine (hfits _ (hv.below hBW)).mono ?_
  rintro e w' ⟨rfl, rfl⟩
  have HV := Lib.hid (hv.below hBW)
  obtain ⟨-, hcl, hcm, hcell⟩ := (hv.below hBW).cells
  obtain ⟨n, hnn⟩ : ∃ n, os.length = n := ⟨_, rfl⟩
  have HN := Lib.hid hnn
  have HC := Lib.hid hcell
  have hcn : c ≤ 9223372036854775807 := by unfold maxLen at hcm; omega
  rw [hnn] at hlen hcl ⊢
  clear hnn hcell hv hcm hfits
  go_wp2_with fail
  go_loopw [7, 8, 9] (fun b d i wr => ∃ k : Nat, k ≤ n ∧ i = .int .i64 k ∧ OwnE optE wr W2.heap.size b (badsTo own os k) ∧ OwnE optE wr W2.heap.size d (bettersTo own os k) ∧ Apart b d ∧ Below W2.heap.size W2 wr) (fun _ _ i _ => n - (intOf i).toNat)
  case atStart => exact ⟨0, Nat.zero_le _, rfl, OwnE.nil _ _ _, OwnE.nil _ _ _, (fun g hg => by cases hg), Below.refl _ _⟩
  case round =>
    obtain ⟨k, hk, rfl, hown8, hown9, hap, hbl⟩ := hrel
    by_cases hlt : k < n
    · have hkl : k < os.length := by rw [HN.out]; exact hlt
      obtain ⟨d1, d2⟩ := HC.out k hkl
      replace d1 := fsm_below_cell hbl d1
      replace d2 := fsm_below_cell hbl d2
      have hbs := badsTo_succ own os k hkl
      have hgs := bettersTo_succ own os k hkl
      have hl8k := badsTo_len own os k
      have hl9k := bettersTo_len own os k
      have hfx := HFA.out _ (List.getElem_mem hkl)
      obtain ⟨x, hx⟩ : ∃ x, os[k] = x := ⟨_, rfl⟩
      rw [hx] at d1 d2 hbs hgs hfx
      have hz := ((fit_iff x).1 hfx).2.2
      have hri := fun w => rright_any x w
      obtain ⟨w2, rfl⟩ : ∃ w2 : World, w2 = wr := ⟨_, rfl⟩
      clear hx hfx
      go_wp2_with fail
      go_loopw [10, 11] (fun t i wi => ∃ j : Nat, j ≤ k ∧ i = .int .i64 j ∧ t = .bool (dupAt os j x) ∧ Below w2.heap.size w2 wi) (fun _ i _ => k - (intOf i).toNat)
      case atStart => exact ⟨0, Nat.zero_le _, rfl, rfl, Below.refl _ _⟩
      case round =>
        obtain ⟨j, hj, rfl, rfl, hbj⟩ := hrel
        by_cases hjk : j < k
        · have hjl : j < os.length := by omega
          have hjn : j < n := by omega
          obtain ⟨y1, y2⟩ := HC.out j hjl
          have z1 := fsm_below_cell hbj (fsm_below_cell hbl y1)
          have z2 := fsm_below_cell hbj d1
          have hds := dupAt_succ os j x hjl
          obtain ⟨y, hy⟩ : ∃ y, os[j] = y := ⟨_, rfl⟩
          rw [hy] at z1 hds y1 y2
          cases hd : dupAt os j x with
          | true =>
            rw [hd, Bool.true_or] at hds
            have HD := Lib.hid hds
            clear hds hy y1 y2 hd
            go_wp2_with fail
            refine wp_schedL (fun w' => w'.cell? ⟨g, o + j * 2, none⟩ = some (.int .i64 y.1) ∧ w'.cell? ⟨g, o + k * 2, none⟩ = some (.int .i64 x.1)) [(0, true), (1, true), (2, true), (3, true), (4, true), (5, true), (6, true), (7, true), (8, true), (9, true), (10, true), (11, true), (12, true), (13, true), (14, true)] (by kernel_rfl) (by kernel_rfl) rfl (by kernel_rfl) (by kernel_rfl) ⟨z1, z2⟩ (fun _ d _ _ _ h => by cases d <;> exact h) ?_
            simp only [schedOps, List.filterMap_cons, List.filterMap_nil, List.getElem?_toArray, List.getElem?_cons_zero, List.getElem?_cons_succ, Option.map_some]
            repeat (first | (refine' wpSched_take _ (by rfl) (fun wS hS => ?_) ?_; rotate_left; (focus (obtain ⟨s1, s2⟩ := hS; go_simp; first | done | rfl)); (try simp only [Act.put, List.setIfInBounds_toArray, List.set_cons_zero, List.set_cons_succ])) | (refine wpSched_skip (by rfl) ?_; try simp only [Act.put, List.setIfInBounds_toArray, List.set_cons_zero, List.set_cons_succ]))
            refine wpSched_done ?_
            go_wp2_with fail
            go_roundw
            case rel => exact ⟨j + 1, by omega, by go_num, by rw [HD.out], drewB hbj⟩
            case measure => simp [intOf]; omega
          | false =>
            rw [hd, Bool.false_or] at hds
            have HD : Hid (dupAt os (j + 1) x = (y.1 == x.1)) := Lib.hid (by rw [hds, Bool.eq_iff_iff]; simp)
            clear hds hy y1 y2 hd
            go_wp2_with fail
            refine wp_schedL (fun w' => w'.cell? ⟨g, o + j * 2, none⟩ = some (.int .i64 y.1) ∧ w'.cell? ⟨g, o + k * 2, none⟩ = some (.int .i64 x.1)) [(0, true), (1, true), (2, true), (3, true), (4, true), (5, true), (6, true), (7, true), (8, true), (9, true), (10, true), (11, true), (12, true), (13, true), (14, true)] (by kernel_rfl) (by kernel_rfl) rfl (by kernel_rfl) (by kernel_rfl) ⟨z1, z2⟩ (fun _ d _ _ _ h => by cases d <;> exact h) ?_
            simp only [schedOps, List.filterMap_cons, List.filterMap_nil, List.getElem?_toArray, List.getElem?_cons_zero, List.getElem?_cons_succ, Option.map_some]
            repeat (first | (refine' wpSched_take _ (by rfl) (fun wS hS => ?_) ?_; rotate_left; (focus (obtain ⟨s1, s2⟩ := hS; go_simp; first | done | rfl)); (try simp only [Act.put, List.setIfInBounds_toArray, List.set_cons_zero, List.set_cons_succ])) | (refine wpSched_skip (by rfl) ?_; try simp only [Act.put, List.setIfInBounds_toArray, List.set_cons_zero, List.set_cons_succ]))
            refine wpSched_done ?_
            go_wp2_with fail
            go_roundw
            case rel => exact ⟨j + 1, by omega, by go_num, by rw [HD.out], drewB hbj⟩
            case measure => simp [intOf]; omega
        · obtain rfl : j = k := by omega
          obtain ⟨k, rfl⟩ : ∃ k : Nat, k = j := ⟨_, rfl⟩
          have gg := fun {a : Addr} {v : Value} (h : w2.cell? a = some v) => fsm_below_cell (W := w2) hbj h
          replace d1 := gg d1
          replace d2 := gg d2
          replace hown8 := hown8.below hbj
          replace hown9 := hown9.below hbj
          replace hbl := seqB hbl hbj
          obtain ⟨c0, c1, c2, c3, c4, c5⟩ := HH.out
          replace c0 := fsm_below_cell hbl c0; replace c1 := fsm_below_cell hbl c1; replace c2 := fsm_below_cell hbl c2; replace c3 := fsm_below_cell hbl c3; replace c4 := fsm_below_cell hbl c4; replace c5 := fsm_below_cell hbl c5
          have hbet := fun w => rbetter_any own x w HM.out.2.1.1 HM.out.2.1.2 (by omega)
          clear gg hbj
          rw [HLh.out] at hbet
          cases hr : rightM x with
          | false =>
            have hbad : badM own (os.take k) x = true := by unfold badM; rw [hr]; rfl
            rw [hr] at hri
            clear hr
            have HB8 : Hid (badsTo own os (k + 1) = badsTo own os k ++ [(x.1, x.2)]) := Lib.hid (by rw [hbs, hbad]; rfl)
            have HB9 : Hid (bettersTo own os (k + 1) = bettersTo own os k) := Lib.hid (by rw [hgs, hbad]; simp)
            clear hbs hgs hbad
            go_wp2_with fail
            refine (hri _).mono ?_
            rintro e w3 ⟨rfl, hb3⟩
            have gg := fun {a : Addr} {v : Value} (h : wr.cell? a = some v) => fsm_below_cell (W := wr) hb3 h
            replace c0 := gg c0; replace c1 := gg c1; replace c2 := gg c2; replace c3 := gg c3; replace c4 := gg c4; replace c5 := gg c5
            have d31 := gg d1
            have d32 := gg d2
            have hO8 := hown8.below hb3
            have hO9 := hown9.below hb3
            have hB3 := seqB hbl hb3
            have hl9 := hO9.lt
            clear hown8 hown9 hbl hb3 gg d1 d2
            go_wp2_with (at_builtin; refine wpList_appO rfl _ _ rfl W2 _ _ x.1 x.2 1 hO8 rfl _ rfl (by simp) (by omega) hB3 ?_; intro v' w5 hown5 hbl5 hon5 hat5)
            have hO9' := hO9.only hon5 (fun b hb e => hap b e hb)
            go_roundw
            case rel => exact ⟨k + 1, by omega, by go_num, by rw [HB8.out]; exact hown5, by rw [HB9.out]; exact hO9', hap.grow hat5 hl9, hbl5⟩
            case measure => simp [intOf]; omega
          | true =>
            rw [hr] at hri
            cases hd : dupAt os k x with
            | true =>
              have hbad : badM own (os.take k) x = true := by unfold badM; unfold dupAt at hd; rw [hd]; simp
              clear hr hd
              have HB8 : Hid (badsTo own os (k + 1) = badsTo own os k ++ [(x.1, x.2)]) := Lib.hid (by rw [hbs, hbad]; rfl)
              have HB9 : Hid (bettersTo own os (k + 1) = bettersTo own os k) := Lib.hid (by rw [hgs, hbad]; simp)
              clear hbs hgs hbad
              go_wp2_with fail
              refine (hri _).mono ?_
              rintro e w3 ⟨rfl, hb3⟩
              have gg := fun {a : Addr} {v : Value} (h : wr.cell? a = some v) => fsm_below_cell (W := wr) hb3 h
              replace c0 := gg c0; replace c1 := gg c1; replace c2 := gg c2; replace c3 := gg c3; replace c4 := gg c4; replace c5 := gg c5
              have d31 := gg d1
              have d32 := gg d2
              have hO8 := hown8.below hb3
              have hO9 := hown9.below hb3
              have hB3 := seqB hbl hb3
              have hl9 := hO9.lt
              clear hown8 hown9 hbl hb3 gg d1 d2
              go_wp2_with (at_builtin; refine wpList_appO rfl _ _ rfl W2 _ _ x.1 x.2 1 hO8 rfl _ rfl (by simp) (by omega) hB3 ?_; intro v' w5 hown5 hbl5 hon5 hat5)
              have hO9' := hO9.only hon5 (fun b hb e => hap b e hb)
              go_roundw
              case rel => exact ⟨k + 1, by omega, by go_num, by rw [HB8.out]; exact hown5, by rw [HB9.out]; exact hO9', hap.grow hat5 hl9, hbl5⟩
              case measure => simp [intOf]; omega
            | false =>
              by_cases k18 : x.1 = 18
              · have q18 : (x.1 == 18) = true := by simp [k18]
                cases hsx : own.short with
                | false =>
                  have hbad : badM own (os.take k) x = true := by unfold badM; rw [hsx]; simp [k18]
                  have c3' := c3
                  rw [hsx] at c3'
                  clear hr hd k18
                  have HB8 : Hid (badsTo own os (k + 1) = badsTo own os k ++ [(x.1, x.2)]) := Lib.hid (by rw [hbs, hbad]; rfl)
                  have HB9 : Hid (bettersTo own os (k + 1) = bettersTo own os k) := Lib.hid (by rw [hgs, hbad]; simp)
                  clear hbs hgs hbad
                  go_wp2_with fail
                  refine (hri _).mono ?_
                  rintro e w3 ⟨rfl, hb3⟩
                  have gg := fun {a : Addr} {v : Value} (h : wr.cell? a = some v) => fsm_below_cell (W := wr) hb3 h
                  replace c0 := gg c0; replace c1 := gg c1; replace c2 := gg c2; replace c3 := gg c3; replace c4 := gg c4; replace c5 := gg c5
                  have d31 := gg d1
                  have d32 := gg d2
                  have hO8 := hown8.below hb3
                  have hO9 := hown9.below hb3
                  have hB3 := seqB hbl hb3
                  have hl9 := hO9.lt
                  clear hown8 hown9 hbl hb3 gg d1 d2
                  go_wp2_with (at_builtin; refine wpList_appO rfl _ _ rfl W2 _ _ x.1 x.2 1 hO8 rfl _ rfl (by simp) (by omega) hB3 ?_; intro v' w5 hown5 hbl5 hon5 hat5)
                  have hO9' := hO9.only hon5 (fun b hb e => hap b e hb)
                  go_roundw
                  case rel => exact ⟨k + 1, by omega, by go_num, by rw [HB8.out]; exact hown5, by rw [HB9.out]; exact hO9', hap.grow hat5 hl9, hbl5⟩
                  case measure => simp [intOf]; omega
                | true =>
                  have hbad : badM own (os.take k) x = false := by unfold badM; unfold dupAt at hd; rw [hr, hd, hsx]; simp
                  simp only [hsx] at hbet
                  clear hr hd k18
                  have HB8 : Hid (badsTo own os (k + 1) = badsTo own os k) := Lib.hid (by rw [hbs, hbad]; simp)
                  have HB9 : Hid (bettersTo own os (k + 1) = bettersTo own os k ++ (betterM own x).toList) := Lib.hid (by rw [hgs, hbad]; simp)
                  clear hbs hgs hbad
                  go_wp2_with fail
                  refine (hri _).mono ?_
                  rintro e w3 ⟨rfl, hb3⟩
                  have gg := fun {a : Addr} {v : Value} (h : wr.cell? a = some v) => fsm_below_cell (W := wr) hb3 h
                  replace c0 := gg c0; replace c1 := gg c1; replace c2 := gg c2; replace c3 := gg c3; replace c4 := gg c4; replace c5 := gg c5
                  have d31 := gg d1
                  have d32 := gg d2
                  have hO8 := hown8.below hb3
                  have hO9 := hown9.below hb3
                  have hB3 := seqB hbl hb3
                  have hl9 := hO9.lt
                  clear hown8 hown9 hbl hb3 gg d1 d2
                  go_wp2_with fail
                  have hO83 := hO8
                  have hO93 := hO9
                  clear hO8 hO9
                  refine wp_tree (fun w' => w'.cell? ⟨w.heap.size, 0, none⟩ = some (.int .i64 own.mru) ∧ w'.cell? ⟨w.heap.size, 1, none⟩ = some (.int .i64 own.magic) ∧ w'.cell? ⟨w.heap.size, 2, none⟩ = some (.int .i64 own.mrru) ∧ w'.cell? ⟨w.heap.size, 3, none⟩ = some (.bool own.short) ∧ w'.cell? ⟨w.heap.size, 4, none⟩ = some (.string own.disc) ∧ w'.cell? ⟨w.heap.size, 5, none⟩ = some (.int .i64 own.num) ∧ w'.cell? ⟨g, o + k * 2, none⟩ = some (.int .i64 x.1) ∧ w'.cell? ⟨g, o + k * 2 + 1, none⟩ = some (.string x.2)) (.two [(0, true), (1, true), (2, true), (3, true), (4, true)] 5 9 (.fin [(6, true), (7, true), (8, true), (9, false), (10, false), (11, true)]) (.fin [(5, false), (6, true), (7, true), (8, true), (10, false), (11, true)])) (by kernel_rfl) (by kernel_rfl) rfl (by kernel_rfl) (by kernel_rfl) (by kernel_rfl) ⟨c0, c1, c2, c3, c4, c5, d31, d32⟩ (fun _ d _ _ _ h => by cases d <;> exact h) ?_
                  obtain ⟨w30, hw30⟩ : ∃ w30, w3.drew = w30 := ⟨_, rfl⟩
                  have hb30 : Below w3.heap.size w3 w30 := by rw [← hw30]; exact drewB (Below.refl _ _)
                  rw [hw30]
                  have gg0 := fun {a : Addr} {v : Value} (h : w3.cell? a = some v) => fsm_below_cell hb30 h
                  replace c0 := gg0 c0; replace c1 := gg0 c1; replace c2 := gg0 c2; replace c3 := gg0 c3; replace c4 := gg0 c4; replace c5 := gg0 c5; replace d31 := gg0 d31; replace d32 := gg0 d32
                  replace hO83 := hO83.below hb30
                  replace hO93 := hO93.below hb30
                  replace hB3 := seqB hB3 hb30
                  clear gg0 hb30 hw30 hl9
                  obtain ⟨w3, rfl⟩ : ∃ w3 : World, w3 = w30 := ⟨_, rfl⟩
                  simp only [wpTree, schedOps, List.filterMap_cons, List.filterMap_nil, List.getElem?_toArray, List.getElem?_cons_zero, List.getElem?_cons_succ, Option.map_some]
                  repeat (first | (refine' wpSched_take _ (by rfl) (fun wS hS => ?_) ?_; rotate_left; (focus (obtain ⟨k0, k1, k2, k3, k4, k5, k6, k7⟩ := hS; go_simp; first | done | rfl)); (try simp only [Act.put, List.setIfInBounds_toArray, List.set_cons_zero, List.set_cons_succ])) | (refine wpSched_skip (by rfl) ?_; try simp only [Act.put, List.setIfInBounds_toArray, List.set_cons_zero, List.set_cons_succ]))
                  refine wpSched_done ?_
                  refine tree_both ?_ ?_
                  · refine tree_step (fun Q1 K hK => ?_)
                    go_wp2_with (go_at_call 56; refine (hbet _).mono ?_; rintro e w5 ⟨bk, bd, rfl, hbb, hb5⟩)
                    have gg := fun {a : Addr} {v : Value} (h : w3.cell? a = some v) => fsm_below_cell (W := w3) hb5 h
                    refine QRun_normal (hK.out _ _ ⟨gg c0, gg c1, gg c2, gg c3, gg c4, gg c5, gg d31, gg d32⟩ ?_)
                    clear hK K gg
                    show wpSchedL _ _ _ _ _ _ _
                    repeat (first | (refine' wpSched_take _ (by rfl) (fun wS hS => ?_) ?_; rotate_left; (focus (obtain ⟨k0, k1, k2, k3, k4, k5, k6, k7⟩ := hS; go_simp; first | done | rfl)); (try simp only [Act.put, List.setIfInBounds_toArray, List.set_cons_zero, List.set_cons_succ])) | (refine wpSched_skip (by rfl) ?_; try simp only [Act.put, List.setIfInBounds_toArray, List.set_cons_zero, List.set_cons_succ]))
                    refine wpSched_run (fun K hK => ?_)
                    go_wp2_with fail
                    have hb35 := hb5.alloc hb5.size (.cells #[.int .i64 0, .string ⟨#[]⟩] 70)
                    have hh5 := heap_alloc_last w5 (.cells #[.int .i64 0, .string ⟨#[]⟩] 70)
                    have hs5 := hb5.size
                    have gg := fun {a : Addr} {v : Value} (h : w3.cell? a = some v) => fsm_below_cell (W := w3) hb35 h
                    refine QRun_normal (hK.out _ _ ⟨gg c0, gg c1, gg c2, gg c3, gg c4, gg c5, gg d31, gg d32⟩ ?_)
                    clear hK K gg hb5
                    repeat (first | (refine' wpSched_take _ (by rfl) (fun wS hS => ?_) ?_; rotate_left; (focus (obtain ⟨k0, k1, k2, k3, k4, k5, k6, k7⟩ := hS; go_simp; first | done | rfl)); (try simp only [Act.put, List.setIfInBounds_toArray, List.set_cons_zero, List.set_cons_succ])) | (refine wpSched_skip (by rfl) ?_; try simp only [Act.put, List.setIfInBounds_toArray, List.set_cons_zero, List.set_cons_succ]))
                    obtain ⟨w55, hw55⟩ : ∃ w55, w5.alloc (.cells #[.int .i64 0, .string ⟨#[]⟩] 70) = w55 := ⟨_, rfl⟩
                    rw [hw55] at hb35 hh5 ⊢
                    clear hw55
                    obtain ⟨q50, q51, q52, q53⟩ := opt_cells hh5
                    obtain ⟨u0, u1⟩ := opt_after hh5 (.int .i64 bk) (.string bd)
                    have hb6 := (hb35.setCell (p := ⟨w5.heap.size, 0, none⟩) (by first | (simp; done) | (simp; omega) | omega) (.int .i64 bk)).setCell (p := ⟨w5.heap.size, 1, none⟩) (by first | (simp; done) | (simp; omega) | omega) (.string bd)
                    refine wpSched_run (fun K hK => ?_)
                    go_wp2_with fail
                    have gg := fun {a : Addr} {v : Value} (h : w3.cell? a = some v) => fsm_below_cell (W := w3) hb6 h
                    refine QRun_normal (hK.out _ _ ⟨gg c0, gg c1, gg c2, gg c3, gg c4, gg c5, gg d31, gg d32⟩ ?_)
                    clear hK K gg
                    repeat (first | (refine' wpSched_take _ (by rfl) (fun wS hS => ?_) ?_; rotate_left; (focus (obtain ⟨k0, k1, k2, k3, k4, k5, k6, k7⟩ := hS; go_simp; first | done | rfl)); (try simp only [Act.put, List.setIfInBounds_toArray, List.set_cons_zero, List.set_cons_succ])) | (refine wpSched_skip (by rfl) ?_; try simp only [Act.put, List.setIfInBounds_toArray, List.set_cons_zero, List.set_cons_succ]))
                    refine wpSched_done ?_
                    have hO86 := hO83.below hb6
                    have hO96 := hO93.below hb6
                    have hB6 := seqB hB3 hb6
                    have hl86 := hO86.lt
                    obtain ⟨w6, hw6⟩ : ∃ w6, (w55.setCell ⟨w5.heap.size, 0, none⟩ (.int .i64 bk)).setCell ⟨w5.heap.size, 1, none⟩ (.string bd) = w6 := ⟨_, rfl⟩
                    rw [hw6] at u0 u1 hO86 hO96 hB6 hl86 ⊢
                    clear hw6 hb6 hb35 hh5 q50 q51 q52 q53 hO83 hO93
                    cases hbe : betterM own x with
                    | none =>
                      have HB9' : Hid (bettersTo own os (k + 1) = bettersTo own os k) := Lib.hid (by rw [HB9.out, hbe]; simp)
                      rw [Option.isSome_none]
                      clear hbe HB9 hbb
                      go_wp2_with fail
                      go_roundw
                      case rel => exact ⟨k + 1, by omega, by go_num, by rw [HB8.out]; exact hO86, by rw [HB9'.out]; exact hO96, hap, hB6⟩
                      case measure => simp [intOf]; omega
                    | some b =>
                      have HB9' : Hid (bettersTo own os (k + 1) = bettersTo own os k ++ [(bk, bd)]) := Lib.hid (by rw [HB9.out, hbe, hbb b hbe]; rfl)
                      rw [Option.isSome_some]
                      clear hbe HB9 hbb
                      go_wp2_with (at_builtin; refine wpList_appO rfl _ _ rfl W2 _ _ bk bd 1 hO96 rfl _ rfl (by simp) (by omega) hB6 ?_; intro v' w7 hown7 hbl7 hon7 hat7)
                      have hO8' := hO86.only hon7 (fun b hb e => hap.symm b e hb)
                      go_roundw
                      case rel => exact ⟨k + 1, by omega, by go_num, by rw [HB8.out]; exact hO8', by rw [HB9'.out]; exact hown7, (hap.symm.grow hat7 hl86).symm, hbl7⟩
                      case measure => simp [intOf]; omega
                  · refine tree_step (fun Q1 K hK => ?_)
                    go_wp2_with fail
                    have hb4 := (Below.refl w3.heap.size w3).alloc (Nat.le_refl _) (.cells #[.int .i64 0, .string ⟨#[]⟩] 70)
                    have hh4 := heap_alloc_last w3 (.cells #[.int .i64 0, .string ⟨#[]⟩] 70)
                    have gg := fun {a : Addr} {v : Value} (h : w3.cell? a = some v) => fsm_below_cell (W := w3) hb4 h
                    refine QRun_normal (hK.out _ _ ⟨gg c0, gg c1, gg c2, gg c3, gg c4, gg c5, gg d31, gg d32⟩ ?_)
                    clear hK K gg
                    show wpSchedL _ _ _ _ _ _ _
                    repeat (first | (refine' wpSched_take _ (by rfl) (fun wS hS => ?_) ?_; rotate_left; (focus (obtain ⟨k0, k1, k2, k3, k4, k5, k6, k7⟩ := hS; go_simp; first | done | rfl)); (try simp only [Act.put, List.setIfInBounds_toArray, List.set_cons_zero, List.set_cons_succ])) | (refine wpSched_skip (by rfl) ?_; try simp only [Act.put, List.setIfInBounds_toArray, List.set_cons_zero, List.set_cons_succ]))
                    refine wpSched_run (fun K hK => ?_)
                    go_wp2_with (go_at_call 56; refine (hbet _).mono ?_; rintro e w5 ⟨bk, bd, rfl, hbb, hb5⟩)
                    have hb35 := seqB hb4 hb5
                    have hh5 := below_of hb5 hh4
                    have gg := fun {a : Addr} {v : Value} (h : w3.cell? a = some v) => fsm_below_cell (W := w3) hb35 h
                    refine QRun_normal (hK.out _ _ ⟨gg c0, gg c1, gg c2, gg c3, gg c4, gg c5, gg d31, gg d32⟩ ?_)
                    clear hK K gg hb5 hb4 hh4
                    repeat (first | (refine' wpSched_take _ (by rfl) (fun wS hS => ?_) ?_; rotate_left; (focus (obtain ⟨k0, k1, k2, k3, k4, k5, k6, k7⟩ := hS; go_simp; first | done | rfl)); (try simp only [Act.put, List.setIfInBounds_toArray, List.set_cons_zero, List.set_cons_succ])) | (refine wpSched_skip (by rfl) ?_; try simp only [Act.put, List.setIfInBounds_toArray, List.set_cons_zero, List.set_cons_succ]))
                    obtain ⟨q50, q51, q52, q53⟩ := opt_cells hh5
                    obtain ⟨u0, u1⟩ := opt_after hh5 (.int .i64 bk) (.string bd)
                    have hb6 := (hb35.setCell (p := ⟨w3.heap.size, 0, none⟩) (by first | (simp; done) | (simp; omega) | omega) (.int .i64 bk)).setCell (p := ⟨w3.heap.size, 1, none⟩) (by first | (simp; done) | (simp; omega) | omega) (.string bd)
                    refine wpSched_run (fun K hK => ?_)
                    go_wp2_with fail
                    have gg := fun {a : Addr} {v : Value} (h : w3.cell? a = some v) => fsm_below_cell (W := w3) hb6 h
                    refine QRun_normal (hK.out _ _ ⟨gg c0, gg c1, gg c2, gg c3, gg c4, gg c5, gg d31, gg d32⟩ ?_)
                    clear hK K gg
                    repeat (first | (refine' wpSched_take _ (by rfl) (fun wS hS => ?_) ?_; rotate_left; (focus (obtain ⟨k0, k1, k2, k3, k4, k5, k6, k7⟩ := hS; go_simp; first | done | rfl)); (try simp only [Act.put, List.setIfInBounds_toArray, List.set_cons_zero, List.set_cons_succ])) | (refine wpSched_skip (by rfl) ?_; try simp only [Act.put, List.setIfInBounds_toArray, List.set_cons_zero, List.set_cons_succ]))
                    refine wpSched_done ?_
                    have hO86 := hO83.below hb6
                    have hO96 := hO93.below hb6
                    have hB6 := seqB hB3 hb6
                    have hl86 := hO86.lt
                    obtain ⟨w6, hw6⟩ : ∃ w6, (w5.setCell ⟨w3.heap.size, 0, none⟩ (.int .i64 bk)).setCell ⟨w3.heap.size, 1, none⟩ (.string bd) = w6 := ⟨_, rfl⟩
                    rw [hw6] at u0 u1 hO86 hO96 hB6 hl86 ⊢
                    clear hw6 hb6 hb35 hh5 q50 q51 q52 q53 hO83 hO93
                    cases hbe : betterM own x with
                    | none =>
                      have HB9' : Hid (bettersTo own os (k + 1) = bettersTo own os k) := Lib.hid (by rw [HB9.out, hbe]; simp)
                      rw [Option.isSome_none]
                      clear hbe HB9 hbb
                      go_wp2_with fail
                      go_roundw
                      case rel => exact ⟨k + 1, by omega, by go_num, by rw [HB8.out]; exact hO86, by rw [HB9'.out]; exact hO96, hap, hB6⟩
                      case measure => simp [intOf]; omega
                    | some b =>
                      have HB9' : Hid (bettersTo own os (k + 1) = bettersTo own os k ++ [(bk, bd)]) := Lib.hid (by rw [HB9.out, hbe, hbb b hbe]; rfl)
                      rw [Option.isSome_some]
                      clear hbe HB9 hbb
                      go_wp2_with (at_builtin; refine wpList_appO rfl _ _ rfl W2 _ _ bk bd 1 hO96 rfl _ rfl (by simp) (by omega) hB6 ?_; intro v' w7 hown7 hbl7 hon7 hat7)
                      have hO8' := hO86.only hon7 (fun b hb e => hap.symm b e hb)
                      go_roundw
                      case rel => exact ⟨k + 1, by omega, by go_num, by rw [HB8.out]; exact hO8', by rw [HB9'.out]; exact hown7, (hap.symm.grow hat7 hl86).symm, hbl7⟩
                      case measure => simp [intOf]; omega
              · have q18 : (x.1 == 18) = false := beq_eq_false_iff_ne.2 k18
                have hbad : badM own (os.take k) x = false := by unfold badM; unfold dupAt at hd; rw [hr, hd]; simp [k18]
                clear hr hd k18
                have HB8 : Hid (badsTo own os (k + 1) = badsTo own os k) := Lib.hid (by rw [hbs, hbad]; simp)
                have HB9 : Hid (bettersTo own os (k + 1) = bettersTo own os k ++ (betterM own x).toList) := Lib.hid (by rw [hgs, hbad]; simp)
                clear hbs hgs hbad
                go_wp2_with fail
                refine (hri _).mono ?_
                rintro e w3 ⟨rfl, hb3⟩
                have gg := fun {a : Addr} {v : Value} (h : wr.cell? a = some v) => fsm_below_cell (W := wr) hb3 h
                replace c0 := gg c0; replace c1 := gg c1; replace c2 := gg c2; replace c3 := gg c3; replace c4 := gg c4; replace c5 := gg c5
                have d31 := gg d1
                have d32 := gg d2
                have hO8 := hown8.below hb3
                have hO9 := hown9.below hb3
                have hB3 := seqB hbl hb3
                have hl9 := hO9.lt
                clear hown8 hown9 hbl hb3 gg d1 d2
                go_wp2_with fail
                have hO83 := hO8
                have hO93 := hO9
                clear hO8 hO9
                refine wp_tree (fun w' => w'.cell? ⟨w.heap.size, 0, none⟩ = some (.int .i64 own.mru) ∧ w'.cell? ⟨w.heap.size, 1, none⟩ = some (.int .i64 own.magic) ∧ w'.cell? ⟨w.heap.size, 2, none⟩ = some (.int .i64 own.mrru) ∧ w'.cell? ⟨w.heap.size, 3, none⟩ = some (.bool own.short) ∧ w'.cell? ⟨w.heap.size, 4, none⟩ = some (.string own.disc) ∧ w'.cell? ⟨w.heap.size, 5, none⟩ = some (.int .i64 own.num) ∧ w'.cell? ⟨g, o + k * 2, none⟩ = some (.int .i64 x.1) ∧ w'.cell? ⟨g, o + k * 2 + 1, none⟩ = some (.string x.2)) (.two [(0, true), (1, true), (2, true), (3, true), (4, true)] 5 9 (.fin [(6, true), (7, true), (8, true), (9, false), (10, false), (11, true)]) (.fin [(5, false), (6, true), (7, true), (8, true), (10, false), (11, true)])) (by kernel_rfl) (by kernel_rfl) rfl (by kernel_rfl) (by kernel_rfl) (by kernel_rfl) ⟨c0, c1, c2, c3, c4, c5, d31, d32⟩ (fun _ d _ _ _ h => by cases d <;> exact h) ?_
                obtain ⟨w30, hw30⟩ : ∃ w30, w3.drew = w30 := ⟨_, rfl⟩
                have hb30 : Below w3.heap.size w3 w30 := by rw [← hw30]; exact drewB (Below.refl _ _)
                rw [hw30]
                have gg0 := fun {a : Addr} {v : Value} (h : w3.cell? a = some v) => fsm_below_cell hb30 h
                replace c0 := gg0 c0; replace c1 := gg0 c1; replace c2 := gg0 c2; replace c3 := gg0 c3; replace c4 := gg0 c4; replace c5 := gg0 c5; replace d31 := gg0 d31; replace d32 := gg0 d32
                replace hO83 := hO83.below hb30
                replace hO93 := hO93.below hb30
                replace hB3 := seqB hB3 hb30
                clear gg0 hb30 hw30 hl9
                obtain ⟨w3, rfl⟩ : ∃ w3 : World, w3 = w30 := ⟨_, rfl⟩
                simp only [wpTree, schedOps, List.filterMap_cons, List.filterMap_nil, List.getElem?_toArray, List.getElem?_cons_zero, List.getElem?_cons_succ, Option.map_some]
                repeat (first | (refine' wpSched_take _ (by rfl) (fun wS hS => ?_) ?_; rotate_left; (focus (obtain ⟨k0, k1, k2, k3, k4, k5, k6, k7⟩ := hS; go_simp; first | done | rfl)); (try simp only [Act.put, List.setIfInBounds_toArray, List.set_cons_zero, List.set_cons_succ])) | (refine wpSched_skip (by rfl) ?_; try simp only [Act.put, List.setIfInBounds_toArray, List.set_cons_zero, List.set_cons_succ]))
                refine wpSched_done ?_
                refine tree_both ?_ ?_
                · refine tree_step (fun Q1 K hK => ?_)
                  go_wp2_with (go_at_call 56; refine (hbet _).mono ?_; rintro e w5 ⟨bk, bd, rfl, hbb, hb5⟩)
                  have gg := fun {a : Addr} {v : Value} (h : w3.cell? a = some v) => fsm_below_cell (W := w3) hb5 h
                  refine QRun_normal (hK.out _ _ ⟨gg c0, gg c1, gg c2, gg c3, gg c4, gg c5, gg d31, gg d32⟩ ?_)
                  clear hK K gg
                  show wpSchedL _ _ _ _ _ _ _
                  repeat (first | (refine' wpSched_take _ (by rfl) (fun wS hS => ?_) ?_; rotate_left; (focus (obtain ⟨k0, k1, k2, k3, k4, k5, k6, k7⟩ := hS; go_simp; first | done | rfl)); (try simp only [Act.put, List.setIfInBounds_toArray, List.set_cons_zero, List.set_cons_succ])) | (refine wpSched_skip (by rfl) ?_; try simp only [Act.put, List.setIfInBounds_toArray, List.set_cons_zero, List.set_cons_succ]))
                  refine wpSched_run (fun K hK => ?_)
                  go_wp2_with fail
                  have hb35 := hb5.alloc hb5.size (.cells #[.int .i64 0, .string ⟨#[]⟩] 70)
                  have hh5 := heap_alloc_last w5 (.cells #[.int .i64 0, .string ⟨#[]⟩] 70)
                  have hs5 := hb5.size
                  have gg := fun {a : Addr} {v : Value} (h : w3.cell? a = some v) => fsm_below_cell (W := w3) hb35 h
                  refine QRun_normal (hK.out _ _ ⟨gg c0, gg c1, gg c2, gg c3, gg c4, gg c5, gg d31, gg d32⟩ ?_)
                  clear hK K gg hb5
                  repeat (first | (refine' wpSched_take _ (by rfl) (fun wS hS => ?_) ?_; rotate_left; (focus (obtain ⟨k0, k1, k2, k3, k4, k5, k6, k7⟩ := hS; go_simp; first | done | rfl)); (try simp only [Act.put, List.setIfInBounds_toArray, List.set_cons_zero, List.set_cons_succ])) | (refine wpSched_skip (by rfl) ?_; try simp only [Act.put, List.setIfInBounds_toArray, List.set_cons_zero, List.set_cons_succ]))
                  obtain ⟨w55, hw55⟩ : ∃ w55, w5.alloc (.cells #[.int .i64 0, .string ⟨#[]⟩] 70) = w55 := ⟨_, rfl⟩
                  rw [hw55] at hb35 hh5 ⊢
                  clear hw55
                  obtain ⟨q50, q51, q52, q53⟩ := opt_cells hh5
                  obtain ⟨u0, u1⟩ := opt_after hh5 (.int .i64 bk) (.string bd)
                  have hb6 := (hb35.setCell (p := ⟨w5.heap.size, 0, none⟩) (by first | (simp; done) | (simp; omega) | omega) (.int .i64 bk)).setCell (p := ⟨w5.heap.size, 1, none⟩) (by first | (simp; done) | (simp; omega) | omega) (.string bd)
                  refine wpSched_run (fun K hK => ?_)
                  go_wp2_with fail
                  have gg := fun {a : Addr} {v : Value} (h : w3.cell? a = some v) => fsm_below_cell (W := w3) hb6 h
                  refine QRun_normal (hK.out _ _ ⟨gg c0, gg c1, gg c2, gg c3, gg c4, gg c5, gg d31, gg d32⟩ ?_)
                  clear hK K gg
                  repeat (first | (refine' wpSched_take _ (by rfl) (fun wS hS => ?_) ?_; rotate_left; (focus (obtain ⟨k0, k1, k2, k3, k4, k5, k6, k7⟩ := hS; go_simp; first | done | rfl)); (try simp only [Act.put, List.setIfInBounds_toArray, List.set_cons_zero, List.set_cons_succ])) | (refine wpSched_skip (by rfl) ?_; try simp only [Act.put, List.setIfInBounds_toArray, List.set_cons_zero, List.set_cons_succ]))
                  refine wpSched_done ?_
                  have hO86 := hO83.below hb6
                  have hO96 := hO93.below hb6
                  have hB6 := seqB hB3 hb6
                  have hl86 := hO86.lt
                  obtain ⟨w6, hw6⟩ : ∃ w6, (w55.setCell ⟨w5.heap.size, 0, none⟩ (.int .i64 bk)).setCell ⟨w5.heap.size, 1, none⟩ (.string bd) = w6 := ⟨_, rfl⟩
                  rw [hw6] at u0 u1 hO86 hO96 hB6 hl86 ⊢
                  clear hw6 hb6 hb35 hh5 q50 q51 q52 q53 hO83 hO93
                  cases hbe : betterM own x with
                  | none =>
                    have HB9' : Hid (bettersTo own os (k + 1) = bettersTo own os k) := Lib.hid (by rw [HB9.out, hbe]; simp)
                    rw [Option.isSome_none]
                    clear hbe HB9 hbb
                    go_wp2_with fail
                    go_roundw
                    case rel => exact ⟨k + 1, by omega, by go_num, by rw [HB8.out]; exact hO86, by rw [HB9'.out]; exact hO96, hap, hB6⟩
                    case measure => simp [intOf]; omega
                  | some b =>
                    have HB9' : Hid (bettersTo own os (k + 1) = bettersTo own os k ++ [(bk, bd)]) := Lib.hid (by rw [HB9.out, hbe, hbb b hbe]; rfl)
                    rw [Option.isSome_some]
                    clear hbe HB9 hbb
                    go_wp2_with (at_builtin; refine wpList_appO rfl _ _ rfl W2 _ _ bk bd 1 hO96 rfl _ rfl (by simp) (by omega) hB6 ?_; intro v' w7 hown7 hbl7 hon7 hat7)
                    have hO8' := hO86.only hon7 (fun b hb e => hap.symm b e hb)
                    go_roundw
                    case rel => exact ⟨k + 1, by omega, by go_num, by rw [HB8.out]; exact hO8', by rw [HB9'.out]; exact hown7, (hap.symm.grow hat7 hl86).symm, hbl7⟩
                    case measure => simp [intOf]; omega
                · refine tree_step (fun Q1 K hK => ?_)
                  go_wp2_with fail
                  have hb4 := (Below.refl w3.heap.size w3).alloc (Nat.le_refl _) (.cells #[.int .i64 0, .string ⟨#[]⟩] 70)
                  have hh4 := heap_alloc_last w3 (.cells #[.int .i64 0, .string ⟨#[]⟩] 70)
                  have gg := fun {a : Addr} {v : Value} (h : w3.cell? a = some v) => fsm_below_cell (W := w3) hb4 h
                  refine QRun_normal (hK.out _ _ ⟨gg c0, gg c1, gg c2, gg c3, gg c4, gg c5, gg d31, gg d32⟩ ?_)
                  clear hK K gg
                  show wpSchedL _ _ _ _ _ _ _
                  repeat (first | (refine' wpSched_take _ (by rfl) (fun wS hS => ?_) ?_; rotate_left; (focus (obtain ⟨k0, k1, k2, k3, k4, k5, k6, k7⟩ := hS; go_simp; first | done | rfl)); (try simp only [Act.put, List.setIfInBounds_toArray, List.set_cons_zero, List.set_cons_succ])) | (refine wpSched_skip (by rfl) ?_; try simp only [Act.put, List.setIfInBounds_toArray, List.set_cons_zero, List.set_cons_succ]))
                  refine wpSched_run (fun K hK => ?_)
                  go_wp2_with (go_at_call 56; refine (hbet _).mono ?_; rintro e w5 ⟨bk, bd, rfl, hbb, hb5⟩)
                  have hb35 := seqB hb4 hb5
                  have hh5 := below_of hb5 hh4
                  have gg := fun {a : Addr} {v : Value} (h : w3.cell? a = some v) => fsm_below_cell (W := w3) hb35 h
                  refine QRun_normal (hK.out _ _ ⟨gg c0, gg c1, gg c2, gg c3, gg c4, gg c5, gg d31, gg d32⟩ ?_)
                  clear hK K gg hb5 hb4 hh4
                  repeat (first | (refine' wpSched_take _ (by rfl) (fun wS hS => ?_) ?_; rotate_left; (focus (obtain ⟨k0, k1, k2, k3, k4, k5, k6, k7⟩ := hS; go_simp; first | done | rfl)); (try simp only [Act.put, List.setIfInBounds_toArray, List.set_cons_zero, List.set_cons_succ])) | (refine wpSched_skip (by rfl) ?_; try simp only [Act.put, List.setIfInBounds_toArray, List.set_cons_zero, List.set_cons_succ]))
                  obtain ⟨q50, q51, q52, q53⟩ := opt_cells hh5
                  obtain ⟨u0, u1⟩ := opt_after hh5 (.int .i64 bk) (.string bd)
                  have hb6 := (hb35.setCell (p := ⟨w3.heap.size, 0, none⟩) (by first | (simp; done) | (simp; omega) | omega) (.int .i64 bk)).setCell (p := ⟨w3.heap.size, 1, none⟩) (by first | (simp; done) | (simp; omega) | omega) (.string bd)
                  refine wpSched_run (fun K hK => ?_)
                  go_wp2_with fail
                  have gg := fun {a : Addr} {v : Value} (h : w3.cell? a = some v) => fsm_below_cell (W := w3) hb6 h
                  refine QRun_normal (hK.out _ _ ⟨gg c0, gg c1, gg c2, gg c3, gg c4, gg c5, gg d31, gg d32⟩ ?_)
                  clear hK K gg
                  repeat (first | (refine' wpSched_take _ (by rfl) (fun wS hS => ?_) ?_; rotate_left; (focus (obtain ⟨k0, k1, k2, k3, k4, k5, k6, k7⟩ := hS; go_simp; first | done | rfl)); (try simp only [Act.put, List.setIfInBounds_toArray, List.set_cons_zero, List.set_cons_succ])) | (refine wpSched_skip (by rfl) ?_; try simp only [Act.put, List.setIfInBounds_toArray, List.set_cons_zero, List.set_cons_succ]))
                  refine wpSched_done ?_
                  have hO86 := hO83.below hb6
                  have hO96 := hO93.below hb6
                  have hB6 := seqB hB3 hb6
                  have hl86 := hO86.lt
                  obtain ⟨w6, hw6⟩ : ∃ w6, (w5.setCell ⟨w3.heap.size, 0, none⟩ (.int .i64 bk)).setCell ⟨w3.heap.size, 1, none⟩ (.string bd) = w6 := ⟨_, rfl⟩
                  rw [hw6] at u0 u1 hO86 hO96 hB6 hl86 ⊢
                  clear hw6 hb6 hb35 hh5 q50 q51 q52 q53 hO83 hO93
                  cases hbe : betterM own x with
                  | none =>
                    have HB9' : Hid (bettersTo own os (k + 1) = bettersTo own os k) := Lib.hid (by rw [HB9.out, hbe]; simp)
                    rw [Option.isSome_none]
                    clear hbe HB9 hbb
                    go_wp2_with fail
                    go_roundw
                    case rel => exact ⟨k + 1, by omega, by go_num, by rw [HB8.out]; exact hO86, by rw [HB9'.out]; exact hO96, hap, hB6⟩
                    case measure => simp [intOf]; omega
                  | some b =>
                    have HB9' : Hid (bettersTo own os (k + 1) = bettersTo own os k ++ [(bk, bd)]) := Lib.hid (by rw [HB9.out, hbe, hbb b hbe]; rfl)
                    rw [Option.isSome_some]
                    clear hbe HB9 hbb
                    go_wp2_with (at_builtin; refine wpList_appO rfl _ _ rfl W2 _ _ bk bd 1 hO96 rfl _ rfl (by simp) (by omega) hB6 ?_; intro v' w7 hown7 hbl7 hon7 hat7)
                    have hO8' := hO86.only hon7 (fun b hb e => hap.symm b e hb)
                    go_roundw
                    case rel => exact ⟨k + 1, by omega, by go_num, by rw [HB8.out]; exact hO8', by rw [HB9'.out]; exact hown7, (hap.symm.grow hat7 hl86).symm, hbl7⟩
                    case measure => simp [intOf]; omega
    · obtain rfl : k = n := by omega
      have hfin : os.any (fun o => !fitM o) = false := by
        rw [List.any_eq_false]
        intro y hy
        rw [HFA.out y hy]; simp
      have HJ : Hid (judgeM own os = if badsTo own os os.length ≠ [] then (2, badsTo own os os.length, 0) else if bettersTo own os os.length ≠ [] then (1, bettersTo own os os.length, 0) else (0, os, 0)) := Lib.hid (by
        unfold judgeM; rw [if_neg (by rw [hfin, HMay.out]; simp)])
      have hBf : Below w.heap.size w wr := seqB hBW hbl
      have h8 := hown8.base (b' := w.heap.size) hBW.size
      have h9 := hown9.base (b' := w.heap.size) hBW.size
      rw [← HN.out] at h8 h9
      obtain ⟨B8, hB8⟩ : ∃ B8, badsTo own os os.length = B8 := ⟨_, rfl⟩
      obtain ⟨B9, hB9⟩ : ∃ B9, bettersTo own os os.length = B9 := ⟨_, rfl⟩
      rw [hB8] at h8
      rw [hB9] at h9
      have hJ := HJ.out
      rw [hB8, hB9] at hJ
      have hr8 := hown8
      have hr9 := hown9
      have e8 : badsTo own os k = B8 := by rw [← HN.out]; exact hB8
      have e9 : bettersTo own os k = B9 := by rw [← HN.out]; exact hB9
      rw [e8] at hr8
      rw [e9] at hr9
      obtain ⟨a8, c8, x8⟩ := OwnE.form hr8
      obtain ⟨a9, c9, x9⟩ := OwnE.form hr9
      have HJ2 := Lib.hid hJ
      clear hfin HJ hown8 hown9 hB8 hB9 hJ e8 e9 hr8 hr9
      subst x8 x9
      by_cases n8 : B8 = []
      · by_cases n9 : B9 = []
        · have HJ3 : Hid (judgeM own os = (0, os, 0)) := Lib.hid (by rw [HJ2.out, if_neg (by rw [n8]; simp), if_neg (by rw [n9]; simp)])
          subst n8 n9
          have hvf := SeqAt.below (SeqAt.below HV.out hbl) ((Below.refl wr.heap.size wr).alloc (Nat.le_refl _) (.cells #[] 70))
          have hoe := (own_empty wr).base (b' := w.heap.size) hBf.size
          have hBf2 := allocB hBf (.cells #[] 70)
          have hL24 : (([] : List OptM).length + os.length) * 24 ≤ 140737488355328 := by rw [HN.out]; simp; omega
          rw [HN.out] at hvf
          clear HJ2 h8 h9
          go_wp2_with (at_builtin; refine wpList_appOs rfl _ _ rfl w _ _ [] os hoe hvf rfl rfl hL24 hBf2 ?_; intro v' w6 hown6 hbl6 _ _)
          go_ret3
          exact ⟨v', by rw [HJ3.out]; rfl, by rw [HJ3.out]; simpa using hown6, hbl6⟩
        · have HJ3 : Hid (judgeM own os = (1, B9, 0)) := Lib.hid (by rw [HJ2.out, if_neg (by rw [n8]; simp), if_pos n9])
          have l9 : 0 < B9.length := List.length_pos_iff.2 n9
          subst n8
          clear HJ2 h8 n9
          go_wp2_with fail
          go_ret3
          exact ⟨_, by rw [HJ3.out]; rfl, by rw [HJ3.out]; exact h9, hBf⟩
      · have HJ3 : Hid (judgeM own os = (2, B8, 0)) := Lib.hid (by rw [HJ2.out, if_pos n8])
        have l8 : 0 < B8.length := List.length_pos_iff.2 n8
        clear HJ2 h9 n8
        go_wp2_with fail
        go_ret3
        exact ⟨_, by rw [HJ3.out]; rfl, by rw [HJ3.out]; exact h8, hBf⟩
end Go.Proofs.YtagnbdenecphcaaGreatDoor
