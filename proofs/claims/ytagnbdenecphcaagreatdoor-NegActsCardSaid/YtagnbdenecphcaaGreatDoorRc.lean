/- The reference's policy: fits, taught, better. -/
import Derived.Test.YtagnbdenecphcaaGreatDoorRa
import Derived.Test.YtagnbdenecphcaaGreatDoorRin
namespace Go.Proofs.YtagnbdenecphcaaGreatDoor
open Go.RowKit
set_option linter.unusedVariables false
set_option linter.unusedSimpArgs false
set_option maxHeartbeats 2000000 in
/-- options that fit -/
theorem rfits_any (v : Value) (os : List OptM) (w : World) (hv : OptsIn w v os) (hf : ∀ o ∈ os, fitM o = true) :
    Calls Tryz.prog 54 #[v] w fun e w' => e = .returned (.bool true) ∧ w = w' := by
  rcases hv.or with ⟨rfl, a, c, rfl, hcm⟩ | ⟨g, o, c, rfl, hv⟩
  · have hcn : c ≤ 9223372036854775807 := by have := hcm.1; unfold maxLen at this; omega
    clear hcm
    go_enter Tryz.func54, Tryz.ntmps54
    go_wp2_with fail
    go_loop [3] (fun i => i = .int .i64 0) (fun _ => 0)
    case atStart => rfl
    case round =>
      obtain rfl := hrel
      go_wp2_with fail
      go_ret
      exact ⟨rfl, rfl⟩
  · have hn := SeqAt.le hv
    obtain ⟨-, hcl, hcm, hcell⟩ := hv.cells
    have hcn : c ≤ 9223372036854775807 := by unfold maxLen at hcm; omega
    have hfit : ∀ j (h : j < os.length), 0 ≤ os[j].1 ∧ os[j].1 ≤ 255 ∧ os[j].2.size ≤ 253 := fun j h => (fit_iff _).1 (hf _ (List.getElem_mem h))
    have HC := Lib.hid hcell
    have HF := Lib.hid hfit
    clear hcell hfit hf hv
    go_enter Tryz.func54, Tryz.ntmps54
    go_wp2_with fail
    go_loop [3] (fun i => ∃ k : Nat, k ≤ os.length ∧ i = .int .i64 k) (fun i => os.length - (intOf i).toNat)
    case atStart => exact ⟨0, Nat.zero_le _, rfl⟩
    case round =>
      obtain ⟨k, hk, rfl⟩ := hrel
      by_cases hlt : k < os.length
      · obtain ⟨d1, d2⟩ := HC.out k hlt
        obtain ⟨f1, f2, f3⟩ := HF.out k hlt
        generalize os[k] = x at *
        go_wp2_with fail
        go_round
        case rel => exact ⟨k + 1, by omega, by go_num⟩
        case measure => simp [intOf]; omega
      · obtain rfl : k = os.length := by omega
        go_wp2_with fail
        go_ret
        exact ⟨rfl, rfl⟩
theorem field_of_kind {k : Int} {i : Nat} (h : fieldOff k = some i) : k = 1 ∨ k = 5 ∨ k = 17 ∨ k = 23 := by
  unfold fieldOff at h
  repeat' split at h
  all_goals (first | cases h | skip)
  all_goals omega
theorem right_six {o : OptM} (h : rightM o = true) : (o.1 = 1 ∨ o.1 = 5 ∨ o.1 = 17 ∨ o.1 = 18 ∨ o.1 = 19 ∨ o.1 = 23) ∧ o.2.size ≤ 20 := by
  obtain ⟨h1, h2⟩ := right_kind h
  refine ⟨?_, h2⟩
  rcases h1 with h1 | h1 | ⟨i, h1⟩
  · omega
  · omega
  · have := field_of_kind h1; omega
set_option maxHeartbeats 4000000 in
theorem taught_num (k : Int) (hk : k = 1 ∨ k = 5 ∨ k = 17 ∨ k = 23) (l : LinkM) (d : ByteArray) (w : World) (hz : d.size ≤ 9223372036854775807) (hstep : learnStep 3 l (k, d) = if asksM l k = true then learnOne l (k, d) else l) :
    Calls Tryz.prog 58 #[.agg (linkCells l), .agg #[.int .i64 k, .string d]] w fun e w' => e = .returned (.agg (linkCells (learnStep 3 l (k, d)))) ∧ Below w.heap.size w w' := by
  have hval := fun w => rnumber_any d w hz
  obtain ⟨v, hv⟩ : ∃ v, valueM d.data.toList = v := ⟨_, rfl⟩
  rw [hv] at hval
  have hu := fun w => runit_any v w
  obtain ⟨l0, l1, l2, l3, l4, l5⟩ := l
  have hp : learnOne ⟨l0, l1, l2, l3, l4, l5⟩ (k, d) = if ((k = 1 ∨ k = 17) ∧ unitM v = false) ∨ (k = 5 ∧ v = 0) then ⟨l0, l1, l2, l3, l4, l5⟩ else putF ⟨l0, l1, l2, l3, l4, l5⟩ k v := by
    unfold learnOne setM
    simp only [hv]
    rcases hk with rfl | rfl | rfl | rfl <;> simp
  rw [hp] at hstep
  have HP := Lib.hid hstep
  clear hv hp hstep
  unfold linkCells
  have hall : ∀ x : Int, x = 0 ∨ (x ≠ 0 ∧ (x == 0) = false) := fun x => by
    by_cases h : x = 0
    · exact .inl h
    · exact .inr ⟨h, beq_eq_false_iff_ne.2 h⟩
  rcases hk with rfl | rfl | rfl | rfl
  · rcases hall l0 with rfl | ⟨h0, q0⟩
    · go_enter Tryz.func58, Tryz.ntmps58
      go_wp2_with fail
      refine (hval _).mono ?_
      rintro e w1 ⟨rfl, rfl⟩
      go_wp2_with fail
      refine bodyPost_ret (v := .agg (linkCells ⟨0, l1, l2, l3, l4, l5⟩)) (by simp [results, Tryz.results58, go_sem, linkCells]) rfl ⟨by rw [HP.out]; simp [asksM, fieldM, putF, linkCells], ?_⟩
      repeat (first | exact Below.refl _ _ | refine Below.setCell ?_ (Nat.le_refl _) _ | refine Below.setCell ?_ (by simp) _ | apply allocB)
    · cases hb : unitM v with
      | false =>
        rw [hb] at hu
        go_enter Tryz.func58, Tryz.ntmps58
        go_wp2_with fail
        refine (hval _).mono ?_
        rintro e w1 ⟨rfl, rfl⟩
        go_wp2_with fail
        refine (hu _).mono ?_
        rintro e w1 ⟨rfl, rfl⟩
        go_wp2_with fail
        refine bodyPost_ret (v := .agg (linkCells ⟨l0, l1, l2, l3, l4, l5⟩)) (by simp [results, Tryz.results58, go_sem, linkCells]) rfl ⟨by rw [HP.out]; simp [asksM, fieldM, putF, linkCells, h0, hb], ?_⟩
        repeat (first | exact Below.refl _ _ | refine Below.setCell ?_ (Nat.le_refl _) _ | refine Below.setCell ?_ (by simp) _ | apply allocB)
      | true =>
        rw [hb] at hu
        go_enter Tryz.func58, Tryz.ntmps58
        go_wp2_with fail
        refine (hval _).mono ?_
        rintro e w1 ⟨rfl, rfl⟩
        go_wp2_with fail
        refine (hu _).mono ?_
        rintro e w1 ⟨rfl, rfl⟩
        go_wp2_with fail
        refine bodyPost_ret (v := .agg (linkCells ⟨v, l1, l2, l3, l4, l5⟩)) (by simp [results, Tryz.results58, go_sem, linkCells]) rfl ⟨by rw [HP.out]; simp [asksM, fieldM, putF, linkCells, h0, hb], ?_⟩
        repeat (first | exact Below.refl _ _ | refine Below.setCell ?_ (Nat.le_refl _) _ | refine Below.setCell ?_ (by simp) _ | apply allocB)
  · rcases hall l1 with rfl | ⟨h0, q0⟩
    · go_enter Tryz.func58, Tryz.ntmps58
      go_wp2_with fail
      refine (hval _).mono ?_
      rintro e w1 ⟨rfl, rfl⟩
      go_wp2_with fail
      refine bodyPost_ret (v := .agg (linkCells ⟨l0, 0, l2, l3, l4, l5⟩)) (by simp [results, Tryz.results58, go_sem, linkCells]) rfl ⟨by rw [HP.out]; simp [asksM, fieldM, putF, linkCells], ?_⟩
      repeat (first | exact Below.refl _ _ | refine Below.setCell ?_ (Nat.le_refl _) _ | refine Below.setCell ?_ (by simp) _ | apply allocB)
    · rcases hall v with rfl | ⟨h1, q1⟩
      · go_enter Tryz.func58, Tryz.ntmps58
        go_wp2_with fail
        refine (hval _).mono ?_
        rintro e w1 ⟨rfl, rfl⟩
        go_wp2_with fail
        refine bodyPost_ret (v := .agg (linkCells ⟨l0, l1, l2, l3, l4, l5⟩)) (by simp [results, Tryz.results58, go_sem, linkCells]) rfl ⟨by rw [HP.out]; simp [asksM, fieldM, putF, linkCells, h0], ?_⟩
        repeat (first | exact Below.refl _ _ | refine Below.setCell ?_ (Nat.le_refl _) _ | refine Below.setCell ?_ (by simp) _ | apply allocB)
      · go_enter Tryz.func58, Tryz.ntmps58
        go_wp2_with fail
        refine (hval _).mono ?_
        rintro e w1 ⟨rfl, rfl⟩
        go_wp2_with fail
        rotate_left
        · (exfalso; simp_all)
        refine bodyPost_ret (v := .agg (linkCells ⟨l0, v, l2, l3, l4, l5⟩)) (by simp [results, Tryz.results58, go_sem, linkCells]) rfl ⟨by rw [HP.out]; simp [asksM, fieldM, putF, linkCells, h0, h1], ?_⟩
        repeat (first | exact Below.refl _ _ | refine Below.setCell ?_ (Nat.le_refl _) _ | refine Below.setCell ?_ (by simp) _ | apply allocB)
  · rcases hall l2 with rfl | ⟨h0, q0⟩
    · go_enter Tryz.func58, Tryz.ntmps58
      go_wp2_with fail
      refine (hval _).mono ?_
      rintro e w1 ⟨rfl, rfl⟩
      go_wp2_with fail
      refine bodyPost_ret (v := .agg (linkCells ⟨l0, l1, 0, l3, l4, l5⟩)) (by simp [results, Tryz.results58, go_sem, linkCells]) rfl ⟨by rw [HP.out]; simp [asksM, fieldM, putF, linkCells], ?_⟩
      repeat (first | exact Below.refl _ _ | refine Below.setCell ?_ (Nat.le_refl _) _ | refine Below.setCell ?_ (by simp) _ | apply allocB)
    · cases hb : unitM v with
      | false =>
        rw [hb] at hu
        go_enter Tryz.func58, Tryz.ntmps58
        go_wp2_with fail
        refine (hval _).mono ?_
        rintro e w1 ⟨rfl, rfl⟩
        go_wp2_with fail
        refine (hu _).mono ?_
        rintro e w1 ⟨rfl, rfl⟩
        go_wp2_with fail
        refine bodyPost_ret (v := .agg (linkCells ⟨l0, l1, l2, l3, l4, l5⟩)) (by simp [results, Tryz.results58, go_sem, linkCells]) rfl ⟨by rw [HP.out]; simp [asksM, fieldM, putF, linkCells, h0, hb], ?_⟩
        repeat (first | exact Below.refl _ _ | refine Below.setCell ?_ (Nat.le_refl _) _ | refine Below.setCell ?_ (by simp) _ | apply allocB)
      | true =>
        rw [hb] at hu
        go_enter Tryz.func58, Tryz.ntmps58
        go_wp2_with fail
        refine (hval _).mono ?_
        rintro e w1 ⟨rfl, rfl⟩
        go_wp2_with fail
        refine (hu _).mono ?_
        rintro e w1 ⟨rfl, rfl⟩
        go_wp2_with fail
        refine bodyPost_ret (v := .agg (linkCells ⟨l0, l1, v, l3, l4, l5⟩)) (by simp [results, Tryz.results58, go_sem, linkCells]) rfl ⟨by rw [HP.out]; simp [asksM, fieldM, putF, linkCells, h0, hb], ?_⟩
        repeat (first | exact Below.refl _ _ | refine Below.setCell ?_ (Nat.le_refl _) _ | refine Below.setCell ?_ (by simp) _ | apply allocB)
  · rcases hall l5 with rfl | ⟨h0, q0⟩
    · go_enter Tryz.func58, Tryz.ntmps58
      go_wp2_with fail
      refine (hval _).mono ?_
      rintro e w1 ⟨rfl, rfl⟩
      go_wp2_with fail
      refine bodyPost_ret (v := .agg (linkCells ⟨l0, l1, l2, l3, l4, 0⟩)) (by simp [results, Tryz.results58, go_sem, linkCells]) rfl ⟨by rw [HP.out]; simp [asksM, fieldM, putF, linkCells], ?_⟩
      repeat (first | exact Below.refl _ _ | refine Below.setCell ?_ (Nat.le_refl _) _ | refine Below.setCell ?_ (by simp) _ | apply allocB)
    · go_enter Tryz.func58, Tryz.ntmps58
      go_wp2_with fail
      refine (hval _).mono ?_
      rintro e w1 ⟨rfl, rfl⟩
      go_wp2_with fail
      refine bodyPost_ret (v := .agg (linkCells ⟨l0, l1, l2, l3, l4, v⟩)) (by simp [results, Tryz.results58, go_sem, linkCells]) rfl ⟨by rw [HP.out]; simp [asksM, fieldM, putF, linkCells, h0], ?_⟩
      repeat (first | exact Below.refl _ _ | refine Below.setCell ?_ (Nat.le_refl _) _ | refine Below.setCell ?_ (by simp) _ | apply allocB)
set_option maxHeartbeats 4000000 in
/-- what the reference is taught by an option of the right length -/
theorem rtaught_any (l : LinkM) (o : OptM) (w : World) (hr : rightM o = true) :
    Calls Tryz.prog 58 #[.agg (linkCells l), .agg #[.int .i64 o.1, .string o.2]] w fun e w' => e = .returned (.agg (linkCells (learnStep 3 l o))) ∧ Below w.heap.size w w' := by
  obtain ⟨hk, hz⟩ := right_six hr
  have hstep : learnStep 3 l o = if asksM l o.1 = true then learnOne l o else l := by
    unfold learnStep
    rw [hr]
    cases asksM l o.1 <;> simp
  clear hr
  obtain ⟨k, d⟩ := o
  dsimp only at hk hz hstep ⊢
  by_cases hkn : k = 1 ∨ k = 5 ∨ k = 17 ∨ k = 23
  · exact taught_num k hkn l d w (by omega) hstep
  · have hval := fun w => rnumber_any d w (by omega)
    obtain ⟨l0, l1, l2, l3, l4, l5⟩ := l
    rcases hk with rfl | rfl | rfl | rfl | rfl | rfl
    · omega
    · omega
    · omega
    · have he : (if asksM ⟨l0, l1, l2, l3, l4, l5⟩ 18 = true then learnOne ⟨l0, l1, l2, l3, l4, l5⟩ (18, d) else ⟨l0, l1, l2, l3, l4, l5⟩) = ⟨l0, l1, l2, l3, l4, l5⟩ := by
        cases l3 <;> simp [asksM, learnOne, setM]
      have HP := Lib.hid (hstep.trans he)
      clear he hkn hstep
      unfold linkCells
      go_enter Tryz.func58, Tryz.ntmps58
      go_wp2_with fail
      refine (hval _).mono ?_
      rintro e w1 ⟨rfl, rfl⟩
      go_wp2_with fail
      refine bodyPost_ret (v := .agg (linkCells ⟨l0, l1, l2, l3, l4, l5⟩)) (by simp [results, Tryz.results58, go_sem, linkCells]) rfl ⟨by rw [HP.out]; simp [asksM, fieldM, putF, linkCells], ?_⟩
      repeat (first | exact Below.refl _ _ | refine Below.setCell ?_ (Nat.le_refl _) _ | refine Below.setCell ?_ (by simp) _ | apply allocB)
    · have hd0 : asksM ⟨l0, l1, l2, l3, l4, l5⟩ 19 = !l4.toList.isEmpty := by
        show decide (l4.data.toList ≠ []) = _
        rw [ba_toList]
        cases e : l4.data.toList <;> simp
      cases hx : l4.toList.isEmpty with
      | true =>
        rw [hd0, hx] at hstep
        have HP := Lib.hid hstep
        clear hd0 hkn hstep
        unfold linkCells
        go_enter Tryz.func58, Tryz.ntmps58
        go_wp2_with fail
        refine (hval _).mono ?_
        rintro e w1 ⟨rfl, rfl⟩
        go_wp2_with fail
        refine bodyPost_ret (v := .agg (linkCells ⟨l0, l1, l2, l3, l4, l5⟩)) (by simp [results, Tryz.results58, go_sem, linkCells]) rfl ⟨by rw [HP.out]; simp [asksM, fieldM, putF, linkCells], ?_⟩
        repeat (first | exact Below.refl _ _ | refine Below.setCell ?_ (Nat.le_refl _) _ | refine Below.setCell ?_ (by simp) _ | apply allocB)
      | false =>
        rw [hd0, hx] at hstep
        have HP := Lib.hid hstep
        clear hd0 hkn hstep
        unfold linkCells
        go_enter Tryz.func58, Tryz.ntmps58
        go_wp2_with fail
        refine (hval _).mono ?_
        rintro e w1 ⟨rfl, rfl⟩
        go_wp2_with fail
        refine bodyPost_ret (v := .agg (linkCells ⟨l0, l1, l2, l3, d, l5⟩)) (by simp [results, Tryz.results58, go_sem, linkCells]) rfl ⟨by rw [HP.out]; simp [asksM, fieldM, putF, linkCells, learnOne, setM], ?_⟩
        repeat (first | exact Below.refl _ _ | refine Below.setCell ?_ (Nat.le_refl _) _ | refine Below.setCell ?_ (by simp) _ | apply allocB)
    · omega
theorem three_new (w : World) (a b c : Obj) : (((w.alloc a).alloc b).alloc c).heap[w.heap.size + 1]? = some b ∧ (((w.alloc a).alloc b).alloc c).heap[w.heap.size + 1 + 1]? = some c := by
  have h1 := heap_first2 (w.alloc a) b c
  have h2 := heap_alloc_last ((w.alloc a).alloc b) c
  simp only [World.size_alloc] at h1 h2
  exact ⟨h1, h2⟩
set_option maxRecDepth 100000 in
set_option maxHeartbeats 4000000 in
theorem rbetter_unit (k : Int) (hk : k = 1 ∨ k = 17) (l : LinkM) (d : ByteArray) (w : World) (hz : d.size ≤ 9223372036854775807) :
    Calls Tryz.prog 56 #[.agg (linkCells l), .agg #[.int .i64 k, .string d]] w (BetterPost l (k, d) w) := by
  have hval := fun w => rnumber_any d w hz
  obtain ⟨v, hv⟩ : ∃ v, valueM d.data.toList = v := ⟨_, rfl⟩
  rw [hv] at hval
  have HB : Hid (betterM l (k, d) = if unitM v then none else some (k, bytesOf (numB 1500 2))) := Lib.hid (by unfold betterM; rw [if_pos (by omega), hv])
  have hu := fun w => runit_any v w
  have hn := fun w => rbytes2_any 1500 w (by decide) (by decide)
  obtain ⟨N, hN⟩ : ∃ N, bytesOf (numB 1500 2) = N := ⟨_, rfl⟩
  rw [hN] at hn HB
  obtain ⟨Z, hZ⟩ : ∃ Z, linkCells l = Z := ⟨_, rfl⟩
  rw [hZ]
  clear hv hN hZ
  cases hb : unitM v with
  | true =>
    rw [hb] at hu HB
    clear hb
    rcases hk with rfl | rfl
    all_goals
      go_enter Tryz.func56, Tryz.ntmps56
      go_wp2_with fail
      refine (hval _).mono ?_
      rintro e w' ⟨rfl, rfl⟩
      go_wp2_with fail
      refine (hu _).mono ?_
      rintro e w' ⟨rfl, rfl⟩
      go_wp2_with fail
      refine bodyPost_ret (v := .tuple #[.agg #[.int .i64 0, .string ⟨#[]⟩], .bool false]) (by simp [results, Tryz.results56, go_sem]) rfl ⟨0, ⟨#[]⟩, ?_, ?_, ?_⟩
      · rw [HB.out]; rfl
      · rw [HB.out]; intro b hb; cases hb
      · repeat (first | exact Below.refl _ _ | refine Below.setCell ?_ (by simp) _ | refine Below.setCell ?_ (by simp; omega) _ | apply allocB)
  | false =>
    rw [hb] at hu HB
    clear hb
    rcases hk with rfl | rfl
    · go_enter Tryz.func56, Tryz.ntmps56
      go_wp2_with fail
      refine (hval _).mono ?_
      rintro e w' ⟨rfl, rfl⟩
      go_wp2_with fail
      refine (hu _).mono ?_
      rintro e w' ⟨rfl, rfl⟩
      go_wp2_with fail
      obtain ⟨W, hW⟩ : ∃ W, ((w.alloc (.cells Z 23)).alloc (.cells #[.int .i64 1, .string d] 70)).alloc (.cells #[.int .i64 0, .string ⟨#[]⟩] 70) = W := ⟨_, rfl⟩
      have e0 : W.cell? ⟨w.heap.size + 1, 0, none⟩ = some (.int .i64 1) := by rw [← hW]; unfold World.cell?; rw [(three_new w _ _ _).1]; rfl
      have hh : W.heap[w.heap.size + 1 + 1]? = some (.cells #[.int .i64 0, .string ⟨#[]⟩] 70 (0, 0)) := by rw [← hW]; exact (three_new w _ _ _).2
      have hBW : Below w.heap.size w W := by rw [← hW]; exact allocB (allocB (allocB (Below.refl _ _) _) _) _
      rw [hW]
      clear hW
      refine wp_schedL (fun w' => w'.cell? ⟨w.heap.size + 1, 0, none⟩ = some (.int .i64 1)) [(0, true), (1, true), (2, false), (3, true), (4, false), (5, true)] (by kernel_rfl) (by kernel_rfl) rfl (by kernel_rfl) (by kernel_rfl) e0 (fun _ d _ _ _ h => by cases d <;> exact h) ?_
      simp only [schedOps, List.filterMap_cons, List.filterMap_nil, List.getElem?_toArray, List.getElem?_cons_zero, List.getElem?_cons_succ, Option.map_some]
      repeat (first | (refine' wpSched_take _ (by rfl) (fun wS hS => ?_) ?_; rotate_left; (focus (obtain s1 := hS; go_simp; first | done | rfl)); (try simp only [Act.put, List.setIfInBounds_toArray, List.set_cons_zero, List.set_cons_succ])) | (refine wpSched_skip (by rfl) ?_; try simp only [Act.put, List.setIfInBounds_toArray, List.set_cons_zero, List.set_cons_succ]))
      refine wpSched_run (fun K hK => ?_)
      go_wp2_with (go_at_call 67; refine (hn _).mono ?_; rintro e w5 ⟨rfl, hb5⟩)
      refine QRun_normal (hK.out _ _ (fsm_below_cell hb5 e0) ?_)
      clear hK K
      repeat (first | (refine' wpSched_take _ (by rfl) (fun wS hS => ?_) ?_; rotate_left; (focus (obtain s1 := hS; go_simp; first | done | rfl)); (try simp only [Act.put, List.setIfInBounds_toArray, List.set_cons_zero, List.set_cons_succ])) | (refine wpSched_skip (by rfl) ?_; try simp only [Act.put, List.setIfInBounds_toArray, List.set_cons_zero, List.set_cons_succ]))
      have hh5 := below_of hb5 (show (World.drew W).heap[w.heap.size + 1 + 1]? = _ from hh)
      have q50 : w5.cell? ⟨w.heap.size + 1 + 1, 0, none⟩ = some (.int .i64 0) := by simp [World.cell?, hh5]
      have q51 : w5.cell? ⟨w.heap.size + 1 + 1, 1, none⟩ = some (.string ⟨#[]⟩) := by simp [World.cell?, hh5]
      have q52 : w5.frozen? ⟨w.heap.size + 1 + 1, 0, none⟩ = false := by simp [World.frozen?, hh5]
      have q53 : w5.frozen? ⟨w.heap.size + 1 + 1, 1, none⟩ = false := by simp [World.frozen?, hh5]
      obtain ⟨k0, k1⟩ := opt_after hh5 (.int .i64 1) (.string N)
      refine wpSched_run (fun K hK => ?_)
      go_wp2_with fail
      refine QRun_normal (hK.out _ _ ?_ ?_)
      · (rw [cell_far, cell_far]; exact fsm_below_cell hb5 e0; all_goals simp)
      clear hK K
      repeat (first | (refine' wpSched_take _ (by rfl) (fun wS hS => ?_) ?_; rotate_left; (focus (obtain s1 := hS; go_simp; first | done | rfl)); (try simp only [Act.put, List.setIfInBounds_toArray, List.set_cons_zero, List.set_cons_succ])) | (refine wpSched_skip (by rfl) ?_; try simp only [Act.put, List.setIfInBounds_toArray, List.set_cons_zero, List.set_cons_succ]))
      refine wpSched_done ?_
      go_wp2_with fail
      refine bodyPost_ret (v := .tuple #[.agg #[.int .i64 1, .string N], .bool true]) (by simp [results, Tryz.results56, go_sem, k0, k1]) rfl ⟨1, N, ?_, ?_, ?_⟩
      · rw [HB.out]; rfl
      · rw [HB.out]; simp
      · exact ((seqB (drewB hBW) hb5).setCell (p := ⟨w.heap.size + 1 + 1, 0, none⟩) (by simp; omega) _).setCell (p := ⟨w.heap.size + 1 + 1, 1, none⟩) (by simp; omega) _
    · go_enter Tryz.func56, Tryz.ntmps56
      go_wp2_with fail
      refine (hval _).mono ?_
      rintro e w' ⟨rfl, rfl⟩
      go_wp2_with fail
      refine (hu _).mono ?_
      rintro e w' ⟨rfl, rfl⟩
      go_wp2_with fail
      obtain ⟨W, hW⟩ : ∃ W, ((w.alloc (.cells Z 23)).alloc (.cells #[.int .i64 17, .string d] 70)).alloc (.cells #[.int .i64 0, .string ⟨#[]⟩] 70) = W := ⟨_, rfl⟩
      have e0 : W.cell? ⟨w.heap.size + 1, 0, none⟩ = some (.int .i64 17) := by rw [← hW]; unfold World.cell?; rw [(three_new w _ _ _).1]; rfl
      have hh : W.heap[w.heap.size + 1 + 1]? = some (.cells #[.int .i64 0, .string ⟨#[]⟩] 70 (0, 0)) := by rw [← hW]; exact (three_new w _ _ _).2
      have hBW : Below w.heap.size w W := by rw [← hW]; exact allocB (allocB (allocB (Below.refl _ _) _) _) _
      rw [hW]
      clear hW
      refine wp_schedL (fun w' => w'.cell? ⟨w.heap.size + 1, 0, none⟩ = some (.int .i64 17)) [(0, true), (1, true), (2, false), (3, true), (4, false), (5, true)] (by kernel_rfl) (by kernel_rfl) rfl (by kernel_rfl) (by kernel_rfl) e0 (fun _ d _ _ _ h => by cases d <;> exact h) ?_
      simp only [schedOps, List.filterMap_cons, List.filterMap_nil, List.getElem?_toArray, List.getElem?_cons_zero, List.getElem?_cons_succ, Option.map_some]
      repeat (first | (refine' wpSched_take _ (by rfl) (fun wS hS => ?_) ?_; rotate_left; (focus (obtain s1 := hS; go_simp; first | done | rfl)); (try simp only [Act.put, List.setIfInBounds_toArray, List.set_cons_zero, List.set_cons_succ])) | (refine wpSched_skip (by rfl) ?_; try simp only [Act.put, List.setIfInBounds_toArray, List.set_cons_zero, List.set_cons_succ]))
      refine wpSched_run (fun K hK => ?_)
      go_wp2_with (go_at_call 67; refine (hn _).mono ?_; rintro e w5 ⟨rfl, hb5⟩)
      refine QRun_normal (hK.out _ _ (fsm_below_cell hb5 e0) ?_)
      clear hK K
      repeat (first | (refine' wpSched_take _ (by rfl) (fun wS hS => ?_) ?_; rotate_left; (focus (obtain s1 := hS; go_simp; first | done | rfl)); (try simp only [Act.put, List.setIfInBounds_toArray, List.set_cons_zero, List.set_cons_succ])) | (refine wpSched_skip (by rfl) ?_; try simp only [Act.put, List.setIfInBounds_toArray, List.set_cons_zero, List.set_cons_succ]))
      have hh5 := below_of hb5 (show (World.drew W).heap[w.heap.size + 1 + 1]? = _ from hh)
      have q50 : w5.cell? ⟨w.heap.size + 1 + 1, 0, none⟩ = some (.int .i64 0) := by simp [World.cell?, hh5]
      have q51 : w5.cell? ⟨w.heap.size + 1 + 1, 1, none⟩ = some (.string ⟨#[]⟩) := by simp [World.cell?, hh5]
      have q52 : w5.frozen? ⟨w.heap.size + 1 + 1, 0, none⟩ = false := by simp [World.frozen?, hh5]
      have q53 : w5.frozen? ⟨w.heap.size + 1 + 1, 1, none⟩ = false := by simp [World.frozen?, hh5]
      obtain ⟨k0, k1⟩ := opt_after hh5 (.int .i64 17) (.string N)
      refine wpSched_run (fun K hK => ?_)
      go_wp2_with fail
      refine QRun_normal (hK.out _ _ ?_ ?_)
      · (rw [cell_far, cell_far]; exact fsm_below_cell hb5 e0; all_goals simp)
      clear hK K
      repeat (first | (refine' wpSched_take _ (by rfl) (fun wS hS => ?_) ?_; rotate_left; (focus (obtain s1 := hS; go_simp; first | done | rfl)); (try simp only [Act.put, List.setIfInBounds_toArray, List.set_cons_zero, List.set_cons_succ])) | (refine wpSched_skip (by rfl) ?_; try simp only [Act.put, List.setIfInBounds_toArray, List.set_cons_zero, List.set_cons_succ]))
      refine wpSched_done ?_
      go_wp2_with fail
      refine bodyPost_ret (v := .tuple #[.agg #[.int .i64 17, .string N], .bool true]) (by simp [results, Tryz.results56, go_sem, k0, k1]) rfl ⟨17, N, ?_, ?_, ?_⟩
      · rw [HB.out]; rfl
      · rw [HB.out]; simp
      · exact ((seqB (drewB hBW) hb5).setCell (p := ⟨w.heap.size + 1 + 1, 0, none⟩) (by simp; omega) _).setCell (p := ⟨w.heap.size + 1 + 1, 1, none⟩) (by simp; omega) _
set_option maxRecDepth 100000 in
set_option maxHeartbeats 4000000 in
theorem rbetter_none (k : Int) (l : LinkM) (d : ByteArray) (w : World) (hz : d.size ≤ 9223372036854775807) (hk : (k ≠ 1 ∧ k ≠ 17 ∧ k ≠ 5) ∨ (k = 5 ∧ valueM d.data.toList ≠ 0 ∧ valueM d.data.toList ≠ l.magic)) :
    Calls Tryz.prog 56 #[.agg (linkCells l), .agg #[.int .i64 k, .string d]] w (BetterPost l (k, d) w) := by
  have hval := fun w => rnumber_any d w hz
  obtain ⟨v, hv⟩ : ∃ v, valueM d.data.toList = v := ⟨_, rfl⟩
  rw [hv] at hval hk
  have HB : Hid (betterM l (k, d) = none) := Lib.hid (by
    unfold betterM
    rw [if_neg (by omega)]
    by_cases h5 : k = 5
    · rw [if_pos h5, if_neg (by simp only [hv]; omega)]
    · rw [if_neg h5])
  have hL : linkCells l = #[.int .i64 l.mru, .int .i64 l.magic, .int .i64 l.mrru, .bool l.short, .string l.disc, .int .i64 l.num] := rfl
  rw [hL]
  clear hv hL
  rcases hk with ⟨h1, h2, h3⟩ | ⟨rfl, h1, h2⟩
  · have q1 : (k == 1) = false := beq_eq_false_iff_ne.2 h1
    have q2 : (k == 17) = false := beq_eq_false_iff_ne.2 h2
    have q3 : (k == 5) = false := beq_eq_false_iff_ne.2 h3
    clear h1 h2 h3
    go_enter Tryz.func56, Tryz.ntmps56
    go_wp2_with fail
    refine (hval _).mono ?_
    rintro e w' ⟨rfl, rfl⟩
    go_wp2_with fail
    refine bodyPost_ret (v := .tuple #[.agg #[.int .i64 0, .string ⟨#[]⟩], .bool false]) (by simp [results, Tryz.results56, go_sem]) rfl ⟨0, ⟨#[]⟩, ?_, ?_, ?_⟩
    · rw [HB.out]; rfl
    · rw [HB.out]; intro b hb; cases hb
    · repeat (first | exact Below.refl _ _ | refine Below.setCell ?_ (by simp) _ | refine Below.setCell ?_ (by simp; omega) _ | apply allocB)
  · have q1 : (v == 0) = false := beq_eq_false_iff_ne.2 h1
    have q2 : (v == l.magic) = false := beq_eq_false_iff_ne.2 h2
    clear h1 h2
    go_enter Tryz.func56, Tryz.ntmps56
    go_wp2_with fail
    refine (hval _).mono ?_
    rintro e w' ⟨rfl, rfl⟩
    go_wp2_with fail
    refine bodyPost_ret (v := .tuple #[.agg #[.int .i64 0, .string ⟨#[]⟩], .bool false]) (by simp [results, Tryz.results56, go_sem]) rfl ⟨0, ⟨#[]⟩, ?_, ?_, ?_⟩
    · rw [HB.out]; rfl
    · rw [HB.out]; intro b hb; cases hb
    · repeat (first | exact Below.refl _ _ | refine Below.setCell ?_ (by simp) _ | refine Below.setCell ?_ (by simp; omega) _ | apply allocB)
set_option maxRecDepth 100000 in
set_option maxHeartbeats 4000000 in
theorem rbetter_magic (l : LinkM) (d : ByteArray) (w : World) (hz : d.size ≤ 9223372036854775807) (h0 : 0 ≤ l.magic) (h1 : l.magic ≤ 4294967295) (hk : valueM d.data.toList = 0 ∨ (valueM d.data.toList ≠ 0 ∧ valueM d.data.toList = l.magic)) :
    Calls Tryz.prog 56 #[.agg (linkCells l), .agg #[.int .i64 5, .string d]] w (BetterPost l (5, d) w) := by
  have hval := fun w => rnumber_any d w hz
  obtain ⟨v, hv⟩ : ∃ v, valueM d.data.toList = v := ⟨_, rfl⟩
  rw [hv] at hval hk
  have HB : Hid (betterM l (5, d) = some (5, bytesOf (numB (max 1 (bits .xor .i64 l.magic 4294967295)) 4))) := Lib.hid (by
    unfold betterM
    rw [if_neg (by omega), if_pos rfl, if_pos (by simp only [hv]; omega)])
  have hmm := max_magic l.magic h0 h1
  have hL : linkCells l = #[.int .i64 l.mru, .int .i64 l.magic, .int .i64 l.mrru, .bool l.short, .string l.disc, .int .i64 l.num] := rfl
  obtain ⟨Y, hY⟩ : ∃ Y, bits .xor .i64 l.magic 4294967295 = Y := ⟨_, rfl⟩
  rw [hY] at HB hmm
  have hY0 : 0 ≤ Y := by
    obtain ⟨n, hn⟩ : ∃ n : Nat, l.magic = n := ⟨l.magic.toNat, by omega⟩
    rw [← hY, hn, show bits .xor .i64 (n : Int) 4294967295 = ((n ^^^ 4294967295 : Nat) : Int) from i64_xor_nat n 4294967295 (by omega) (by decide)]
    omega
  have hn := fun w => rbytes4_any (max 1 Y) w hmm.1 hmm.2
  obtain ⟨N, hN⟩ : ∃ N, bytesOf (numB (max 1 Y) 4) = N := ⟨_, rfl⟩
  rw [hN] at hn HB
  rw [hL]
  clear hv hN hL hmm
  have hc : (v = 0 ∨ (v ≠ 0 ∧ (v == 0) = false ∧ v = l.magic ∧ (v == l.magic) = true)) ∧ (Y = 0 ∨ (Y ≠ 0 ∧ (Y == 0) = false)) := by
    refine ⟨?_, ?_⟩
    · rcases hk with h | ⟨ha, hb⟩
      · exact .inl h
      · exact .inr ⟨ha, beq_eq_false_iff_ne.2 ha, hb, by simp [hb]⟩
    · by_cases h : Y = 0
      · exact .inl h
      · exact .inr ⟨h, beq_eq_false_iff_ne.2 h⟩
  clear hk
  obtain ⟨hv, hy⟩ := hc
  have hM : max 1 Y = if Y = 0 then 1 else Y := by split <;> omega
  rw [hM] at hn
  clear hM h0 h1
  rcases hv with rfl | ⟨h2, q2, h4, q4⟩
  · rcases hy with rfl | ⟨h3, q3⟩
    · rw [if_pos rfl] at hn
      go_enter Tryz.func56, Tryz.ntmps56
      go_wp2_with fail
      refine (hval _).mono ?_
      rintro e w' ⟨rfl, rfl⟩
      go_wp2_with fail
      obtain ⟨W, hW⟩ : ∃ W, ((w.alloc (.cells #[.int .i64 l.mru, .int .i64 l.magic, .int .i64 l.mrru, .bool l.short, .string l.disc, .int .i64 l.num] 23)).alloc (.cells #[.int .i64 5, .string d] 70)).alloc (.cells #[.int .i64 0, .string ⟨#[]⟩] 70) = W := ⟨_, rfl⟩
      have e0 : W.cell? ⟨w.heap.size + 1, 0, none⟩ = some (.int .i64 5) := by rw [← hW]; unfold World.cell?; rw [(three_new w _ _ _).1]; rfl
      have hh : W.heap[w.heap.size + 1 + 1]? = some (.cells #[.int .i64 0, .string ⟨#[]⟩] 70 (0, 0)) := by rw [← hW]; exact (three_new w _ _ _).2
      have hBW : Below w.heap.size w W := by rw [← hW]; exact allocB (allocB (allocB (Below.refl _ _) _) _) _
      rw [hW]
      clear hW
      refine wp_schedL (fun w' => w'.cell? ⟨w.heap.size + 1, 0, none⟩ = some (.int .i64 5)) [(0, true), (1, true), (2, true), (3, false), (4, true), (5, false), (6, true)] (by kernel_rfl) (by kernel_rfl) rfl (by kernel_rfl) (by kernel_rfl) e0 (fun _ d _ _ _ h => by cases d <;> exact h) ?_
      simp only [schedOps, List.filterMap_cons, List.filterMap_nil, List.getElem?_toArray, List.getElem?_cons_zero, List.getElem?_cons_succ, Option.map_some]
      repeat (first | (refine' wpSched_take _ (by rfl) (fun wS hS => ?_) ?_; rotate_left; (focus (obtain s1 := hS; go_simp; first | done | rfl)); (try simp only [Act.put, List.setIfInBounds_toArray, List.set_cons_zero, List.set_cons_succ])) | (refine wpSched_skip (by rfl) ?_; try simp only [Act.put, List.setIfInBounds_toArray, List.set_cons_zero, List.set_cons_succ]))
      refine wpSched_run (fun K hK => ?_)
      go_wp2_with (go_at_call 67; refine (hn _).mono ?_; rintro e w5 ⟨rfl, hb5⟩)
      refine QRun_normal (hK.out _ _ (fsm_below_cell hb5 e0) ?_)
      clear hK K
      repeat (first | (refine' wpSched_take _ (by rfl) (fun wS hS => ?_) ?_; rotate_left; (focus (obtain s1 := hS; go_simp; first | done | rfl)); (try simp only [Act.put, List.setIfInBounds_toArray, List.set_cons_zero, List.set_cons_succ])) | (refine wpSched_skip (by rfl) ?_; try simp only [Act.put, List.setIfInBounds_toArray, List.set_cons_zero, List.set_cons_succ]))
      have hh5 := below_of hb5 (show (World.drew W).heap[w.heap.size + 1 + 1]? = _ from hh)
      have q50 : w5.cell? ⟨w.heap.size + 1 + 1, 0, none⟩ = some (.int .i64 0) := by simp [World.cell?, hh5]
      have q51 : w5.cell? ⟨w.heap.size + 1 + 1, 1, none⟩ = some (.string ⟨#[]⟩) := by simp [World.cell?, hh5]
      have q52 : w5.frozen? ⟨w.heap.size + 1 + 1, 0, none⟩ = false := by simp [World.frozen?, hh5]
      have q53 : w5.frozen? ⟨w.heap.size + 1 + 1, 1, none⟩ = false := by simp [World.frozen?, hh5]
      obtain ⟨k0, k1⟩ := opt_after hh5 (.int .i64 5) (.string N)
      refine wpSched_run (fun K hK => ?_)
      go_wp2_with fail
      refine QRun_normal (hK.out _ _ ?_ ?_)
      · (rw [cell_far, cell_far]; exact fsm_below_cell hb5 e0; all_goals simp)
      clear hK K
      repeat (first | (refine' wpSched_take _ (by rfl) (fun wS hS => ?_) ?_; rotate_left; (focus (obtain s1 := hS; go_simp; first | done | rfl)); (try simp only [Act.put, List.setIfInBounds_toArray, List.set_cons_zero, List.set_cons_succ])) | (refine wpSched_skip (by rfl) ?_; try simp only [Act.put, List.setIfInBounds_toArray, List.set_cons_zero, List.set_cons_succ]))
      refine wpSched_done ?_
      go_wp2_with fail
      refine bodyPost_ret (v := .tuple #[.agg #[.int .i64 5, .string N], .bool true]) (by simp [results, Tryz.results56, go_sem, k0, k1]) rfl ⟨5, N, ?_, ?_, ?_⟩
      · rw [HB.out]; rfl
      · rw [HB.out]; simp
      · exact ((seqB (drewB hBW) hb5).setCell (p := ⟨w.heap.size + 1 + 1, 0, none⟩) (by simp; omega) _).setCell (p := ⟨w.heap.size + 1 + 1, 1, none⟩) (by simp; omega) _
    · rw [if_neg h3] at hn
      go_enter Tryz.func56, Tryz.ntmps56
      go_wp2_with fail
      refine (hval _).mono ?_
      rintro e w' ⟨rfl, rfl⟩
      go_wp2_with fail
      obtain ⟨W, hW⟩ : ∃ W, ((w.alloc (.cells #[.int .i64 l.mru, .int .i64 l.magic, .int .i64 l.mrru, .bool l.short, .string l.disc, .int .i64 l.num] 23)).alloc (.cells #[.int .i64 5, .string d] 70)).alloc (.cells #[.int .i64 0, .string ⟨#[]⟩] 70) = W := ⟨_, rfl⟩
      have e0 : W.cell? ⟨w.heap.size + 1, 0, none⟩ = some (.int .i64 5) := by rw [← hW]; unfold World.cell?; rw [(three_new w _ _ _).1]; rfl
      have hh : W.heap[w.heap.size + 1 + 1]? = some (.cells #[.int .i64 0, .string ⟨#[]⟩] 70 (0, 0)) := by rw [← hW]; exact (three_new w _ _ _).2
      have hBW : Below w.heap.size w W := by rw [← hW]; exact allocB (allocB (allocB (Below.refl _ _) _) _) _
      rw [hW]
      clear hW
      refine wp_schedL (fun w' => w'.cell? ⟨w.heap.size + 1, 0, none⟩ = some (.int .i64 5)) [(0, true), (1, true), (2, true), (3, false), (4, true), (5, false), (6, true)] (by kernel_rfl) (by kernel_rfl) rfl (by kernel_rfl) (by kernel_rfl) e0 (fun _ d _ _ _ h => by cases d <;> exact h) ?_
      simp only [schedOps, List.filterMap_cons, List.filterMap_nil, List.getElem?_toArray, List.getElem?_cons_zero, List.getElem?_cons_succ, Option.map_some]
      repeat (first | (refine' wpSched_take _ (by rfl) (fun wS hS => ?_) ?_; rotate_left; (focus (obtain s1 := hS; go_simp; first | done | rfl)); (try simp only [Act.put, List.setIfInBounds_toArray, List.set_cons_zero, List.set_cons_succ])) | (refine wpSched_skip (by rfl) ?_; try simp only [Act.put, List.setIfInBounds_toArray, List.set_cons_zero, List.set_cons_succ]))
      refine wpSched_run (fun K hK => ?_)
      go_wp2_with (go_at_call 67; refine (hn _).mono ?_; rintro e w5 ⟨rfl, hb5⟩)
      refine QRun_normal (hK.out _ _ (fsm_below_cell hb5 e0) ?_)
      clear hK K
      repeat (first | (refine' wpSched_take _ (by rfl) (fun wS hS => ?_) ?_; rotate_left; (focus (obtain s1 := hS; go_simp; first | done | rfl)); (try simp only [Act.put, List.setIfInBounds_toArray, List.set_cons_zero, List.set_cons_succ])) | (refine wpSched_skip (by rfl) ?_; try simp only [Act.put, List.setIfInBounds_toArray, List.set_cons_zero, List.set_cons_succ]))
      have hh5 := below_of hb5 (show (World.drew W).heap[w.heap.size + 1 + 1]? = _ from hh)
      have q50 : w5.cell? ⟨w.heap.size + 1 + 1, 0, none⟩ = some (.int .i64 0) := by simp [World.cell?, hh5]
      have q51 : w5.cell? ⟨w.heap.size + 1 + 1, 1, none⟩ = some (.string ⟨#[]⟩) := by simp [World.cell?, hh5]
      have q52 : w5.frozen? ⟨w.heap.size + 1 + 1, 0, none⟩ = false := by simp [World.frozen?, hh5]
      have q53 : w5.frozen? ⟨w.heap.size + 1 + 1, 1, none⟩ = false := by simp [World.frozen?, hh5]
      obtain ⟨k0, k1⟩ := opt_after hh5 (.int .i64 5) (.string N)
      refine wpSched_run (fun K hK => ?_)
      go_wp2_with fail
      refine QRun_normal (hK.out _ _ ?_ ?_)
      · (rw [cell_far, cell_far]; exact fsm_below_cell hb5 e0; all_goals simp)
      clear hK K
      repeat (first | (refine' wpSched_take _ (by rfl) (fun wS hS => ?_) ?_; rotate_left; (focus (obtain s1 := hS; go_simp; first | done | rfl)); (try simp only [Act.put, List.setIfInBounds_toArray, List.set_cons_zero, List.set_cons_succ])) | (refine wpSched_skip (by rfl) ?_; try simp only [Act.put, List.setIfInBounds_toArray, List.set_cons_zero, List.set_cons_succ]))
      refine wpSched_done ?_
      go_wp2_with fail
      refine bodyPost_ret (v := .tuple #[.agg #[.int .i64 5, .string N], .bool true]) (by simp [results, Tryz.results56, go_sem, k0, k1]) rfl ⟨5, N, ?_, ?_, ?_⟩
      · rw [HB.out]; rfl
      · rw [HB.out]; simp
      · exact ((seqB (drewB hBW) hb5).setCell (p := ⟨w.heap.size + 1 + 1, 0, none⟩) (by simp; omega) _).setCell (p := ⟨w.heap.size + 1 + 1, 1, none⟩) (by simp; omega) _
  · clear h4
    rcases hy with rfl | ⟨h3, q3⟩
    · rw [if_pos rfl] at hn
      go_enter Tryz.func56, Tryz.ntmps56
      go_wp2_with fail
      refine (hval _).mono ?_
      rintro e w' ⟨rfl, rfl⟩
      go_wp2_with fail
      obtain ⟨W, hW⟩ : ∃ W, ((w.alloc (.cells #[.int .i64 l.mru, .int .i64 l.magic, .int .i64 l.mrru, .bool l.short, .string l.disc, .int .i64 l.num] 23)).alloc (.cells #[.int .i64 5, .string d] 70)).alloc (.cells #[.int .i64 0, .string ⟨#[]⟩] 70) = W := ⟨_, rfl⟩
      have e0 : W.cell? ⟨w.heap.size + 1, 0, none⟩ = some (.int .i64 5) := by rw [← hW]; unfold World.cell?; rw [(three_new w _ _ _).1]; rfl
      have hh : W.heap[w.heap.size + 1 + 1]? = some (.cells #[.int .i64 0, .string ⟨#[]⟩] 70 (0, 0)) := by rw [← hW]; exact (three_new w _ _ _).2
      have hBW : Below w.heap.size w W := by rw [← hW]; exact allocB (allocB (allocB (Below.refl _ _) _) _) _
      rw [hW]
      clear hW
      refine wp_schedL (fun w' => w'.cell? ⟨w.heap.size + 1, 0, none⟩ = some (.int .i64 5)) [(0, true), (1, true), (2, true), (3, false), (4, true), (5, false), (6, true)] (by kernel_rfl) (by kernel_rfl) rfl (by kernel_rfl) (by kernel_rfl) e0 (fun _ d _ _ _ h => by cases d <;> exact h) ?_
      simp only [schedOps, List.filterMap_cons, List.filterMap_nil, List.getElem?_toArray, List.getElem?_cons_zero, List.getElem?_cons_succ, Option.map_some]
      repeat (first | (refine' wpSched_take _ (by rfl) (fun wS hS => ?_) ?_; rotate_left; (focus (obtain s1 := hS; go_simp; first | done | rfl)); (try simp only [Act.put, List.setIfInBounds_toArray, List.set_cons_zero, List.set_cons_succ])) | (refine wpSched_skip (by rfl) ?_; try simp only [Act.put, List.setIfInBounds_toArray, List.set_cons_zero, List.set_cons_succ]))
      refine wpSched_run (fun K hK => ?_)
      go_wp2_with (go_at_call 67; refine (hn _).mono ?_; rintro e w5 ⟨rfl, hb5⟩)
      refine QRun_normal (hK.out _ _ (fsm_below_cell hb5 e0) ?_)
      clear hK K
      repeat (first | (refine' wpSched_take _ (by rfl) (fun wS hS => ?_) ?_; rotate_left; (focus (obtain s1 := hS; go_simp; first | done | rfl)); (try simp only [Act.put, List.setIfInBounds_toArray, List.set_cons_zero, List.set_cons_succ])) | (refine wpSched_skip (by rfl) ?_; try simp only [Act.put, List.setIfInBounds_toArray, List.set_cons_zero, List.set_cons_succ]))
      have hh5 := below_of hb5 (show (World.drew W).heap[w.heap.size + 1 + 1]? = _ from hh)
      have q50 : w5.cell? ⟨w.heap.size + 1 + 1, 0, none⟩ = some (.int .i64 0) := by simp [World.cell?, hh5]
      have q51 : w5.cell? ⟨w.heap.size + 1 + 1, 1, none⟩ = some (.string ⟨#[]⟩) := by simp [World.cell?, hh5]
      have q52 : w5.frozen? ⟨w.heap.size + 1 + 1, 0, none⟩ = false := by simp [World.frozen?, hh5]
      have q53 : w5.frozen? ⟨w.heap.size + 1 + 1, 1, none⟩ = false := by simp [World.frozen?, hh5]
      obtain ⟨k0, k1⟩ := opt_after hh5 (.int .i64 5) (.string N)
      refine wpSched_run (fun K hK => ?_)
      go_wp2_with fail
      refine QRun_normal (hK.out _ _ ?_ ?_)
      · (rw [cell_far, cell_far]; exact fsm_below_cell hb5 e0; all_goals simp)
      clear hK K
      repeat (first | (refine' wpSched_take _ (by rfl) (fun wS hS => ?_) ?_; rotate_left; (focus (obtain s1 := hS; go_simp; first | done | rfl)); (try simp only [Act.put, List.setIfInBounds_toArray, List.set_cons_zero, List.set_cons_succ])) | (refine wpSched_skip (by rfl) ?_; try simp only [Act.put, List.setIfInBounds_toArray, List.set_cons_zero, List.set_cons_succ]))
      refine wpSched_done ?_
      go_wp2_with fail
      refine bodyPost_ret (v := .tuple #[.agg #[.int .i64 5, .string N], .bool true]) (by simp [results, Tryz.results56, go_sem, k0, k1]) rfl ⟨5, N, ?_, ?_, ?_⟩
      · rw [HB.out]; rfl
      · rw [HB.out]; simp
      · exact ((seqB (drewB hBW) hb5).setCell (p := ⟨w.heap.size + 1 + 1, 0, none⟩) (by simp; omega) _).setCell (p := ⟨w.heap.size + 1 + 1, 1, none⟩) (by simp; omega) _
    · rw [if_neg h3] at hn
      go_enter Tryz.func56, Tryz.ntmps56
      go_wp2_with fail
      refine (hval _).mono ?_
      rintro e w' ⟨rfl, rfl⟩
      go_wp2_with fail
      obtain ⟨W, hW⟩ : ∃ W, ((w.alloc (.cells #[.int .i64 l.mru, .int .i64 l.magic, .int .i64 l.mrru, .bool l.short, .string l.disc, .int .i64 l.num] 23)).alloc (.cells #[.int .i64 5, .string d] 70)).alloc (.cells #[.int .i64 0, .string ⟨#[]⟩] 70) = W := ⟨_, rfl⟩
      have e0 : W.cell? ⟨w.heap.size + 1, 0, none⟩ = some (.int .i64 5) := by rw [← hW]; unfold World.cell?; rw [(three_new w _ _ _).1]; rfl
      have hh : W.heap[w.heap.size + 1 + 1]? = some (.cells #[.int .i64 0, .string ⟨#[]⟩] 70 (0, 0)) := by rw [← hW]; exact (three_new w _ _ _).2
      have hBW : Below w.heap.size w W := by rw [← hW]; exact allocB (allocB (allocB (Below.refl _ _) _) _) _
      rw [hW]
      clear hW
      refine wp_schedL (fun w' => w'.cell? ⟨w.heap.size + 1, 0, none⟩ = some (.int .i64 5)) [(0, true), (1, true), (2, true), (3, false), (4, true), (5, false), (6, true)] (by kernel_rfl) (by kernel_rfl) rfl (by kernel_rfl) (by kernel_rfl) e0 (fun _ d _ _ _ h => by cases d <;> exact h) ?_
      simp only [schedOps, List.filterMap_cons, List.filterMap_nil, List.getElem?_toArray, List.getElem?_cons_zero, List.getElem?_cons_succ, Option.map_some]
      repeat (first | (refine' wpSched_take _ (by rfl) (fun wS hS => ?_) ?_; rotate_left; (focus (obtain s1 := hS; go_simp; first | done | rfl)); (try simp only [Act.put, List.setIfInBounds_toArray, List.set_cons_zero, List.set_cons_succ])) | (refine wpSched_skip (by rfl) ?_; try simp only [Act.put, List.setIfInBounds_toArray, List.set_cons_zero, List.set_cons_succ]))
      refine wpSched_run (fun K hK => ?_)
      go_wp2_with (go_at_call 67; refine (hn _).mono ?_; rintro e w5 ⟨rfl, hb5⟩)
      refine QRun_normal (hK.out _ _ (fsm_below_cell hb5 e0) ?_)
      clear hK K
      repeat (first | (refine' wpSched_take _ (by rfl) (fun wS hS => ?_) ?_; rotate_left; (focus (obtain s1 := hS; go_simp; first | done | rfl)); (try simp only [Act.put, List.setIfInBounds_toArray, List.set_cons_zero, List.set_cons_succ])) | (refine wpSched_skip (by rfl) ?_; try simp only [Act.put, List.setIfInBounds_toArray, List.set_cons_zero, List.set_cons_succ]))
      have hh5 := below_of hb5 (show (World.drew W).heap[w.heap.size + 1 + 1]? = _ from hh)
      have q50 : w5.cell? ⟨w.heap.size + 1 + 1, 0, none⟩ = some (.int .i64 0) := by simp [World.cell?, hh5]
      have q51 : w5.cell? ⟨w.heap.size + 1 + 1, 1, none⟩ = some (.string ⟨#[]⟩) := by simp [World.cell?, hh5]
      have q52 : w5.frozen? ⟨w.heap.size + 1 + 1, 0, none⟩ = false := by simp [World.frozen?, hh5]
      have q53 : w5.frozen? ⟨w.heap.size + 1 + 1, 1, none⟩ = false := by simp [World.frozen?, hh5]
      obtain ⟨k0, k1⟩ := opt_after hh5 (.int .i64 5) (.string N)
      refine wpSched_run (fun K hK => ?_)
      go_wp2_with fail
      refine QRun_normal (hK.out _ _ ?_ ?_)
      · (rw [cell_far, cell_far]; exact fsm_below_cell hb5 e0; all_goals simp)
      clear hK K
      repeat (first | (refine' wpSched_take _ (by rfl) (fun wS hS => ?_) ?_; rotate_left; (focus (obtain s1 := hS; go_simp; first | done | rfl)); (try simp only [Act.put, List.setIfInBounds_toArray, List.set_cons_zero, List.set_cons_succ])) | (refine wpSched_skip (by rfl) ?_; try simp only [Act.put, List.setIfInBounds_toArray, List.set_cons_zero, List.set_cons_succ]))
      refine wpSched_done ?_
      go_wp2_with fail
      refine bodyPost_ret (v := .tuple #[.agg #[.int .i64 5, .string N], .bool true]) (by simp [results, Tryz.results56, go_sem, k0, k1]) rfl ⟨5, N, ?_, ?_, ?_⟩
      · rw [HB.out]; rfl
      · rw [HB.out]; simp
      · exact ((seqB (drewB hBW) hb5).setCell (p := ⟨w.heap.size + 1 + 1, 0, none⟩) (by simp; omega) _).setCell (p := ⟨w.heap.size + 1 + 1, 1, none⟩) (by simp; omega) _
theorem rbetter_any (l : LinkM) (o : OptM) (w : World) (h0 : 0 ≤ l.magic) (h1 : l.magic ≤ 4294967295) (hz : o.2.size ≤ 9223372036854775807) :
    Calls Tryz.prog 56 #[.agg (linkCells l), .agg #[.int .i64 o.1, .string o.2]] w (BetterPost l o w) := by
  obtain ⟨k, d⟩ := o
  by_cases k1 : k = 1 ∨ k = 17
  · exact rbetter_unit k k1 l d w hz
  · by_cases k5 : k = 5
    · subst k5
      by_cases v0 : valueM d.data.toList = 0
      · exact rbetter_magic l d w hz h0 h1 (.inl v0)
      · by_cases vm : valueM d.data.toList = l.magic
        · exact rbetter_magic l d w hz h0 h1 (.inr ⟨v0, vm⟩)
        · exact rbetter_none 5 l d w hz (.inr ⟨rfl, v0, vm⟩)
    · exact rbetter_none k l d w hz (.inl ⟨by omega, by omega, k5⟩)
end Go.Proofs.YtagnbdenecphcaaGreatDoor
