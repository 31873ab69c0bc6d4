/- ConsoleWrong walked. -/
import Derived.Test.YteigigepmoicaaaGreatDoorCon19
import Derived.Test.YteigigepmoicaaaGreatDoorCon22
import Derived.Test.YteigigepmoicaaaGreatDoorCon24
namespace Go.Proofs.YteigigepmoicaaaGreatDoor
open Go.RowKit Go.Crc
set_option linter.unusedVariables false
set_option linter.unusedSimpArgs false
/-- append of one text, beside a row of something else -/
theorem wpList_appT2 {ops : Array Oper} {rest : List Oper} {o : Oper} {a : Act} {w : World} {Q : Exit → Act → World → Prop} (hgd : o.guard = none) (s x : Operand)
    (ho : o.op = .call { callee := .builtin .append, args := #[s, x], argTypes := #[35, 35] })
    (W0 : World) (v : Value) (l : List ByteArray) (p : ByteArray) (c : Nat) (hown : OwnT w W0.heap.size v l) (hs : a.eval s = v) (hx : a.eval x = .slice (some ⟨w.heap.size, 0, none⟩) 1 c)
    (hlen : (l.length + 1) * 16 ≤ 140737488355328) (hbel : Below W0.heap.size W0 w)
    (B : Nat) (cs : Array Value) (te : TypeId) (fz : Nat × Nat) (hB : w.heap[B]? = some (.cells cs te fz)) (hte : te ≠ 9)
    (h : ∀ v' w', OwnT w' W0.heap.size v' (l ++ [p]) → Below W0.heap.size W0 w' → w'.heap[B]? = some (.cells cs te fz) → wpList Tryz.prog ops Q rest (a.put o.dst v') w') :
    wpList Tryz.prog ops Q (o :: rest) a (w.alloc (.cells #[.string p] 9)) := by
  obtain ⟨i0, hi, hz0, hz1, hz2⟩ := info_parts infoStr
  have hb2 : Below W0.heap.size W0 (w.alloc (.cells #[.string p] 9)) := allocB hbel _
  have hBl : B < w.heap.size := (Array.getElem?_eq_some_iff.1 hB).1
  have hne : some B ≠ v.ownBlock := by
    rcases hown.2 with ⟨rfl, _⟩ | ⟨g, cap, cur, rfl, hg, hh, _⟩
    · exact fun e => by cases e
    · intro e
      cases e
      rw [hB] at hh
      injection hh with hh
      injection hh with h1 h2 h3
      exact hte h2
  refine wpList_append_own _ hgd s x _ ho W0.heap.size 9 i0 (.string ByteArray.empty) 1 16 Tryz.underlying35 hi hz0 hz1 hz2 rfl (by decide) v l.length (l.map Value.string) hs (hown.below ((Below.refl _ _).alloc (Nat.le_refl _) _)) ⟨w.heap.size, 0, none⟩ 1 c [.string p] hx rfl ?_ ?_ ?_ ?_ ?_ ?_
  · intro j u hu
    have hadd : (⟨w.heap.size, 0, none⟩ : Addr).add j = ⟨w.heap.size, j, none⟩ := by unfold Addr.add; split <;> simp_all
    rw [hadd, World.cell?_alloc_new]
    simpa using hu
  · intro u hu
    rw [List.mem_singleton] at hu
    subst hu; rfl
  · simp only [maxLen]; omega
  · exact hlen
  · exact hb2.size
  · intro v' w' hown' hg _
    refine h v' w' ?_ (hb2.grown hg hb2.size hown.block) ?_
    · unfold OwnT
      rw [List.map_append, List.length_append]
      exact hown'
    · rw [hg.block B (by have := hb2.size; simp; omega) hne]
      exact (((Below.refl w.heap.size w).alloc (Nat.le_refl _) (.cells #[.string p] 9)).block B hBl).trans hB
def badB : ByteArray := ⟨#[101, 114, 114, 111, 114, 32, 50, 56, 48, 48]⟩
def fillA (k : Nat) : Array Value := (List.replicate k (Value.string badB) ++ List.replicate (12 - k) (Value.string ByteArray.empty)).toArray
theorem fill_set (k : Nat) (h : k < 12) : (fillA k).setIfInBounds k (.string badB) = fillA (k + 1) := by
  rcases (by omega : k = 0 ∨ k = 1 ∨ k = 2 ∨ k = 3 ∨ k = 4 ∨ k = 5 ∨ k = 6 ∨ k = 7 ∨ k = 8 ∨ k = 9 ∨ k = 10 ∨ k = 11) with rfl | rfl | rfl | rfl | rfl | rfl | rfl | rfl | rfl | rfl | rfl | rfl <;> rfl
theorem fill_size (k : Nat) (h : k ≤ 12) : (fillA k).size = 12 := by
  unfold fillA; simp; omega
theorem fill_make (w : World) : (Instr.makeSlice 35 (.int .i64 12) (.int .i64 12)).run Tryz.prog w = .ok (.slice (some ⟨w.heap.size, 0, none⟩) 12 12) (w.alloc (.cells (fillA 0) 9)) := by
  obtain ⟨i0, hi, hz0, hz1, hz2⟩ := info_parts infoStr
  have hr := run_makeSlice w 35 9 i0 (.string ByteArray.empty) Tryz.underlying35 hi hz0 .i64 .i64 12 12 (by omega) (Int.le_refl _) (by rw [hz1]; omega) (by rw [hz2]; omega) (by omega)
  rw [hz1] at hr
  have e : madeCells (Value.string ByteArray.empty).cells (Int.toNat 12 * 1) = fillA 0 := by kernel_rfl
  rw [e] at hr
  exact hr
theorem fill_own (w : World) (b : Nat) (hb : b ≤ w.heap.size) : OwnT (w.alloc (.cells (fillA 12) 9)) b (.slice (some ⟨w.heap.size, 0, none⟩) 12 12) (List.replicate 12 badB) :=
  ⟨rfl, .inr ⟨w.heap.size, 12, fillA 12, rfl, hb, (MapKept.heap_alloc _ _).1, Nat.le_refl _, by unfold maxLen; decide, rfl, by rfl⟩⟩
theorem wrong_cell (w : World) (t : TypeId) (fz : Nat × Nat) (B : Nat) (h : w.heap[B]? = some (.cells ((wrongS.map bytesOf).map Value.string).toArray t fz)) (j : Nat) (hj : j < 22) : w.cell? ⟨B, j, none⟩ = some (.string (bytesOf (wrongS.getD j []))) := by
  have hj' : j < wrongS.length := hj
  simp [World.cell?, h, hj']
theorem wrongS_len : ∀ j, j < 22 → (wrongS.getD j []).length ≤ 30 := by decide
def tailN : List Int := [1000, 1000, 1001, 303, 300, 300, 1200, 2400, 2400, 2400]
def tailC : Array Value := (tailN.map (Value.int .i64)).toArray
theorem tail_at : ∀ j, j < 10 → 0 ≤ tailN.getD j 0 ∧ tailN.getD j 0 ≤ 9999 := by decide
theorem tail_cell (w : World) (t : TypeId) (fz : Nat × Nat) (B : Nat) (h : w.heap[B]? = some (.cells tailC t fz)) (j : Nat) (hj : j < 10) : w.cell? ⟨B, j, none⟩ = some (.int .i64 (tailN.getD j 0)) := by
  have hj' : j < tailN.length := hj
  simp [World.cell?, h, tailC, hj']
def wantT (k : Nat) : List ByteArray := List.replicate 12 badB ++ (tailN.take k).map (fun e => bytesOf (errW e))
theorem want_more (k : Nat) (h : k < 10) : wantT (k + 1) = wantT k ++ [bytesOf (errW (tailN.getD k 0))] := by
  rcases (by omega : k = 0 ∨ k = 1 ∨ k = 2 ∨ k = 3 ∨ k = 4 ∨ k = 5 ∨ k = 6 ∨ k = 7 ∨ k = 8 ∨ k = 9) with rfl | rfl | rfl | rfl | rfl | rfl | rfl | rfl | rfl | rfl <;> rfl
theorem want_len (k : Nat) (h : k ≤ 10) : (wantT k).length = 12 + k := by
  have : tailN.length = 10 := rfl
  unfold wantT; simp [this]; omega
theorem want_at (j : Nat) (h : j < 22) (h2 : j < (wantT 10).length) : (wantT 10)[j] = bytesOf (wrongW.getD j []) := by
  have hw : wantT 10 = wrongW.map bytesOf := by decide +kernel
  have hl : j < (wrongW.map bytesOf).length := by rw [← hw]; exact h2
  rw [List.getElem_of_eq hw, List.getElem_map]
  congr 1
  rw [List.getD_eq_getElem?_getD, List.getElem?_eq_getElem (by simpa using hl)]
  rfl
set_option maxRecDepth 100000 in
set_option maxHeartbeats 4000000 in
theorem lwrong_walk (a0 : Int) (ml : Int) (w : World) (ht : TabW w) (hm : MaxLenIs w ml) :
    Calls Tryz.prog 9 #[.int .i64 a0] w fun e w' => e = .returned (.bool true) ∧ Below w.heap.size w w' := by
  have haw := fun w ht hm => awake28_any ml w ht hm
  have hmk := fun w => fill_make w
  obtain ⟨j, hj22, hj⟩ : ∃ j : Nat, j < 22 ∧ (IntKind.u64.wrap a0).tmod 22 = (j : Int) := by
    have h1 : 0 ≤ IntKind.u64.wrap a0 := by rw [IntKind.wrap_u64]; omega
    refine ⟨((IntKind.u64.wrap a0).tmod 22).toNat, ?_, ?_⟩
    · rw [Int.tmod_eq_emod_of_nonneg h1]; omega
    · rw [Int.tmod_eq_emod_of_nonneg h1]; omega
  have hj22i : (j : Int) < 22 := by omega
  go_enter Tryz.func9, Tryz.ntmps9
  go_wp2_with fail
  refine (haw _ ht hm).mono ?_
  rintro e w1 ⟨rfl, hb1⟩
  go_wp2_with fail
  obtain ⟨W, hW⟩ : ∃ W, w1.alloc (.cells ((wrongS.map bytesOf).map Value.string).toArray 9) = W := ⟨_, rfl⟩
  have hbW : Below w.heap.size w W := by rw [← hW]; exact allocB hb1 _
  have hrow : W.heap[w1.heap.size]? = some (.cells ((wrongS.map bytesOf).map Value.string).toArray 9 (0, 0)) := by rw [← hW]; exact (MapKept.heap_alloc _ _).1
  have hWs : w1.heap.size + 1 = W.heap.size := by rw [← hW]; simp
  simp only [wrongS, List.map_cons, List.map_nil, bytesOf] at hW
  rw [hW, hWs]
  obtain ⟨B, hB⟩ : ∃ B, w1.heap.size = B := ⟨_, rfl⟩
  rw [hB] at hrow ⊢
  clear hW hb1 hWs hmk
  go_loopw [5] (fun i wr => ∃ k : Nat, k ≤ 12 ∧ i = .int .i64 k ∧ wr = W.alloc (.cells (fillA k) 9)) (fun i _ => 12 - (intOf i).toNat)
  case atStart => exact ⟨0, by omega, rfl, rfl⟩
  case round =>
    obtain ⟨k, hk, rfl, rfl⟩ := hrel
    by_cases hlt : k < 12
    · have hki : (k : Int) < 12 := by omega
      have hsz := fill_size k hk
      have hst := fill_set k hlt
      have hsz' : k < (fillA k).size := by omega
      go_wp2_with fail
      go_roundw
      case rel => exact ⟨k + 1, by omega, by go_num, by rw [← hst]; rfl⟩
      case measure => simp [intOf]; omega
    · obtain rfl : k = 12 := by omega
      have hown0 := fill_own W W.heap.size (Nat.le_refl _)
      have hbV : Below W.heap.size W (W.alloc (.cells (fillA 12) 9)) := allocB (Below.refl _ _) _
      obtain ⟨V, hV⟩ : ∃ V, W.alloc (.cells (fillA 12) 9) = V := ⟨_, rfl⟩
      rw [hV] at hown0 hbV ⊢
      clear hV
      go_wp2_with fail
      have hbX : Below W.heap.size W (V.alloc (.cells tailC 3)) := allocB hbV _
      have htl : (V.alloc (.cells tailC 3)).heap[V.heap.size]? = some (.cells tailC 3 (0, 0)) := (MapKept.heap_alloc _ _).1
      have hown1 := hown0.below ((Below.refl _ V).alloc (Nat.le_refl _) (.cells tailC 3))
      obtain ⟨X, hX⟩ : ∃ X, V.alloc (.cells tailC 3) = X := ⟨_, rfl⟩
      rw [hX] at hbX htl hown1
      simp only [tailC, tailN, List.map_cons, List.map_nil] at hX
      rw [hX]
      obtain ⟨C, hC⟩ : ∃ C, V.heap.size = C := ⟨_, rfl⟩
      rw [hC] at htl ⊢
      clear hX hown0 hbV
      go_loopw [4, 7] (fun v i wr => ∃ k : Nat, k ≤ 10 ∧ i = .int .i64 k ∧ OwnT wr W.heap.size v (wantT k) ∧ wr.heap[C]? = some (.cells tailC 3 (0, 0)) ∧ Below W.heap.size W wr) (fun _ i _ => 10 - (intOf i).toNat)
      case atStart => exact ⟨0, by omega, rfl, hown1, htl, hbX⟩
      case round =>
        obtain ⟨k, hk, rfl, hown, hC2, hbl⟩ := hrel
        have hwl := want_len k hk
        obtain ⟨va, vc, rfl⟩ := hown.form
        by_cases hlt : k < 10
        · have hki : (k : Int) < 10 := by omega
          have hcell := tail_cell wr _ _ C hC2 k hlt
          have hta := tail_at k hlt
          have HM := Lib.hid (want_more k hlt)
          obtain ⟨n, hn⟩ : ∃ n, tailN.getD k 0 = n := ⟨_, rfl⟩
          rw [hn] at hcell hta HM
          have hwr := fun w => wrong_any n hta.1 (by omega) w
          have HWL := Lib.hid hwl
          clear hwl hn
          go_wp2_with fail
          refine (hwr _).mono ?_
          rintro e w2 ⟨rfl, hb2⟩
          have hown2 := hown.below hb2
          have hbl2 := seqB hbl hb2
          have hC3 := (hb2.block C (Array.getElem?_eq_some_iff.1 hC2).1).trans hC2
          go_wp2_with (at_builtin; refine wpList_appT2 rfl _ _ rfl W _ _ _ 1 hown2 rfl rfl (by have := HWL.out; omega) hbl2 C _ _ _ hC3 (by decide) ?_; intro v' w3 hown3 hbl3 hC4)
          refine ⟨?_, ?measure⟩
          · iterate 14 apply Exists.intro
            refine ⟨?rel, rfl⟩
            exact ⟨k + 1, by omega, by go_num, by rw [HM.out]; exact hown3, hC4, hbl3⟩
          case measure => simp [intOf]; omega
        · obtain rfl : k = 10 := by omega
          have hki : ¬ ((10 : Nat) : Int) < 10 := by omega
          rcases hown.at with ⟨h0, _⟩ | ⟨g, o, c, hv, hat⟩
          · rw [h0] at hwl; simp at hwl
          injection hv with hv1 hv2 hv3
          subst hv1 hv3
          have hlt22 : j < (wantT 10).length := by omega
          have hcw := hat j hlt22
          rw [want_at j hj22 hlt22] at hcw
          have hcs := fsm_below_cell hbl (wrong_cell W _ _ B hrow j hj22)
          have hrl := wrongS_len j hj22
          have hrun := wrong_run j hj22
          obtain ⟨S, hS⟩ : ∃ S, wrongS.getD j [] = S := ⟨_, rfl⟩
          obtain ⟨P, hP⟩ : ∃ P, wrongW.getD j [] = P := ⟨_, rfl⟩
          rw [hS] at hcs hrl hrun
          rw [hP] at hcw hrun
          have hone := fun w ht hm => one_any (bytesOf S) P ml w (by rw [bytesOf_size]; omega) hrun ht hm
          have hself : ((bytesOf P).toList == (bytesOf P).toList) = true := beq_self_eq_true _
          have hBr := seqB hbW hbl
          have htr := ht.below hBr
          have hmr := hm.below hBr
          rw [hwl] at *
          clear hS hP hrun hrl hat hown hC2 htl hown1 haw hv2 hlt22
          go_wp2_with fail
          refine wp_schedL (fun w' => w'.cell? ⟨B, j, none⟩ = some (.string (bytesOf S)) ∧ w'.cell? ⟨g, o + j, none⟩ = some (.string (bytesOf P))) [(0, true), (1, true), (2, true), (3, true), (5, true), (6, true), (7, true), (8, true), (4, false), (9, true), (10, true)] (by kernel_rfl) (by kernel_rfl) rfl (by kernel_rfl) (by kernel_rfl) ⟨hcs, hcw⟩ (fun _ d _ _ _ h => by cases d <;> exact h) ?_
          simp only [schedOps, List.filterMap_cons, List.filterMap_nil, List.getElem?_toArray, List.getElem?_cons_zero, List.getElem?_cons_succ, Option.map_some]
          repeat (first | (refine' wpSched_take _ (by rfl) (fun wS hS => ?_) ?_; rotate_left; (focus (obtain ⟨j0, j1⟩ := hS; go_simp; first | done | rfl)); (try simp only [Act.put, List.setIfInBounds_toArray, List.set_cons_zero, List.set_cons_succ])) | (refine wpSched_skip (by rfl) ?_; try simp only [Act.put, List.setIfInBounds_toArray, List.set_cons_zero, List.set_cons_succ]))
          refine wpSched_run (fun K hK => ?_)
          go_wp2_with (go_at_call 17; refine (hone _ (htr.below (Below.refl _ _).drew) (hmr.below (Below.refl _ _).drew)).mono ?_; rintro e w2 ⟨rfl, hb2⟩)
          have gg := fun {x : Addr} {v : Value} (h : wr.cell? x = some v) => fsm_below_cell (W := wr.drew) hb2 h
          refine QRun_normal (hK.out _ _ ⟨gg hcs, gg hcw⟩ ?_)
          clear hK K
          repeat (first | (refine' wpSched_take _ (by rfl) (fun wS hS => ?_) ?_; rotate_left; (focus (obtain ⟨j0, j1⟩ := hS; go_simp; first | done | rfl)); (try simp only [Act.put, List.setIfInBounds_toArray, List.set_cons_zero, List.set_cons_succ])) | (refine wpSched_skip (by rfl) ?_; try simp only [Act.put, List.setIfInBounds_toArray, List.set_cons_zero, List.set_cons_succ]))
          refine wpSched_done ?_
          go_wp2_with fail
          go_ret
          exact ⟨rfl, seqB hBr.drew hb2⟩
end Go.Proofs.YteigigepmoicaaaGreatDoor
