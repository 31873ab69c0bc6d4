/- Package digest: constants, Of: walked. -/
import Derived.Test.YteigigepmoicaaaGreatDoorMd5T
import Derived.Test.YteigigepmoicaaaGreatDoorMg4
namespace Go.Proofs.YteigigepmoicaaaGreatDoor
open Go.RowKit
set_option linter.unusedVariables false
set_option linter.unusedSimpArgs false
def sineCells : Array Value := (sinesT.map fun (n : Nat) => Value.int .u32 (n : Int)).toArray
def zsines : Array Value := Array.replicate 64 (.int .u32 0)
theorem zero_sines (w : World) : (zeroValue 119).run Tryz.prog w = .ok (.agg zsines) w := by kernel_rfl
set_option maxRecDepth 100000 in
set_option maxHeartbeats 4000000 in
theorem constants_any (w : World) : Calls Tryz.prog 87 #[] w fun e w' => e = .returned (.agg sineCells) ∧ Below w.heap.size w w' := by
  have hz := zero_sines
  have hsz : Hid (zsines.size = sineCells.size) := Lib.hid (by decide +kernel)
  have hone : Hid (sineCells.all (·.oneCell') = true) := Lib.hid (by decide +kernel)
  go_enter Tryz.func87, Tryz.ntmps87
  go_wp2_with (first
    | (refine wpList_build2 rfl 119 _ rfl sineCells (by kernel_rfl) ?_)
    | (refine wpList_store_new rfl 119 _ _ rfl sineCells rfl rfl 119 zsines (by kernel_rfl) hsz.out hone.out ?_))
  refine bodyPost_ret (results_cell_row rfl _ _ w.heap.size 119 sineCells (0, 0) _ rfl (heap_alloc_last _ _) Tryz.underlying119 rfl (by kernel_rfl)) rfl ⟨rfl, allocB (Below.refl _ _) _⟩
theorem tail_le (n : Nat) (h : n < 4294967296) : mdTail n = [n, 0].flatMap le4 := by
  have e : ∀ k, 4294967296 ≤ k → n / k = 0 := fun k hk => Nat.div_eq_of_lt (by omega)
  simp only [mdTail, List.flatMap_cons, List.flatMap_nil, le4, List.map_cons, List.map_nil, List.append_nil, List.cons_append, List.nil_append]
  rw [e 4294967296 (by decide), e 1099511627776 (by decide), e 281474976710656 (by decide), e 72057594037927936 (by decide)]
def padB (z : Nat) : List UInt8 := 128 :: List.replicate z 0
/-- the row of bytes that was made, its first turned -/
theorem pad_made (w : World) (z : Nat) (hz : z < 64) : ∃ R0 : Array Value,
    (Instr.makeSlice 27 (.int .i64 (1 + (z : Int))) (.int .i64 (1 + (z : Int)))).run Tryz.prog w = .ok (.slice (some ⟨w.heap.size, 0, none⟩) (1 + z) (1 + z)) (w.alloc (.cells R0 5)) ∧ R0[0]? = some (.int .u8 0) ∧
    Own (w.alloc (.cells (R0.setIfInBounds 0 (.int .u8 128)) 5)) w.heap.size (.slice (some ⟨w.heap.size, 0, none⟩) (1 + z) (1 + z)) (padB z) := by
  obtain ⟨i0, hi, hz0, hz1, hz2⟩ := info_parts infoU8
  have hr := run_makeSlice w 27 5 i0 (.int .u8 0) Tryz.underlying27 hi hz0 .i64 .i64 (1 + (z : Int)) (1 + (z : Int)) (by omega) (Int.le_refl _) (by rw [hz1]; omega) (by rw [hz2]; omega) (by omega)
  have e1 : (1 + (z : Int)).toNat = 1 + z := by omega
  rw [hz1, e1, Nat.mul_one] at hr
  have hR : ∀ i, i < 1 + z → (madeCells (Value.int .u8 0).cells (1 + z))[i]? = some (.int .u8 0) := fun i hi => by
    rw [madeCells, Array.getElem?_map, Array.getElem?_range, if_pos (by omega)]
    show some ((Value.int IntKind.u8 0).cells[i % 1]!) = _
    rw [Nat.mod_one]
    rfl
  have hRs : (madeCells (Value.int .u8 0).cells (1 + z)).size = 1 + z := size_madeCells _ _
  obtain ⟨R0, hR0⟩ : ∃ R0, madeCells (Value.int .u8 0).cells (1 + z) = R0 := ⟨_, rfl⟩
  rw [hR0] at hr hR hRs
  refine ⟨R0, hr, hR 0 (by omega), ?_⟩
  have hl : (padB z).length = 1 + z := by simp [padB]; omega
  refine ⟨by rw [Lib.byteCells_length, Nat.mul_one], .inr ⟨w.heap.size, 1 + z, _, by rw [hl], Nat.le_refl _, heap_alloc_last _ _, by rw [hl]; exact Nat.le_refl _, by unfold maxLen; omega, by simp [hRs], ?_⟩⟩
  rw [hl, Nat.mul_one]
  apply List.ext_getElem?
  intro i
  by_cases hi2 : i < 1 + z
  · rw [List.getElem?_take_of_lt hi2, Array.getElem?_toList, Array.getElem?_setIfInBounds]
    by_cases h0 : 0 = i
    · subst h0
      rw [if_pos rfl, if_pos (by omega)]
      rfl
    · rw [if_neg h0, hR i hi2]
      cases i with
      | zero => exact absurd rfl h0
      | succ i =>
        simp only [padB, Lib.byteCells, List.map_cons, List.getElem?_cons_succ, List.getElem?_map]
        rw [List.getElem?_replicate, if_pos (by omega)]
        rfl
  · rw [List.getElem?_eq_none (by simp; omega), List.getElem?_eq_none (by rw [Lib.byteCells_length, hl]; omega)]
def stateCells : Array Value := #[.int .u32 1732584193, .int .u32 4023233417, .int .u32 2562383102, .int .u32 271733878] ++ sineCells
theorem state_new (w : World) : StAt (w.alloc (.cells stateCells 122)) w.heap.size mdInit := by
  have ht : (List.range 64).map (fun i => stateCells[4 + i]?) = (List.range 64).map (fun i => some (Value.int .u32 (sinesT.getD i 0 : Int))) := by kernel_rfl
  have hk : ∀ i, i < 64 → stateCells[4 + i]? = some (Value.int .u32 (sinesT.getD i 0 : Int)) := fun i hi => by
    have h := congrArg (fun l => l[i]?) ht
    simp only [List.getElem?_map, List.getElem?_range hi, Option.map_some] at h
    exact Option.some.inj h
  refine ⟨fun j hj => ?_, fun i hi => ?_, fun j hj => by simp [go_sem]⟩
  · rw [World.cell?_alloc_new]
    match j, hj with
    | 0, _ => rfl
    | 1, _ => rfl
    | 2, _ => rfl
    | 3, _ => rfl
  · rw [World.cell?_alloc_new]
    exact hk i hi
theorem mdBlocks_succ : ∀ (k : Nat) (h : MdS) (l : List UInt8), mdBlocks (k + 1) h l = mdBlock (mdBlocks k h l) ((l.drop (64 * k)).take 64)
  | 0, h, l => by simp [mdBlocks]
  | k + 1, h, l => by
    rw [mdBlocks, mdBlocks_succ k]
    rw [show mdBlocks (k + 1) h l = mdBlocks k (mdBlock h (l.take 64)) (l.drop 64) from rfl, List.drop_drop]
    congr 3
    omega
theorem mdBlocks_ok : ∀ (k : Nat) (h : MdS) (l : List UInt8), h.ok → (mdBlocks k h l).ok
  | 0, h, l, hk => hk
  | k + 1, h, l, hk => mdBlocks_ok k _ _ (mdAdd_ok _ _)
def strLen : Value → Nat
  | .string s => s.size
  | _ => 0
set_option maxRecDepth 100000 in
set_option maxHeartbeats 8000000 in
theorem dof_any (s : ByteArray) (w : World) (hs : s.size ≤ 1000000) :
    Calls Tryz.prog 65 #[.string s] w fun e w' => e = .returned (.string (bytesOf (md5M s.data.toList))) ∧ Below w.heap.size w w' := by
  have hm1 : (s.size : Int).tmod 64 = ((s.size % 64 : Nat) : Int) := by rw [Int.tmod_eq_emod_of_nonneg (by omega)]; omega
  obtain ⟨r, hr⟩ : ∃ r, s.size % 64 = r := ⟨_, rfl⟩
  have hr64 : r < 64 := by omega
  rw [hr] at hm1
  have hm2 : (119 - (r : Int)).tmod 64 = (((119 - r) % 64 : Nat) : Int) := by rw [Int.tmod_eq_emod_of_nonneg (by omega)]; omega
  obtain ⟨z, hz⟩ : ∃ z, (119 - r) % 64 = z := ⟨_, rfl⟩
  have hz64 : z < 64 := by omega
  rw [hz] at hm2
  have HP : Hid (mdPad s.data.toList = s.data.toList ++ (padB z ++ [s.size * 8, 0].flatMap le4)) := Lib.hid (by
    have hzz : mdZeros s.data.toList.length = z := by rw [len_toList]; unfold mdZeros; rw [hr, hz]
    unfold mdPad
    rw [hzz, len_toList, Nat.mul_comm 8, tail_le (s.size * 8) (by omega), List.append_assoc]
    rfl)
  clear hr hz
  obtain ⟨R0, hmk, hR0, hown⟩ := pad_made w z hz64
  have hcv := hown.conv
  obtain ⟨W1, hW1⟩ : ∃ W1, w.alloc (.cells (R0.setIfInBounds 0 (.int .u8 128)) 5) = W1 := ⟨_, rfl⟩
  have hB1 : Below w.heap.size w W1 := by rw [← hW1]; exact allocB (Below.refl _ _) _
  rw [hW1] at hown hcv
  have HOWN := Lib.hid hown
  clear hown
  go_enter Tryz.func65, Tryz.ntmps65
  go_wp2_with fail
  refine wp_schedL (fun w' => (convert 27 9 (.slice (some ⟨w.heap.size, 0, none⟩) (1 + z) (1 + z))).run Tryz.prog w' = .ok (.string (bytesOf (padB z))) w') [(0, true), (1, true), (2, true), (3, true), (4, true), (5, true), (6, true), (7, true), (8, false), (9, false), (10, true), (11, true), (12, true)] (by kernel_rfl) (by kernel_rfl) rfl (by kernel_rfl) (by kernel_rfl) (HOWN.out.below (Below.refl _ _).drew).conv (fun _ d _ _ _ h => by cases d <;> exact h) ?_
  simp only [schedOps, List.filterMap_cons, List.filterMap_nil, List.getElem?_toArray, List.getElem?_cons_zero, List.getElem?_cons_succ, Option.map_some]
  repeat (first | (refine' wpSched_take _ (by rfl) (fun wS hS => ?_) ?_; rotate_left; (focus (obtain j0 := hS; go_simp; first | done | rfl)); (try simp only [Act.put, List.setIfInBounds_toArray, List.set_cons_zero, List.set_cons_succ])) | (refine wpSched_skip (by rfl) ?_; try simp only [Act.put, List.setIfInBounds_toArray, List.set_cons_zero, List.set_cons_succ]))
  refine wpSched_run (fun K hK => ?_)
  go_wp2_with fail
  have hd0 : (s.size : Int) * 8 / 4294967296 = 0 := by omega
  rw [hd0]
  obtain ⟨W2, hW2⟩ : ∃ W2, (W1.alloc (.cells #[.int .u32 ((s.size : Int) * 8), .int .u32 0] 73)).drew = W2 := ⟨_, rfl⟩
  have hB2 : Below W1.heap.size W1 W2 := by rw [← hW2]; exact drewB (allocB (Below.refl _ _) _)
  have hwd : WordsAt W2 W1.heap.size 0 [s.size * 8, 0] := by
    intro j hj
    rw [← hW2]
    show (W1.alloc (.cells #[.int .u32 ((s.size : Int) * 8), .int .u32 0] 73)).cell? ⟨W1.heap.size, 0 + j, none⟩ = _
    rw [Nat.zero_add, World.cell?_alloc_new]
    match j, hj with
    | 0, _ => rfl
    | 1, _ => rfl
  have hg2 : W1.heap.size < W2.heap.size := by rw [← hW2]; show _ < (W1.alloc _).heap.size; simp
  rw [hW2]
  refine QRun_normal (hK.out _ _ (HOWN.out.below hB2).conv ?_)
  clear hK K hW2 hd0
  repeat (first | (refine' wpSched_take _ (by rfl) (fun wS hS => ?_) ?_; rotate_left; (focus (obtain j0 := hS; go_simp; first | done | rfl)); (try simp only [Act.put, List.setIfInBounds_toArray, List.set_cons_zero, List.set_cons_succ])) | (refine wpSched_skip (by rfl) ?_; try simp only [Act.put, List.setIfInBounds_toArray, List.set_cons_zero, List.set_cons_succ]))
  refine wpSched_run (fun K hK => ?_)
  go_wp2_with (go_at_call 86; refine (dwords_any W1.heap.size 0 2 [s.size * 8, 0] _ (by simp) (by simp) (by unfold maxLen; decide) hwd hg2).mono ?_; rintro e w3 ⟨rfl, hb3⟩)
  have hB3 := seqB hB2 hb3
  refine QRun_normal (hK.out _ _ (HOWN.out.below hB3).conv ?_)
  clear hK K
  have l1 : (bytesOf (padB z)).size ≤ 65 := by rw [bytesOf_size]; simp [padB]; omega
  have l2 : (bytesOf (le4 (s.size * 8) ++ le4 0)).size = 8 := by rw [bytesOf_size]; simp [le4]
  have g1 : ¬ 9223372036854775807 < (bytesOf (padB z)).size + (bytesOf (le4 (s.size * 8) ++ le4 0)).size := by omega
  have g2 : ¬ 9223372036854775807 < s.size + (bytesOf (padB z) ++ bytesOf (le4 (s.size * 8) ++ le4 0)).size := by rw [ByteArray.size_append]; omega
  have g3 : ¬ 9223372036854775807 < s.size + ((bytesOf (padB z)).size + (bytesOf (le4 (s.size * 8) ++ le4 0)).size) := by omega
  clear l1 l2
  repeat (first | (refine' wpSched_take _ (by rfl) (fun wS hS => ?_) ?_; rotate_left; (focus (obtain j0 := hS; go_simp; first | done | rfl)); (try simp only [Act.put, List.setIfInBounds_toArray, List.set_cons_zero, List.set_cons_succ])) | (refine wpSched_skip (by rfl) ?_; try simp only [Act.put, List.setIfInBounds_toArray, List.set_cons_zero, List.set_cons_succ]))
  refine wpSched_done ?_
  have hBw := seqB hB1 hB3
  clear hwd hg2 hB2 hb3 hcv hmk
  go_wp2_with (first
    | (go_at_call 87; refine (constants_any _).mono ?_; rintro e w4 ⟨rfl, hb4⟩)
    | (refine wpList_build2 rfl 122 _ rfl stateCells (by kernel_rfl) ?_))
  have hst := state_new w4
  have hB4 : Below w.heap.size w (w4.alloc (.cells stateCells 122)) := allocB (seqB hBw hb4) _
  obtain ⟨W5, hW5⟩ : ∃ W5, w4.alloc (.cells stateCells 122) = W5 := ⟨_, rfl⟩
  rw [hW5] at hst hB4 ⊢
  obtain ⟨p, hp⟩ : ∃ p, w4.heap.size = p := ⟨_, rfl⟩
  have hwp : w.heap.size ≤ p := by rw [← hp]; exact (seqB hBw hb4).size
  rw [hp] at hst ⊢
  obtain ⟨T, hT⟩ : ∃ T, s ++ (bytesOf (padB z) ++ bytesOf (le4 (s.size * 8) ++ le4 0)) = T := ⟨_, rfl⟩
  have hTP : T.data.toList = mdPad s.data.toList := by
    rw [← hT, HP.out]
    simp [bytesOf]
  rw [hT]
  obtain ⟨P, hPd⟩ : ∃ P, mdPad s.data.toList = P := ⟨_, rfl⟩
  obtain ⟨N, hN⟩ : ∃ N, P.length = 64 * N := ⟨P.length / 64, by have := mdPad_mod s.data.toList; rw [hPd] at this; omega⟩
  have HN := Lib.hid hN
  have HMD : Hid (md5M s.data.toList = mdOut (mdBlocks N mdInit P)) := Lib.hid (by
    unfold md5M
    rw [hPd, hN, Nat.mul_div_cancel_left _ (by decide)])
  rw [hPd] at hTP
  have HTP := Lib.hid hTP
  have HST := Lib.hid hst
  have hPL : P.length ≤ 1000200 := by
    have := mdPad_length s.data.toList
    rw [hPd, len_toList] at this
    have h2 : mdZeros s.size < 64 := Nat.mod_lt _ (by decide)
    omega
  clear hst hTP hT hp hW5 hBw hb4 hB1 hW1 HOWN hR0 HP g1 g2 g3 hB3 hPd hN hm1 hm2
  go_loopw [0] (fun v wr => ∃ (k : Nat) (t : ByteArray), v = .string t ∧ k ≤ N ∧ Hid (t.data.toList = P.drop (64 * k)) ∧ StAt wr p (mdBlocks k mdInit P) ∧ Only (· = p) W5 wr) (fun v _ => strLen v)
  case atStart => exact ⟨0, T, rfl, Nat.zero_le _, Lib.hid (by rw [HTP.out]; rfl), HST.out, Only.refl _ _⟩
  case round =>
    obtain ⟨k, t, rfl, hk, HT, hs5, hO⟩ := hrel
    have htl : Hid (t.size = 64 * N - 64 * k) := Lib.hid (by rw [← len_toList, HT.out, List.length_drop, HN.out])
    by_cases hlt : k < N
    · have h64 : 64 ≤ t.size := by have := htl.out; omega
      have e0 : t.toList.isEmpty = false := by
        rw [ba_toList]
        cases hq : t.data.toList with
        | nil =>
          have h0 := congrArg List.length hq
          rw [len_toList] at h0
          have h1 : t.size = 0 := h0
          omega
        | cons c r => rfl
      have hx1 : (t.extract 0 64).data.toList = (P.drop (64 * k)).take 64 := by rw [extract_toList, HT.out]; simp
      have hx2 : (t.extract 64 t.size).data.toList = P.drop (64 * (k + 1)) := by
        rw [extract_toList, HT.out, List.drop_drop, show 64 * k + 64 = 64 * (k + 1) by omega]
        rw [List.take_of_length_le]
        rw [List.length_drop, HN.out, htl.out]; omega
      have HTU : Hid (∀ w', StAt w' p (mdBlocks k mdInit P) → Calls Tryz.prog 88 #[.pointer (some ⟨p, 0, none⟩), .string (t.extract 0 64)] w' fun e w2 => e = .returned (.tuple #[]) ∧ StAt w2 p (mdBlocks (k + 1) mdInit P) ∧ Only (· = p) w' w2) := Lib.hid (fun w' h => by
        rw [mdBlocks_succ, ← hx1]
        exact turn_any p _ (t.extract 0 64) w' h (mdBlocks_ok _ _ _ ⟨by decide, by decide, by decide, by decide⟩) (prefix_size _ _ h64))
      have HX2 := Lib.hid hx2
      have htu := HTU.out wr hs5
      clear hx1 hx2
      go_wp2_with (go_at_call 88; refine htu.mono ?_; rintro e w6 ⟨rfl, hs6, hO6⟩)
      go_roundw
      case rel => exact ⟨k + 1, t.extract 64 t.size, rfl, hlt, HX2, hs6, hO.trans hO6⟩
      case measure =>
        show (t.extract 64 t.size).size < t.size
        rw [← len_toList, HX2.out, List.length_drop, HN.out]
        have := htl.out
        omega
    · obtain rfl : k = N := by omega
      have e0 : t.toList.isEmpty = true := by
        rw [ba_toList, List.isEmpty_iff]
        exact List.eq_nil_of_length_eq_zero (by rw [len_toList, htl.out]; omega)
      have hwa : WordsAt wr p 0 [(mdBlocks k mdInit P).a, (mdBlocks k mdInit P).b, (mdBlocks k mdInit P).c, (mdBlocks k mdInit P).d] := by
        intro j hj
        rw [Nat.zero_add]
        match j, hj with
        | 0, _ => exact hs5.c 0 (by decide)
        | 1, _ => exact hs5.c 1 (by decide)
        | 2, _ => exact hs5.c 2 (by decide)
        | 3, _ => exact hs5.c 3 (by decide)
      have hpl := block_lt_of_cell (hs5.c 0 (by decide))
      have hwd := dwords_any p 0 4 _ wr (by simp) (by simp) (by unfold maxLen; decide) hwa hpl
      have hlen4 : [(mdBlocks k mdInit P).a, (mdBlocks k mdInit P).b, (mdBlocks k mdInit P).c, (mdBlocks k mdInit P).d].length = 4 := rfl
      rw [hlen4] at hwd
      have HBF : Hid (Below w.heap.size w wr) := Lib.hid (((Only.ofBelow (S := (· = p)) hB4).trans hO).below (Nat.le_refl _) (fun i e => by omega))
      have HWD := Lib.hid hwd
      clear hwd hwa hs5 hlen4 hO
      go_wp2_with fail
      refine HWD.out.mono ?_
      rintro e w6 ⟨rfl, hb6⟩
      go_wp2_with fail
      go_ret
      refine ⟨?_, seqB HBF.out hb6⟩
      rw [HMD.out]
      show _ = Ending.returned (.string (bytesOf (mdOut (mdBlocks k mdInit P))))
      simp [mdOut]
end Go.Proofs.YteigigepmoicaaaGreatDoor
