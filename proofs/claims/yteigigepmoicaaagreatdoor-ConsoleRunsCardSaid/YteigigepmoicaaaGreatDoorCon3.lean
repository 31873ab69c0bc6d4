/- The console's unhex: walked. -/
import Derived.Test.YteigigepmoicaaaGreatDoorCon2
import Derived.Test.YteigigepmoicaaaGreatDoorHeldL
namespace Go.Proofs.YteigigepmoicaaaGreatDoor
open Go.RowKit
set_option linter.unusedVariables false
set_option linter.unusedSimpArgs false
theorem pairs_app : ∀ (k : Nat) (l r : List UInt8), l.length = 2 * k → pairsM (l ++ r) = match pairsM l, pairsM r with
    | some x, some y => some (x ++ y)
    | _, _ => none
  | 0, l, r, h => by
    have : l = [] := List.eq_nil_of_length_eq_zero (by omega)
    subst this
    rw [List.nil_append, pairsM]
    cases pairsM r <;> rfl
  | k + 1, l, r, h => by
    match l, h with
    | a :: b :: l, h =>
      have ih := pairs_app k l r (by simp at h; omega)
      rw [List.cons_append, List.cons_append, pairsM, pairsM, ih]
      cases unhexd a with
      | none => rfl
      | some x =>
        cases unhexd b with
        | none => rfl
        | some y =>
          cases pairsM l with
          | none => rfl
          | some t => cases pairsM r <;> rfl
    | [a], h => simp at h; omega
theorem unhexd_lt {c : UInt8} {n : Nat} (h : unhexd c = some n) : n < 16 := by
  unfold unhexd at h
  split at h
  · have := Option.some.inj h; omega
  · split at h
    · have := Option.some.inj h; omega
    · cases h
def hexDs : ByteArray := ⟨#[48, 49, 50, 51, 52, 53, 54, 55, 56, 57, 97, 98, 99, 100, 101, 102]⟩
theorem index_hex (c : UInt8) : Lib.indexByte hexDs.data.toList ((c.toNat : Int).toNat.toUInt8) = match unhexd c with | some n => (n : Int) | none => -1 := by
  have h : ∀ c : Fin 256, Lib.indexByte hexDs.data.toList (UInt8.ofNat c.val) = match unhexd (UInt8.ofNat c.val) with | some n => (n : Int) | none => -1 := by decide +kernel
  have := h ⟨c.toNat, c.toNat_lt⟩
  simpa using this
/-- the console's answer to what are no digits -/
theorem pair_val (x y : Nat) (hx : x < 16) (hy : y < 16) : (IntKind.u8.wrap (bits BinOp.or IntKind.i64 ((x : Int) * 16) (y : Int))) = ((UInt8.ofNat (16 * x + y)).toNat : Int) := by
  have h : ∀ x y : Fin 16, (IntKind.u8.wrap (bits BinOp.or IntKind.i64 ((x.val : Int) * 16) (y.val : Int))) = ((UInt8.ofNat (16 * x.val + y.val)).toNat : Int) := by decide +kernel
  exact h ⟨x, hx⟩ ⟨y, hy⟩
set_option maxRecDepth 100000 in
set_option maxHeartbeats 2000000 in
theorem unhex_any (s : ByteArray) (w : World) (hs : s.size ≤ 140737488355328) :
    Calls Tryz.prog 75 #[.string s] w fun e w' => ∃ t, e = .returned (.tuple #[.string (bytesOf t), .bool (unhexM s.data.toList).isSome]) ∧ (∀ v, unhexM s.data.toList = some v → t = v) ∧ Below w.heap.size w w' := by
  by_cases h0 : s = ⟨#[45]⟩
  · subst h0
    go_enter Tryz.func75, Tryz.ntmps75
    go_wp2_with fail
    go_ret2
    exact ⟨[], rfl, fun v h => by cases h; rfl, Below.refl _ _⟩
  · have hne : (s.toList == [45]) = false := beq_eq_false_iff_ne.2 fun e => h0 (ba_ext (b := ⟨#[45]⟩) (by rw [← ba_toList]; exact e))
    have hls : s.data.toList.length = s.size := len_toList s
    have Hls := Lib.hid hls
    clear hls
    go_enter Tryz.func75, Tryz.ntmps75
    go_wp2_with fail
    go_loopw [4, 5] (fun v i wr => ∃ (j k : Nat) (acc : List UInt8), i = .int .i64 (j : Nat) ∧ Hid (j = 2 * k) ∧ j ≤ s.size ∧ Hid (acc.length = k) ∧ Hid (pairsM (s.data.toList.take j) = some acc) ∧ Own wr w.heap.size v acc ∧ Below w.heap.size w wr) (fun _ i _ => s.size - (intOf i).toNat)
    case atStart => exact ⟨0, 0, [], rfl, Lib.hid rfl, Nat.zero_le _, Lib.hid rfl, Lib.hid rfl, Own.nil _ _, Below.refl _ _⟩
    case round =>
      obtain ⟨j, k, acc, rfl, hjk, hjs, hak, HP, hown, hbl⟩ := hrel
      obtain ⟨va, vc, rfl⟩ := hown.form
      by_cases hlt : j + 1 < s.size
      · have hj0 : j < s.size := by omega
        obtain ⟨c0, hc0⟩ : ∃ c, s[j] = c := ⟨_, rfl⟩
        obtain ⟨c1, hc1⟩ : ∃ c, s[j + 1] = c := ⟨_, rfl⟩
        have hsplit : s.data.toList = s.data.toList.take j ++ (c0 :: c1 :: s.data.toList.drop (j + 2)) := by
          have e1 : s.data.toList.drop j = s[j] :: s.data.toList.drop (j + 1) := by
            rw [List.drop_eq_getElem_cons (by rw [Hls.out]; exact hj0)]; rfl
          have e2 : s.data.toList.drop (j + 1) = s[j + 1] :: s.data.toList.drop (j + 2) := by
            rw [List.drop_eq_getElem_cons (by rw [Hls.out]; exact hlt)]; rfl
          rw [← hc0, ← hc1, ← e2, ← e1, List.take_append_drop]
        have htl : (s.data.toList.take j).length = 2 * k := by have := hjk.out; rw [List.length_take, Hls.out]; omega
        have hfull : pairsM s.data.toList = match pairsM (c0 :: c1 :: s.data.toList.drop (j + 2)) with | some y => some (acc ++ y) | none => none := by
          rw [hsplit, pairs_app k _ _ htl, ← hsplit, HP.out]
          cases pairsM (c0 :: c1 :: s.data.toList.drop (j + 2)) <;> rfl
        have hstep : pairsM (s.data.toList.take (j + 2)) = match pairsM [c0, c1] with | some y => some (acc ++ y) | none => none := by
          have e3 : s.data.toList.take (j + 2) = s.data.toList.take j ++ [c0, c1] := by
            rw [take_snoc s (j + 1) hlt, take_snoc s j hj0, hc0, hc1]; simp
          rw [e3, pairs_app k _ _ htl, HP.out]
          cases pairsM [c0, c1] <;> rfl
        have hi0 := fun w => indexByte hexDs (c0.toNat : Int) w
        have hi1 := fun w => indexByte hexDs (c1.toNat : Int) w
        rw [index_hex] at hi0 hi1
        unfold hexDs at hi0 hi1
        cases h1 : unhexd c0 with
        | none =>
          have HN : Hid (unhexM s.data.toList = none) := Lib.hid (by
            have e5 : pairsM s.data.toList = none := by rw [hfull, pairsM, h1]
            unfold unhexM
            rw [if_neg, e5]
            · split <;> rfl
            · intro e; exact h0 (ba_ext (b := ⟨#[45]⟩) e))
          rw [h1] at hi0
          dsimp only at hi0
          obtain ⟨z, hz⟩ : ∃ z : Int, (match unhexd c1 with | some n => (n : Int) | none => -1) = z := ⟨_, rfl⟩
          rw [hz] at hi1
          clear hsplit htl hfull hstep h1 hz
          go_wp2_with fail
          go_quiet (first | (go_at_call 98; refine Calls.quiet_of_same (hi0 _)) | (go_at_call 98; refine Calls.quiet_of_same (hi1 _)))
          have hbn : Below w.heap.size w (wr.drewN nq) := ⟨hbl.os, hbl.tape, hbl.output, hbl.size, hbl.block⟩
          go_wp2_with fail
          go_ret2
          exact ⟨[], by rw [HN.out]; rfl, fun v h => (by rw [HN.out] at h; cases h), hbn⟩
        | some x =>
          rw [h1] at hi0
          dsimp only at hi0
          have hx := unhexd_lt h1
          cases h2 : unhexd c1 with
          | none =>
            have HN : Hid (unhexM s.data.toList = none) := Lib.hid (by
              have e5 : pairsM s.data.toList = none := by rw [hfull, pairsM, h1, h2]
              unfold unhexM
              rw [if_neg, e5]
              · split <;> rfl
              · intro e; exact h0 (ba_ext (b := ⟨#[45]⟩) e))
            rw [h2] at hi1
            dsimp only at hi1
            clear hsplit htl hfull hstep h1 h2
            go_wp2_with fail
            go_quiet (first | (go_at_call 98; refine Calls.quiet_of_same (hi0 _)) | (go_at_call 98; refine Calls.quiet_of_same (hi1 _)))
            have hbn : Below w.heap.size w (wr.drewN nq) := ⟨hbl.os, hbl.tape, hbl.output, hbl.size, hbl.block⟩
            go_wp2_with fail
            go_ret2
            exact ⟨[], by rw [HN.out]; rfl, fun v h => (by rw [HN.out] at h; cases h), hbn⟩
          | some y =>
            rw [h2] at hi1
            dsimp only at hi1
            have hy := unhexd_lt h2
            have hst2 : Hid (pairsM (s.data.toList.take (j + 2)) = some (acc ++ [UInt8.ofNat (16 * x + y)])) := Lib.hid (by rw [hstep, pairsM, h1, h2]; rfl)
            have hpv := pair_val x y hx hy
            clear hsplit htl hfull hstep h1 h2
            go_wp2_with fail
            go_quiet (first | (go_at_call 98; refine Calls.quiet_of_same (hi0 _)) | (go_at_call 98; refine Calls.quiet_of_same (hi1 _)))
            have hbn : Below w.heap.size w (wr.drewN nq) := ⟨hbl.os, hbl.tape, hbl.output, hbl.size, hbl.block⟩
            have hown2 : Own (wr.drewN nq) w.heap.size (.slice va acc.length vc) acc := hown.below ⟨rfl, rfl, rfl, Nat.le_refl _, fun _ _ => rfl⟩
            go_wp2_with (at_builtin; refine wpList_app rfl _ _ rfl w _ _ [UInt8.ofNat (16 * x + y)] 1 _ _ hown2 rfl rfl (by simp [Lib.byteCells]) rfl (by have e1 := hak.out; have e2 := hjk.out; simp; omega) hbn ?_; intro v' w1 hown1 hbl1)
            go_roundw
            case rel => exact ⟨j + 2, k + 1, _, by go_num, Lib.hid (by have := hjk.out; omega), by omega, Lib.hid (by rw [List.length_append, hak.out]; rfl), hst2, hown1, hbl1⟩
            case measure => simp [intOf]; omega
      · have hcv := hown.conv
        have hs45 : s.data.toList ≠ [45] := fun e => h0 (ba_ext (b := ⟨#[45]⟩) e)
        by_cases hz : s.size = 0
        · have e0 : s.toList.isEmpty = true := by rw [ba_toList, List.isEmpty_iff]; exact List.eq_nil_of_length_eq_zero (by rw [Hls.out]; exact hz)
          have HN : Hid (unhexM s.data.toList = none) := Lib.hid (by
            unfold unhexM
            rw [if_neg hs45, if_pos (List.eq_nil_of_length_eq_zero (by rw [Hls.out]; exact hz))])
          clear hs45 hz
          go_wp2_with fail
          go_ret2
          exact ⟨acc, by rw [HN.out]; rfl, fun v h => (by rw [HN.out] at h; cases h), hbl⟩
        · have e0 : s.toList.isEmpty = false := by
            rw [ba_toList]
            cases hq : s.data.toList with
            | nil => exact absurd (by rw [← Hls.out, hq]; rfl) hz
            | cons c r => rfl
          have hnn : s.data.toList ≠ [] := fun e => hz (by rw [← Hls.out, e]; rfl)
          by_cases hodd : j = s.size
          · have HN : Hid (unhexM s.data.toList = some acc) := Lib.hid (by
              have e1 := HP.out
              rw [List.take_of_length_le (by rw [Hls.out]; omega)] at e1
              unfold unhexM
              rw [if_neg hs45, if_neg hnn, e1])
            have hm2 : ((s.size : Int).tmod 2) = 0 := by have := hjk.out; rw [Int.tmod_eq_emod_of_nonneg (by omega)]; omega
            clear hs45 hz hnn hodd
            go_wp2_with fail
            go_ret2
            exact ⟨acc, by rw [HN.out]; rfl, fun v h => (by rw [HN.out] at h; exact Option.some.inj h), hbl⟩
          · have HN : Hid (unhexM s.data.toList = none) := Lib.hid (by
              have hj1 : j < s.data.toList.length := by rw [Hls.out]; omega
              have e1 : s.data.toList = s.data.toList.take j ++ [s.data.toList[j]] := by
                rw [← List.take_succ_eq_append_getElem hj1, List.take_of_length_le (by rw [Hls.out]; omega)]
              have e2 : pairsM s.data.toList = none := by
                rw [e1, pairs_app k _ _ (by have := hjk.out; rw [List.length_take, Hls.out]; omega), HP.out]
                rfl
              unfold unhexM
              rw [if_neg hs45, if_neg hnn, e2])
            have hm2 : ((s.size : Int).tmod 2) = 1 := by have := hjk.out; rw [Int.tmod_eq_emod_of_nonneg (by omega)]; omega
            clear hs45 hz hnn hodd
            go_wp2_with fail
            go_ret2
            exact ⟨acc, by rw [HN.out]; rfl, fun v h => (by rw [HN.out] at h; cases h), hbl⟩
end Go.Proofs.YteigigepmoicaaaGreatDoor
