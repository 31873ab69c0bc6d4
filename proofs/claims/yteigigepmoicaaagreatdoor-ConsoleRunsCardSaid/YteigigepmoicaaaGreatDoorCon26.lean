/- The law's numbers: walked. -/
import Derived.Test.YteigigepmoicaaaGreatDoorCon25
namespace Go.Proofs.YteigigepmoicaaaGreatDoor
open Go.RowKit
set_option linter.unusedVariables false
set_option linter.unusedSimpArgs false
/-- a row that reads as words -/
def WordsIn (w : World) (A : Nat) (ws : List (List UInt8)) : Prop := ∀ j (h : j < ws.length), w.cell? ⟨A, j, none⟩ = some (.string (bytesOf ws[j]))
theorem WordsIn.below {w w' : World} {A : Nat} {ws : List (List UInt8)} (h : WordsIn w A ws) (hb : Below w.heap.size w w') : WordsIn w' A ws := fun j hj => (hb.cell (block_lt_of_cell (h j hj))).trans (h j hj)
theorem wordsIn_of {w : World} {base : Nat} {v : Value} {ws : List (List UInt8)} (h : OwnT w base v (ws.map bytesOf)) (hne : ws ≠ []) : ∃ A c, v = .slice (some ⟨A, 0, none⟩) ws.length c ∧ WordsIn w A ws := by
  rcases h.2 with ⟨rfl, h0⟩ | ⟨g, cap, cur, rfl, hg, hh, hn, hm, hcs, htk⟩
  · rw [List.length_map] at h0
    exact absurd (List.eq_nil_of_length_eq_zero h0) hne
  · refine ⟨g, cap, by rw [List.length_map], fun j hj => ?_⟩
    have e : cur[j]? = ((ws.map bytesOf).map Value.string)[j]? := by
      rw [← htk, List.getElem?_take, if_pos (by simpa using hj)]; simp
    simp [World.cell?, hh, e, hj]
theorem nums_step {ws : List (List UInt8)} {k : Nat} {acc : List Int} (hk : k < ws.length) (h : numsL ws.tail = (numsL (ws.drop k)).map (fun l => acc ++ l)) :
    (numM ws[k] = none → numsL ws.tail = none) ∧ (∀ x, numM ws[k] = some x → numsL ws.tail = (numsL (ws.drop (k + 1))).map (fun l => (acc ++ [x]) ++ l)) := by
  rw [List.drop_eq_getElem_cons hk, numsL] at h
  refine ⟨fun hn => ?_, fun x hx => ?_⟩
  · rw [h, hn]; rfl
  · rw [h, hx]
    cases numsL (ws.drop (k + 1)) with
    | none => rfl
    | some l => simp
theorem nums_last {ws : List (List UInt8)} {acc : List Int} (h : numsL ws.tail = (numsL (ws.drop ws.length)).map (fun l => acc ++ l)) : numsL ws.tail = some acc := by
  rw [h, List.drop_length, numsL]; simp
theorem nums_first (ws : List (List UInt8)) : numsL ws.tail = (numsL (ws.drop 1)).map (fun l => [] ++ l) := by
  rw [List.drop_one]; simp
set_option maxRecDepth 100000 in
set_option maxHeartbeats 4000000 in
theorem lnumbers_any (A c : Nat) (ws : List (List UInt8)) (w : World) (hne : ws ≠ []) (hn : ws.length ≤ 100000) (hc : WordsIn w A ws) (hs : ∀ x ∈ ws, x.length ≤ 65536) :
    Calls Tryz.prog 52 #[.slice (some ⟨A, 0, none⟩) ws.length c] w fun e w' => ∃ v, e = .returned (.tuple #[v, .bool (numsL ws.tail).isSome]) ∧ (∀ l, numsL ws.tail = some l → OwnI w' w.heap.size v l) ∧ Below w.heap.size w w' := by
  have hpos : 1 ≤ ws.length := by
    cases ws with
    | nil => exact absurd rfl hne
    | cons a l => simp
  have HC := Lib.hid hc
  have HS := Lib.hid hs
  clear hne hc hs
  go_enter Tryz.func52, Tryz.ntmps52
  go_wp2_with fail
  go_loopw [4, 5] (fun v i wr => ∃ (k : Nat) (acc : List Int), 1 ≤ k ∧ k ≤ ws.length ∧ i = .int .i64 k ∧ acc.length ≤ k ∧ Hid (numsL ws.tail = (numsL (ws.drop k)).map (fun l => acc ++ l)) ∧ OwnI wr w.heap.size v acc ∧ Below w.heap.size w wr) (fun _ i _ => ws.length - (intOf i).toNat)
  case atStart => exact ⟨1, [], Nat.le_refl _, hpos, rfl, by simp, Lib.hid (nums_first ws), OwnI.nil _ _, Below.refl _ _⟩
  case round =>
    obtain ⟨k, acc, hk1, hk, rfl, hal, HI, hown, hbl⟩ := hrel
    by_cases hlt : k < ws.length
    · have hcell := (HC.out.below hbl) k hlt
      have HST := Lib.hid (nums_step hlt HI.out)
      have hd := fun w => ldecimal_any (bytesOf ws[k]) w (by rw [bytesOf_size]; have := HS.out ws[k] (List.getElem_mem hlt); omega)
      rw [show (bytesOf ws[k]).data.toList = ws[k] from rfl] at hd
      obtain ⟨x, hx⟩ : ∃ x, ws[k] = x := ⟨_, rfl⟩
      rw [hx] at hcell HST hd
      clear hx
      cases hnum : numM x with
      | none =>
        have HN := Lib.hid (HST.out.1 hnum)
        rw [hnum] at hd
        clear hnum
        go_wp2_with fail
        refine (hd _).mono ?_
        rintro e w2 ⟨y, rfl, -, rfl⟩
        go_wp2_with fail
        go_ret2
        exact ⟨.slice none 0 0, by rw [HN.out]; rfl, fun l h => (by rw [HN.out] at h; cases h), hbl⟩
      | some z =>
        have HN := Lib.hid (HST.out.2 z hnum)
        rw [hnum] at hd
        clear hnum
        go_wp2_with fail
        refine (hd _).mono ?_
        rintro e w2 ⟨y, rfl, hy, rfl⟩
        obtain rfl := hy z rfl
        go_wp2_with (at_builtin; refine wpList_appI rfl _ _ rfl w _ _ _ _ hown rfl rfl (by omega) hbl ?_; intro v' w3 hown3 hbl3)
        go_roundw
        case rel => exact ⟨k + 1, acc ++ [y], by omega, hlt, by go_num, by simp; omega, HN, hown3, hbl3⟩
        case measure => simp [intOf]; omega
    · obtain rfl : k = ws.length := by omega
      have HN := Lib.hid (nums_last HI.out)
      go_wp2_with fail
      go_ret2
      exact ⟨_, by rw [HN.out]; rfl, fun l h => (by rw [HN.out] at h; cases h; exact hown), hbl⟩
end Go.Proofs.YteigigepmoicaaaGreatDoor
