/- Package digest: words; turn: walked. -/
import Derived.Test.YteigigepmoicaaaGreatDoorMd5W
import Derived.Test.YteigigepmoicaaaGreatDoorMg1
namespace Go.Proofs.YteigigepmoicaaaGreatDoor
open Go.RowKit
set_option linter.unusedVariables false
set_option linter.unusedSimpArgs false
/-- a row of words that reads as l -/
def WordsAt (w : World) (g o : Nat) (l : List Nat) : Prop := ∀ j (h : j < l.length), w.cell? ⟨g, o + j, none⟩ = some (.int .u32 (l[j] : Int))
theorem le4_length (l : List Nat) : (l.flatMap le4).length = 4 * l.length := by
  induction l with
  | nil => rfl
  | cons a l ih => rw [List.flatMap_cons, List.length_append, ih, List.length_cons]; simp [le4]; omega
theorem le4_cells (x : Nat) : (Lib.byteCells (le4 x)).toArray = #[.int .u8 ((x : Int) % 256), .int .u8 ((x : Int) / 256 % 256), .int .u8 ((x : Int) / 65536 % 256), .int .u8 ((x : Int) / 16777216 % 256)] := by
  simp only [le4, Lib.byteCells, List.map_cons, List.map_nil]
  have h : ∀ y : Nat, ((UInt8.ofNat (y % 256)).toNat : Int) = (y : Int) % 256 := fun y => by
    rw [UInt8.toNat_ofNat', Nat.mod_mod_of_dvd _ (by decide)]; omega
  rw [h, h, h, h]
  rfl
set_option maxRecDepth 100000 in
set_option maxHeartbeats 4000000 in
theorem dwords_any (g o c : Nat) (l : List Nat) (w : World) (hl : l.length ≤ 1000) (hc1 : l.length ≤ c) (hc2 : c ≤ maxLen) (hw : WordsAt w g o l) (hg : g < w.heap.size) :
    Calls Tryz.prog 86 #[.slice (some ⟨g, o, none⟩) l.length c] w fun e w' => e = .returned (.string (bytesOf (l.flatMap le4))) ∧ Below w.heap.size w w' := by
  have hc3 : c ≤ 9223372036854775807 := by unfold maxLen at hc2; omega
  go_enter Tryz.func86, Tryz.ntmps86
  go_wp2_with fail
  go_loopw [3, 8] (fun v i wr => ∃ (j : Nat) (acc : List UInt8), j ≤ l.length ∧ i = .int .i64 j ∧ Hid (acc = (l.take j).flatMap le4) ∧ Own wr w.heap.size v acc ∧ Below w.heap.size w wr) (fun _ i _ => l.length - (intOf i).toNat)
  case atStart => exact ⟨0, [], Nat.zero_le _, rfl, Lib.hid rfl, Own.nil _ _, Below.refl _ _⟩
  case round =>
    obtain ⟨j, acc, hj, rfl, HA, hown, hbl⟩ := hrel
    obtain ⟨va, vc, rfl⟩ := hown.form
    by_cases hlt : j < l.length
    · have z := (hbl.cell (p := ⟨g, o + j, none⟩) hg).trans (hw j hlt)
      have Hst : Hid (acc ++ le4 l[j] = (l.take (j + 1)).flatMap le4) := Lib.hid (by rw [HA.out, List.take_succ_eq_append_getElem hlt, List.flatMap_append]; simp)
      obtain ⟨x, hx⟩ : ∃ x, l[j] = x := ⟨_, rfl⟩
      rw [hx] at z Hst
      have hll : acc.length ≤ 4000 := by rw [HA.out, le4_length, List.length_take]; omega
      clear hx
      go_wp2_with (at_builtin; refine wpList_app rfl _ _ rfl w _ _ (le4 x) 4 _ _ hown rfl rfl (le4_cells x).symm rfl (by simp [le4]; omega) hbl ?_; intro v' w1 hown1 hbl1)
      go_roundw
      case rel => exact ⟨j + 1, _, hlt, by go_num, Hst, hown1, hbl1⟩
      case measure => simp [intOf]; omega
    · obtain rfl : j = l.length := by omega
      have e : Hid (acc = l.flatMap le4) := Lib.hid (by rw [HA.out, List.take_of_length_le (Nat.le_refl _)])
      have hcv := hown.conv
      go_wp2_with fail
      go_ret
      exact ⟨by rw [← e.out]; rfl, hbl⟩
end Go.Proofs.YteigigepmoicaaaGreatDoor
