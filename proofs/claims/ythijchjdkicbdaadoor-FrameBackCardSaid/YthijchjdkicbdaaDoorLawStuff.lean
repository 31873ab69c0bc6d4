/- The walks of the laws over stuff. -/
import Derived.Test.YthijchjdkicbdaaDoorSplitRef
import Derived.Test.YthijchjdkicbdaaDoorStuffRef
import Derived.Test.YthijchjdkicbdaaDoorFcsRef
import Derived.Test.YthijchjdkicbdaaDoorFramePlain
namespace Go.Proofs.YthijchjdkicbdaaDoor
open Go.RowKit
theorem below_cellx {W w' : World} (h : Below W.heap.size W w') {a : Addr} {v : Value} (hc : W.cell? a = some v) : w'.cell? a = some v := (h.cell (block_lt_of_cell hc)).trans hc
theorem MaxLenIs.below {w w' : World} {m : Int} (h : MaxLenIs w m) (hb : Below w.heap.size w w') : MaxLenIs w' m := below_cellx hb h
/-- a row of texts that was just laid -/
theorem texts_new (w : World) (l : List ByteArray) (cells : Array Value) (hc : cells = (l.map Value.string).toArray) (c : Nat) : TextsAt (w.alloc (.cells cells 9)) (.slice (some ⟨w.heap.size, 0, none⟩) l.length c) l := by
  subst hc
  refine .inr ⟨w.heap.size, 0, c, rfl, fun j hj => ?_⟩
  rw [World.cell?_alloc_new]; simp [hj]
theorem aw1 : unstuff [97, 125, 94, 98] = ([97, 126, 98], 0) := by decide +kernel
theorem aw2 : unstuff [125] = ([], 200) := by decide +kernel
theorem aw3 : unstuff [126] = ([], 201) := by decide +kernel
theorem aw4 : gotOf [120, 126, 97, 98, 126, 126, 99, 126, 100] = [[97, 98], [99]] ∧ restOf [120, 126, 97, 98, 126, 126, 99, 126, 100] = [100] := by decide +kernel
theorem aw5 : stuff 2 [126, 1] = [125, 94, 125, 33] := by decide +kernel
set_option maxRecDepth 100000 in
set_option maxHeartbeats 1000000 in
theorem awake2_any (m : Int) (w : World) (hm : MaxLenIs w m) : Calls Tryd.prog 18 #[] w fun e w' => e = .returned (.bool true) ∧ Below w.heap.size w w' := by
  go_enter Tryd.func18, Tryd.ntmps18
  go_wp2_with fail
  refine (sget_any _ _ (by decide)).mono ?_
  rintro e w1 ⟨rfl, hb1⟩
  have e1 : unstuff (⟨#[97, 125, 94, 98]⟩ : ByteArray).data.toList = ([97, 126, 98], 0) := aw1
  rw [e1]
  clear e1
  go_wp2_with fail
  refine (sget_any _ _ (by decide)).mono ?_
  rintro e w2 ⟨rfl, hb2⟩
  have e1 : unstuff (⟨#[125]⟩ : ByteArray).data.toList = ([], 200) := aw2
  rw [e1]
  clear e1
  go_wp2_with fail
  refine (sget_any _ _ (by decide)).mono ?_
  rintro e w3 ⟨rfl, hb3⟩
  have e1 : unstuff (⟨#[126]⟩ : ByteArray).data.toList = ([], 201) := aw3
  rw [e1]
  clear e1
  have hB3 := seqB (seqB hb1 hb2) hb3
  clear hb1 hb2 hb3
  go_wp2_with fail
  refine (ssplit_any _ m _ (by decide) (hm.below hB3)).mono ?_
  rintro e w4 ⟨v, rfl, hown, hb4⟩
  have e1 : gotOf (⟨#[120, 126, 97, 98, 126, 126, 99, 126, 100]⟩ : ByteArray).data.toList = [[97, 98], [99]] := aw4.1
  have e2 : restOf (⟨#[120, 126, 97, 98, 126, 126, 99, 126, 100]⟩ : ByteArray).data.toList = [100] := aw4.2
  rw [e2]
  rw [e1] at hown
  clear e1 e2
  have hB4 := seqB hB3 hb4
  clear hB3 hb4
  obtain ⟨a, c, rfl⟩ := hown.form
  go_wp2_with fail
  refine (sput_any _ _ _ (by decide)).mono ?_
  rintro e w5 ⟨rfl, hb5⟩
  have e1 : stuff 2 (⟨#[126, 1]⟩ : ByteArray).data.toList = [125, 94, 125, 33] := aw5
  rw [e1]
  clear e1
  have hB5 := seqB hB4 hb5
  replace hown := hown.below hb5
  clear hB4 hb5
  have q1 : (bytesOf [125, 94, 125, 33]).toList = [125, 94, 125, 33] := ba_toList _
  have q2 : (bytesOf [97, 126, 98]).toList = [97, 126, 98] := ba_toList _
  have q3 : (bytesOf [100]).toList = [100] := ba_toList _
  go_wp2_with (go_at_call 16; refine (num_any _ _).mono ?_; rintro e w' ⟨rfl, rfl⟩)
  refine (same_any _ _ [⟨#[97, 98]⟩, ⟨#[99]⟩] _ (hown.at.below ((Below.refl _ _).alloc (Nat.le_refl _) _)) (texts_new w5 [⟨#[97, 98]⟩, ⟨#[99]⟩] _ rfl 2) (by decide)).mono ?_
  rintro e w6 ⟨rfl, hb6⟩
  go_wp2_with fail
  go_ret
  exact ⟨rfl, seqB (allocB hB5 _) hb6⟩
end Go.Proofs.YthijchjdkicbdaaDoor
