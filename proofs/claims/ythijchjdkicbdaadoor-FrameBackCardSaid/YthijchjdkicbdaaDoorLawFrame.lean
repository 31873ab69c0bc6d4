/- The walks of the laws over frame. -/
import Derived.Test.YthijchjdkicbdaaDoorFrameGet
namespace Go.Proofs.YthijchjdkicbdaaDoor
open Go.RowKit Go.Crc
/-- a text between two flags -/
def flagged (T : List UInt8) : List UInt8 := 126 :: (T ++ [126])
theorem flagged_size (T : List UInt8) (n : Nat) (h : T.length = n) : (bytesOf (flagged T)).size = n + 2 := by rw [bytesOf_size]; simp [flagged, h]
theorem slice_mid (T : List UInt8) (n : Nat) (hn : T.length = n) : (bytesOf (flagged T)).extract 1 (n + 1) = bytesOf T := by
  subst hn
  apply ba_ext; rw [extract_toList]; simp [bytesOf, flagged]
theorem frameT_ok (p : Int) (d : List UInt8) (m : Int) (h1 : protoOk p = true) (h2 : d.length ≤ 2048) : frameT p d m = (flagged (stuff m (put (headB p ++ d))), 0) := by
  unfold frameT; rw [if_neg (by rw [h1]; decide), if_neg (by omega)]; rfl
def T0 : List UInt8 := stuff 0 (put (headB 49185 ++ [104, 105]))
theorem T0_len : T0.length = 8 := by decide +kernel
theorem T0_frame : frameT 49185 [104, 105] 0 = (flagged T0, 0) := frameT_ok _ _ _ (by decide) (by decide)
theorem T0_get : unframe T0 = (49185, [104, 105], 0) := by decide +kernel
theorem abc_get : unframe [97, 98, 99] = (0, [], 300) := by decide +kernel
theorem two_put : frameT 2 [] 0 = ([], 303) := by decide +kernel
set_option maxRecDepth 100000 in
set_option maxHeartbeats 1000000 in
theorem awake3_any (w : World) : Calls Tryd.prog 19 #[] w fun e w' => e = .returned (.bool true) ∧ Below w.heap.size w w' := by
  have e1 : frameT 49185 (⟨#[104, 105]⟩ : ByteArray).data.toList 0 = (flagged T0, 0) := T0_frame
  have hsz : (bytesOf (flagged T0)).size = 10 := flagged_size T0 8 T0_len
  have hsl : (bytesOf (flagged T0)).extract 1 9 = bytesOf T0 := slice_mid T0 8 T0_len
  have e2 : unframe T0 = (49185, [104, 105], 0) := T0_get
  have E1 := Lib.hid e1
  have E2 := Lib.hid e2
  clear e1 e2
  go_enter Tryd.func19, Tryd.ntmps19
  go_wp2_with fail
  refine (fput_any _ _ _ _ (by decide)).mono ?_
  rintro e w1 ⟨rfl, hb1⟩
  rw [E1.out]
  go_wp2_with fail
  refine (num_any _ _).mono ?_
  rintro e w2 ⟨rfl, rfl⟩
  go_wp2_with fail
  have hs0 : (bytesOf T0).size ≤ 140737488355328 := by rw [bytesOf_size, T0_len]; decide
  refine (fget_any _ _ hs0).mono ?_
  rintro e w3 ⟨rfl, hb3⟩
  rw [bytesOf_toList, E2.out]
  unfold ansF
  go_wp2_with fail
  refine (fget_any _ _ (by decide)).mono ?_
  rintro e w4 ⟨rfl, hb4⟩
  have e3 : unframe (⟨#[97, 98, 99]⟩ : ByteArray).data.toList = (0, [], 300) := abc_get
  rw [e3]
  unfold ansF
  clear e3
  have k0 := below_cell hb4 (a := ⟨w3.heap.size, 0, none⟩) (v := .int .i64 49185) (by simp [World.cell?_alloc_new])
  have k1 := below_cell hb4 (a := ⟨w3.heap.size, 1, none⟩) (v := .string (bytesOf [104, 105])) (by simp [World.cell?_alloc_new])
  have hB4 := seqB (allocB (seqB hb1 hb3) _) hb4
  clear hb1 hb3 hb4
  go_wp2_with fail
  refine (fput_any _ _ _ _ (by decide)).mono ?_
  rintro e w5 ⟨rfl, hb5⟩
  have e5 : frameT 2 (⟨#[]⟩ : ByteArray).data.toList 0 = ([], 303) := two_put
  rw [e5]
  clear e5
  have hlt : w3.heap.size < w4.heap.size := block_lt_of_cell k0
  replace k0 := below_cell hb5 (a := ⟨w3.heap.size, 0, none⟩) (v := .int .i64 49185) (by simp [World.cell?_alloc_past, hlt, k0])
  replace k1 := below_cell hb5 (a := ⟨w3.heap.size, 1, none⟩) (v := .string (bytesOf [104, 105])) (by simp [World.cell?_alloc_past, hlt, k1])
  have htl : (bytesOf [104, 105]).toList = [104, 105] := ba_toList _
  go_wp2_with (go_at_call 16; refine (num_any _ _).mono ?_; rintro e w' ⟨rfl, rfl⟩)
  go_ret
  exact ⟨rfl, seqB (allocB hB4 _) hb5⟩
end Go.Proofs.YthijchjdkicbdaaDoor
