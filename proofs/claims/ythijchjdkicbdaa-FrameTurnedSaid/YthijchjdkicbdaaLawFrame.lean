/- The walks of the laws over frame. -/
import Derived.Test.YthijchjdkicbdaaFrameRef
namespace Go.Proofs.Ythijchjdkicbdaa
open Go.RowKit Go.Crc
/-- a text between two flags -/
def flagged (T : List UInt8) : List UInt8 := 126 :: (T ++ [126])
theorem flagged_size (T : List UInt8) (n : Nat) (h : T.length = n) : (bytesOf (flagged T)).size = n + 2 := by rw [bytesOf_size]; simp [flagged, h]
theorem slice_mid (T : List UInt8) (n : Nat) (hn : T.length = n) : (bytesOf (flagged T)).extract 1 (n + 1) = bytesOf T := by
  subst hn
  apply ba_ext; rw [extract_toList]; simp [bytesOf, flagged]
theorem frameT_ok (p : Int) (d : List UInt8) (m : Int) (h1 : protoOk p = true) (h2 : d.length ≤ 2048) : frameT p d m = (flagged (stuff m (put (headB p ++ d))), 0) := by
  unfold frameT; rw [if_neg (by rw [h1]; decide), if_neg (by omega)]; rfl
def T0 : List UInt8 := stuff 0 (put (headB 49185 ++ [104, 105]))
theorem T0_len : T0.length = 8 := by decide +kernel
theorem T0_frame : frameT 49185 [104, 105] 0 = (flagged T0, 0) := frameT_ok _ _ _ (by decide) (by decide)
theorem T0_get : unframe T0 = (49185, [104, 105], 0) := by decide +kernel
theorem abc_get : unframe [97, 98, 99] = (0, [], 300) := by decide +kernel
theorem two_put : frameT 2 [] 0 = ([], 303) := by decide +kernel
set_option maxRecDepth 100000 in
set_option maxHeartbeats 1000000 in
theorem awake3_any (w : World) : Calls Try.prog 24 #[] w fun e w' => e = .returned (.bool true) ∧ Below w.heap.size w w' := by
  have e1 : frameT 49185 (⟨#[104, 105]⟩ : ByteArray).data.toList 0 = (flagged T0, 0) := T0_frame
  have hsz : (bytesOf (flagged T0)).size = 10 := flagged_size T0 8 T0_len
  have hsl : (bytesOf (flagged T0)).extract 1 9 = bytesOf T0 := slice_mid T0 8 T0_len
  have e2 : unframe T0 = (49185, [104, 105], 0) := T0_get
  have E1 := Lib.hid e1
  have E2 := Lib.hid e2
  clear e1 e2
  go_enter Try.func24, Try.ntmps24
  go_wp2_with fail
  refine (fput_any _ _ _ _ (by decide)).mono ?_
  rintro e w1 ⟨rfl, hb1⟩
  rw [E1.out]
  go_wp2_with fail
  refine (num_any _ _).mono ?_
  rintro e w2 ⟨rfl, rfl⟩
  go_wp2_with fail
  have hs0 : (bytesOf T0).size ≤ 140737488355328 := by rw [bytesOf_size, T0_len]; decide
  refine (fget_any _ _ hs0).mono ?_
  rintro e w3 ⟨rfl, hb3⟩
  rw [bytesOf_toList, E2.out]
  unfold ansF
  go_wp2_with fail
  refine (fget_any _ _ (by decide)).mono ?_
  rintro e w4 ⟨rfl, hb4⟩
  have e3 : unframe (⟨#[97, 98, 99]⟩ : ByteArray).data.toList = (0, [], 300) := abc_get
  rw [e3]
  unfold ansF
  clear e3
  have k0 := below_cell hb4 (a := ⟨w3.heap.size, 0, none⟩) (v := .int .i64 49185) (by simp [World.cell?_alloc_new])
  have k1 := below_cell hb4 (a := ⟨w3.heap.size, 1, none⟩) (v := .string (bytesOf [104, 105])) (by simp [World.cell?_alloc_new])
  have hB4 := seqB (allocB (seqB hb1 hb3) _) hb4
  clear hb1 hb3 hb4
  go_wp2_with fail
  refine (fput_any _ _ _ _ (by decide)).mono ?_
  rintro e w5 ⟨rfl, hb5⟩
  have e5 : frameT 2 (⟨#[]⟩ : ByteArray).data.toList 0 = ([], 303) := two_put
  rw [e5]
  clear e5
  have hlt : w3.heap.size < w4.heap.size := block_lt_of_cell k0
  replace k0 := below_cell hb5 (a := ⟨w3.heap.size, 0, none⟩) (v := .int .i64 49185) (by simp [World.cell?_alloc_past, hlt, k0])
  replace k1 := below_cell hb5 (a := ⟨w3.heap.size, 1, none⟩) (v := .string (bytesOf [104, 105])) (by simp [World.cell?_alloc_past, hlt, k1])
  have htl : (bytesOf [104, 105]).toList = [104, 105] := ba_toList _
  go_wp2_with (go_at_call 20; refine (num_any _ _).mono ?_; rintro e w' ⟨rfl, rfl⟩)
  go_ret
  exact ⟨rfl, seqB (allocB hB4 _) hb5⟩
set_option maxHeartbeats 1000000 in
theorem framePuts_walk (p : Int) (d : ByteArray) (m : Int) (w : World) (hd : d.size ≤ maxLen) :
    Calls Try.prog 8 #[.agg #[.int .i64 p, .string d], .int .i64 m] w fun e w' => e = .returned (.bool true) ∧ Below w.heap.size w w' := by
  go_enter Try.func8, Try.ntmps8
  go_wp2_with fail
  refine (fput_any _ _ _ _ hd).mono ?_
  rintro e w1 ⟨rfl, hb1⟩
  have k0 := below_cell hb1 (a := ⟨w.heap.size, 0, none⟩) (v := .int .i64 p) (by simp [World.cell?_alloc_new])
  have k1 := below_cell hb1 (a := ⟨w.heap.size, 1, none⟩) (v := .string d) (by simp [World.cell?_alloc_new])
  go_wp2_with fail
  refine (rframe_any _ _ _ _ hd).mono ?_
  rintro e w2 ⟨rfl, hb2⟩
  generalize (frameT p d.data.toList m).1 = T
  generalize (frameT p d.data.toList m).2 = c
  go_wp2_with fail
  refine (num_any _ _).mono ?_
  rintro e w3 ⟨rfl, rfl⟩
  go_wp2_with fail
  refine (awake3_any _).mono ?_
  rintro e w4 ⟨rfl, hb4⟩
  go_wp2_with fail
  go_ret
  exact ⟨rfl, seqB (seqB (seqB (allocB (Below.refl _ _) _) hb1) hb2) hb4⟩
/-- the end of FrameGets, whatever text is read -/
theorem frameGets_text (s : ByteArray) (sl : Bool) (m : Int) (hs : s.size ≤ 1048576) : ∃ T : List UInt8, (if sl = true then bytesOf (stuff m (put s.data.toList)) else s) = bytesOf T ∧ T.length ≤ 4194304 := by
  cases sl with
  | true =>
    refine ⟨stuff m (put s.data.toList), rfl, ?_⟩
    have := stuff_length m (put s.data.toList)
    rw [put_length, len_toList] at this
    omega
  | false => exact ⟨s.data.toList, (bytesOf_of s).symm, by rw [len_toList]; omega⟩
set_option maxHeartbeats 1000000 in
theorem frameGets_walk (s : ByteArray) (sl : Bool) (m : Int) (w : World) (hs : s.size ≤ 1048576) :
    Calls Try.prog 9 #[.string s, .bool sl, .int .i64 m] w fun e w' => e = .returned (.bool true) ∧ Below w.heap.size w w' := by
  obtain ⟨T, hT, hTl⟩ := frameGets_text s sl m hs
  have hTs : (bytesOf T).size ≤ 140737488355328 := by rw [bytesOf_size]; omega
  cases sl with
  | true =>
    have HT := Lib.hid hT
    clear hT
    go_enter Try.func9, Try.ntmps9
    go_wp2_with fail
    refine (sum_any _ _ (by unfold maxLen; omega)).mono ?_
    rintro e w1 ⟨rfl, hb1⟩
    go_wp2_with fail
    refine (rstuff_any _ _ _ (by rw [bytesOf_size, put_length, len_toList]; omega)).mono ?_
    rintro e w2 ⟨rfl, hb2⟩
    rw [bytesOf_toList, show bytesOf (stuff m (put s.data.toList)) = bytesOf T from HT.out]
    have hB := seqB hb1 hb2
    clear hb1 hb2
    go_wp2_with fail
    refine (fget_any _ _ hTs).mono ?_
    rintro e w3 ⟨rfl, hb3⟩
    rw [bytesOf_toList]
    obtain ⟨q, D, c, hun⟩ : ∃ q D c, unframe T = (q, D, c) := ⟨_, _, _, rfl⟩
    have Hun := Lib.hid hun
    clear hun
    rw [Hun.out]
    unfold ansF
    have hB3 := seqB hB hb3
    clear hb3 hB
    go_wp2_with fail
    refine (rget_any _ _ hTs).mono ?_
    rintro e w4 ⟨rfl, hb4⟩
    rw [bytesOf_toList, Hun.out]
    have k0 := below_cell hb4 (a := ⟨w3.heap.size, 0, none⟩) (v := .int .i64 q) (by simp [World.cell?_alloc_new])
    have k1 := below_cell hb4 (a := ⟨w3.heap.size, 1, none⟩) (v := .string (bytesOf D)) (by simp [World.cell?_alloc_new])
    have hlt : w3.heap.size < w4.heap.size := block_lt_of_cell k0
    have hB4 := seqB (allocB hB3 _) hb4
    clear hb4 hB3
    unfold ansF
    go_wp2_with fail
    refine (num_any _ _).mono ?_
    rintro e w5 ⟨rfl, rfl⟩
    go_wp2_with fail
    refine (awake3_any _).mono ?_
    rintro e w6 ⟨rfl, hb6⟩
    go_wp2_with fail
    go_ret
    exact ⟨rfl, seqB (allocB hB4 _) hb6⟩
  | false =>
    have hT' : s = bytesOf T := hT
    subst hT'
    clear hT
    have hB : Below w.heap.size w w := Below.refl _ _
    go_enter Try.func9, Try.ntmps9
    go_wp2_with fail
    refine (fget_any _ _ hTs).mono ?_
    rintro e w3 ⟨rfl, hb3⟩
    rw [bytesOf_toList]
    obtain ⟨q, D, c, hun⟩ : ∃ q D c, unframe T = (q, D, c) := ⟨_, _, _, rfl⟩
    have Hun := Lib.hid hun
    clear hun
    rw [Hun.out]
    unfold ansF
    have hB3 := seqB hB hb3
    clear hb3 hB
    go_wp2_with fail
    refine (rget_any _ _ hTs).mono ?_
    rintro e w4 ⟨rfl, hb4⟩
    rw [bytesOf_toList, Hun.out]
    have k0 := below_cell hb4 (a := ⟨w3.heap.size, 0, none⟩) (v := .int .i64 q) (by simp [World.cell?_alloc_new])
    have k1 := below_cell hb4 (a := ⟨w3.heap.size, 1, none⟩) (v := .string (bytesOf D)) (by simp [World.cell?_alloc_new])
    have hlt : w3.heap.size < w4.heap.size := block_lt_of_cell k0
    have hB4 := seqB (allocB hB3 _) hb4
    clear hb4 hB3
    unfold ansF
    go_wp2_with fail
    refine (num_any _ _).mono ?_
    rintro e w5 ⟨rfl, rfl⟩
    go_wp2_with fail
    refine (awake3_any _).mono ?_
    rintro e w6 ⟨rfl, hb6⟩
    go_wp2_with fail
    go_ret
    exact ⟨rfl, seqB (allocB hB4 _) hb6⟩
end Go.Proofs.Ythijchjdkicbdaa
