/- The walk of FrameTurned. -/
import Derived.Test.YthijchjdkicbdaaLawFrame2
namespace Go.Proofs.Ythijchjdkicbdaa
open Go.RowKit Go.Crc
set_option linter.unusedVariables false
theorem i64_and_any (n : Int) (m : Nat) (hm : m < 9223372036854775808) : bits .and .i64 n (m : Int) = (((n % 18446744073709551616).toNat &&& m : Nat) : Int) := by
  have hx : (n % 18446744073709551616).toNat &&& m < 2 ^ 63 := Nat.and_lt_two_pow _ (by omega)
  show IntKind.i64.wrap ((BitVec.ofInt 64 n &&& BitVec.ofInt 64 (m : Int)).toNat : Int) = _
  rw [BitVec.toNat_and, ofInt_i64 m hm, BitVec.toNat_ofInt, IntKind.wrap_i64]
  have e : (n % ((2 ^ 64 : Nat) : Int)) = n % 18446744073709551616 := rfl
  rw [e]
  omega
theorem u8_ne125 {c : UInt8} (h : c ≠ 125) : (((c.toNat : Nat) : Int) == 125) = false := by
  rw [beq_eq_false_iff_ne]; intro e; exact h (UInt8.toNat_inj.1 (by omega : c.toNat = 125))
theorem u8_ne126 {c : UInt8} (h : c ≠ 126) : (((c.toNat : Nat) : Int) == 126) = false := by
  rw [beq_eq_false_iff_ne]; intro e; exact h (UInt8.toNat_inj.1 (by omega : c.toNat = 126))
def oddP (p : Int) : Nat := ((p % 18446744073709551616).toNat &&& 65278) ||| 1
theorem oddP_ok (p : Int) : protoOk (oddP p : Int) = true ∧ oddP p < 65536 := by
  have hlt : oddP p < 2 ^ 16 := Nat.or_lt_two_pow (Nat.and_lt_two_pow _ (by decide)) (by decide)
  have h0 : oddP p % 2 = 1 := by
    have : (oddP p).testBit 0 = true := by unfold oddP; rw [Nat.testBit_or]; simp
    simpa [Nat.testBit_zero] using this
  have h8 : oddP p / 256 % 2 = 0 := by
    have : (oddP p).testBit 8 = false := by
      unfold oddP; rw [Nat.testBit_or, Nat.testBit_and]
      have e1 : Nat.testBit 65278 8 = false := by decide
      have e2 : Nat.testBit 1 8 = false := by decide
      rw [e1, e2]; simp
    rw [Nat.testBit_eq_decide_div_mod_eq] at this
    have := of_decide_eq_false this
    have : oddP p / 2 ^ 8 % 2 ≠ 1 := this
    omega
  refine ⟨?_, hlt⟩
  simp only [protoOk, Bool.and_eq_true, decide_eq_true_eq, beq_iff_eq]
  omega
theorem turned_text (p : Int) (d : List UInt8) (hd : d.length ≤ 1000) : ∃ u T, frameT (oddP p : Int) d 0 = (flagged T, 0) ∧ T = stuff 0 (put u) ∧ 4 ≤ u.length ∧ T.length ≤ 2100 ∧ 6 ≤ T.length := by
  refine ⟨headB (oddP p : Int) ++ d, _, frameT_ok _ d 0 (oddP_ok p).1 (by omega), rfl, by simp [headB], ?_, ?_⟩
  · have := stuff_length 0 (put (headB (oddP p : Int) ++ d))
    rw [put_length] at this
    simp [headB] at this
    simp [headB]; omega
  · refine Nat.le_trans ?_ (stuff_length_ge _ _)
    rw [put_length]; simp [headB]
set_option maxRecDepth 100000 in
set_option maxHeartbeats 4000000 in
theorem frameTurned_long (p : Int) (d : ByteArray) (bit : Int) (w : World) (hd : d.size ≤ maxLen) (hl : 1000 < d.size) :
    Calls Try.prog 10 #[.agg #[.int .i64 p, .string d], .int .i64 bit] w fun e w' => e = .returned (.bool true) ∧ Below w.heap.size w w' := by
  unfold maxLen at hd
  go_enter Try.func10, Try.ntmps10
  go_wp2_with fail
  refine (awake3_any _).mono ?_
  rintro e w1 ⟨rfl, hb1⟩
  have k0 := below_cell hb1 (a := ⟨w.heap.size, 0, none⟩) (v := .int .i64 p) (by simp [World.cell?_alloc_new])
  have k1 := below_cell hb1 (a := ⟨w.heap.size, 1, none⟩) (v := .string d) (by simp [World.cell?_alloc_new])
  have hlt := block_lt_of_cell k0
  have hB1 := seqB (allocB (Below.refl _ _) _) hb1
  clear hb1
  go_wp2_with fail
  go_ret
  exact ⟨rfl, by repeat (first | exact hB1 | apply allocB | apply drewB)⟩
set_option maxRecDepth 100000 in
set_option maxHeartbeats 4000000 in
theorem ft1 (p : Int) (d : ByteArray) (bit : Int) (w : World) (hd : d.size ≤ maxLen) (hl : ¬ 1000 < d.size) (u T : List UInt8) (hT : frameT (oddP p : Int) d.data.toList 0 = (flagged T, 0)) (hTu : T = stuff 0 (put u)) (hu4 : 4 ≤ u.length) (hTl : T.length ≤ 2100) (hTg : 6 ≤ T.length)
    (kk : Nat) (hkl : kk < 8 * T.length) (hkd : ((bit % 18446744073709551616).toNat % (8 * T.length)) = kk) (hj : kk / 8 < T.length) (nb : UInt8) (hnb : nb = T[kk / 8] ^^^ (1 <<< UInt8.ofNat (kk % 8))) (h1 : T[kk / 8] = 125) :
    Calls Try.prog 10 #[.agg #[.int .i64 p, .string d], .int .i64 bit] w fun e w' => e = .returned (.bool true) ∧ Below w.heap.size w w' := by
  unfold maxLen at hd
  obtain ⟨hpo, hpl⟩ := oddP_ok p
  have hba : bits BinOp.and IntKind.i64 p 65278 = (((p % 18446744073709551616).toNat &&& 65278 : Nat) : Int) := i64_and_any p 65278 (by decide)
  have hbx : ((p % 18446744073709551616).toNat &&& 65278) < 65536 := Nat.lt_of_le_of_lt Nat.and_le_right (by decide)
  have hbo : bits BinOp.or IntKind.i64 ((((p % 18446744073709551616).toNat &&& 65278 : Nat)) : Int) 1 = (oddP p : Int) := by
    have := i64_or_nat ((p % 18446744073709551616).toNat &&& 65278) 1 (by omega) (by decide)
    simpa [oddP] using this
  generalize ((p % 18446744073709551616).toNat &&& 65278) = px at hba hbx hbo
  have zT : (bytesOf (flagged T)).size = T.length + 2 := flagged_size T _ rfl
  have xT : (bytesOf (flagged T)).extract 1 (T.length + 1) = bytesOf T := slice_mid T _ rfl
  have yT : (bytesOf T).size = T.length := bytesOf_size T
  obtain ⟨q, hq⟩ : ∃ q : Nat, IntKind.u64.wrap bit = (q : Int) := ⟨(bit % 18446744073709551616).toNat, by rw [IntKind.wrap_u64]; omega⟩
  have hkk : (q : Int) % (8 * (T.length : Int)) = (kk : Int) := by
    rw [IntKind.wrap_u64] at hq
    have : q = (bit % 18446744073709551616).toNat := by omega
    rw [← hkd, ← this, Int.natCast_emod, Int.natCast_mul]; rfl
  have hq0 : (0 : Int) ≤ q := by omega
  have hn0 : (1 : Int) ≤ 8 * (T.length : Int) := by omega
  have hxr : bits BinOp.xor IntKind.u8 (T[kk / 8].toNat : Int) ((2 : Int) ^ (kk % 8) % 256) = ((nb.toNat : Nat) : Int) := by
    have hp : ((2 : Int) ^ (kk % 8) % 256) = ((2 ^ (kk % 8) : Nat) : Int) := by
      have : ∀ j, j < 8 → ((2 : Int) ^ j % 256) = ((2 ^ j : Nat) : Int) := by decide
      exact this _ (by omega)
    have hp8 : 2 ^ (kk % 8) < 256 := by
      have : ∀ j, j < 8 → 2 ^ j < 256 := by decide
      exact this _ (by omega)
    rw [hp, hnb, UInt8.toNat_xor, one_shl _ (by omega), u8_xor_nat _ _ T[kk / 8].toNat_lt hp8]
  have e1 : ((T[kk / 8].toNat : Int) == 125) = true := by rw [h1]; rfl
  clear h1
  have hcv := fun (w : World) (s : ByteArray) => run_bytes_of_string (P := Try.prog) w 9 33 5 s Try.underlying9 Try.underlying33 Try.underlying5
  have HT := Lib.hid hT
  have HTu := Lib.hid hTu
  clear hT hkd hnb hTu
  go_enter Try.func10, Try.ntmps10
  go_wp2_with fail
  refine (awake3_any _).mono ?_
  rintro e w1 ⟨rfl, hb1⟩
  have k0 := below_cell hb1 (a := ⟨w.heap.size, 0, none⟩) (v := .int .i64 p) (by simp [World.cell?_alloc_new])
  have k1 := below_cell hb1 (a := ⟨w.heap.size, 1, none⟩) (v := .string d) (by simp [World.cell?_alloc_new])
  have hlt := block_lt_of_cell k0
  have hB1 := seqB (allocB (Below.refl _ _) _) hb1
  clear hb1
  go_wp2_with fail
  refine (fput_any _ _ _ _ (by unfold maxLen; omega)).mono ?_
  rintro e w2 ⟨rfl, hb2⟩
  rw [HT.out]
  have hB2 : Below w.heap.size w w2 := by repeat (first | exact hB1 | apply allocB | apply drewB | refine seqB ?_ hb2)
  clear hb2 hB1
  go_wp2_with fail
  refine (num_any _ _).mono ?_
  rintro e w3 ⟨rfl, rfl⟩
  have hrow : RowIs (w2.alloc (.cells (bytesRow (bytesOf T) (grownCap w2 T.length 0 5)) 5 ((bytesRow (bytesOf T) (grownCap w2 T.length 0 5)).size, (bytesRow (bytesOf T) (grownCap w2 T.length 0 5)).size + 1))) w2.heap.size 5 T := rowIs_new w2 (bytesOf T) 5 _
  have hcl := hrow.cell hj
  have hfr := hrow.frozen hj
  have hset := (hrow.set hj nb).drew
  have hcvb := fun cap => hset.conv (P := Try.prog) 33 9 Try.underlying33 Try.underlying5 Try.underlying9 T.length cap (by simp)
  have hwS : w.heap.size ≤ w2.heap.size := hB2.size
  have hB3 : Below w.heap.size w (((w2.alloc (.cells (bytesRow (bytesOf T) (grownCap w2 T.length 0 5)) 5 ((bytesRow (bytesOf T) (grownCap w2 T.length 0 5)).size, (bytesRow (bytesOf T) (grownCap w2 T.length 0 5)).size + 1))).setCell ⟨w2.heap.size, kk / 8, none⟩ (.int .u8 ((nb.toNat : Nat) : Int))).drew) := drewB ((allocB hB2 _).setCell hwS _)
  have hyS : (bytesOf (T.set (kk / 8) nb)).size ≤ 140737488355328 := by rw [bytesOf_size, List.length_set]; omega
  go_wp2_with fail
  refine (fget_any _ _ hyS).mono ?_
  rintro e w4 ⟨rfl, hb4⟩
  have hB4 := seqB hB3 hb4
  clear hb4
  unfold ansF
  go_wp2_with fail
  go_ret
  exact ⟨rfl, by repeat (first | exact hB4 | apply allocB | apply drewB)⟩

set_option maxRecDepth 100000 in
set_option maxHeartbeats 4000000 in
theorem ft2 (p : Int) (d : ByteArray) (bit : Int) (w : World) (hd : d.size ≤ maxLen) (hl : ¬ 1000 < d.size) (u T : List UInt8) (hT : frameT (oddP p : Int) d.data.toList 0 = (flagged T, 0)) (hTu : T = stuff 0 (put u)) (hu4 : 4 ≤ u.length) (hTl : T.length ≤ 2100) (hTg : 6 ≤ T.length)
    (kk : Nat) (hkl : kk < 8 * T.length) (hkd : ((bit % 18446744073709551616).toNat % (8 * T.length)) = kk) (hj : kk / 8 < T.length) (nb : UInt8) (hnb : nb = T[kk / 8] ^^^ (1 <<< UInt8.ofNat (kk % 8))) (h1 : T[kk / 8] ≠ 125) (h2 : T[kk / 8] = 126) :
    Calls Try.prog 10 #[.agg #[.int .i64 p, .string d], .int .i64 bit] w fun e w' => e = .returned (.bool true) ∧ Below w.heap.size w w' := by
  unfold maxLen at hd
  obtain ⟨hpo, hpl⟩ := oddP_ok p
  have hba : bits BinOp.and IntKind.i64 p 65278 = (((p % 18446744073709551616).toNat &&& 65278 : Nat) : Int) := i64_and_any p 65278 (by decide)
  have hbx : ((p % 18446744073709551616).toNat &&& 65278) < 65536 := Nat.lt_of_le_of_lt Nat.and_le_right (by decide)
  have hbo : bits BinOp.or IntKind.i64 ((((p % 18446744073709551616).toNat &&& 65278 : Nat)) : Int) 1 = (oddP p : Int) := by
    have := i64_or_nat ((p % 18446744073709551616).toNat &&& 65278) 1 (by omega) (by decide)
    simpa [oddP] using this
  generalize ((p % 18446744073709551616).toNat &&& 65278) = px at hba hbx hbo
  have zT : (bytesOf (flagged T)).size = T.length + 2 := flagged_size T _ rfl
  have xT : (bytesOf (flagged T)).extract 1 (T.length + 1) = bytesOf T := slice_mid T _ rfl
  have yT : (bytesOf T).size = T.length := bytesOf_size T
  obtain ⟨q, hq⟩ : ∃ q : Nat, IntKind.u64.wrap bit = (q : Int) := ⟨(bit % 18446744073709551616).toNat, by rw [IntKind.wrap_u64]; omega⟩
  have hkk : (q : Int) % (8 * (T.length : Int)) = (kk : Int) := by
    rw [IntKind.wrap_u64] at hq
    have : q = (bit % 18446744073709551616).toNat := by omega
    rw [← hkd, ← this, Int.natCast_emod, Int.natCast_mul]; rfl
  have hq0 : (0 : Int) ≤ q := by omega
  have hn0 : (1 : Int) ≤ 8 * (T.length : Int) := by omega
  have hxr : bits BinOp.xor IntKind.u8 (T[kk / 8].toNat : Int) ((2 : Int) ^ (kk % 8) % 256) = ((nb.toNat : Nat) : Int) := by
    have hp : ((2 : Int) ^ (kk % 8) % 256) = ((2 ^ (kk % 8) : Nat) : Int) := by
      have : ∀ j, j < 8 → ((2 : Int) ^ j % 256) = ((2 ^ j : Nat) : Int) := by decide
      exact this _ (by omega)
    have hp8 : 2 ^ (kk % 8) < 256 := by
      have : ∀ j, j < 8 → 2 ^ j < 256 := by decide
      exact this _ (by omega)
    rw [hp, hnb, UInt8.toNat_xor, one_shl _ (by omega), u8_xor_nat _ _ T[kk / 8].toNat_lt hp8]
  have e1 := u8_ne125 h1
  have e2 : ((T[kk / 8].toNat : Int) == 126) = true := by rw [h2]; rfl
  clear h1 h2
  have hcv := fun (w : World) (s : ByteArray) => run_bytes_of_string (P := Try.prog) w 9 33 5 s Try.underlying9 Try.underlying33 Try.underlying5
  have HT := Lib.hid hT
  have HTu := Lib.hid hTu
  clear hT hkd hnb hTu
  go_enter Try.func10, Try.ntmps10
  go_wp2_with fail
  refine (awake3_any _).mono ?_
  rintro e w1 ⟨rfl, hb1⟩
  have k0 := below_cell hb1 (a := ⟨w.heap.size, 0, none⟩) (v := .int .i64 p) (by simp [World.cell?_alloc_new])
  have k1 := below_cell hb1 (a := ⟨w.heap.size, 1, none⟩) (v := .string d) (by simp [World.cell?_alloc_new])
  have hlt := block_lt_of_cell k0
  have hB1 := seqB (allocB (Below.refl _ _) _) hb1
  clear hb1
  go_wp2_with fail
  refine (fput_any _ _ _ _ (by unfold maxLen; omega)).mono ?_
  rintro e w2 ⟨rfl, hb2⟩
  rw [HT.out]
  have hB2 : Below w.heap.size w w2 := by repeat (first | exact hB1 | apply allocB | apply drewB | refine seqB ?_ hb2)
  clear hb2 hB1
  go_wp2_with fail
  refine (num_any _ _).mono ?_
  rintro e w3 ⟨rfl, rfl⟩
  have hrow : RowIs (w2.alloc (.cells (bytesRow (bytesOf T) (grownCap w2 T.length 0 5)) 5 ((bytesRow (bytesOf T) (grownCap w2 T.length 0 5)).size, (bytesRow (bytesOf T) (grownCap w2 T.length 0 5)).size + 1))) w2.heap.size 5 T := rowIs_new w2 (bytesOf T) 5 _
  have hcl := hrow.cell hj
  have hfr := hrow.frozen hj
  have hset := (hrow.set hj nb).drew
  have hcvb := fun cap => hset.conv (P := Try.prog) 33 9 Try.underlying33 Try.underlying5 Try.underlying9 T.length cap (by simp)
  have hwS : w.heap.size ≤ w2.heap.size := hB2.size
  have hB3 : Below w.heap.size w (((w2.alloc (.cells (bytesRow (bytesOf T) (grownCap w2 T.length 0 5)) 5 ((bytesRow (bytesOf T) (grownCap w2 T.length 0 5)).size, (bytesRow (bytesOf T) (grownCap w2 T.length 0 5)).size + 1))).setCell ⟨w2.heap.size, kk / 8, none⟩ (.int .u8 ((nb.toNat : Nat) : Int))).drew) := drewB ((allocB hB2 _).setCell hwS _)
  have hyS : (bytesOf (T.set (kk / 8) nb)).size ≤ 140737488355328 := by rw [bytesOf_size, List.length_set]; omega
  go_wp2_with fail
  refine (fget_any _ _ hyS).mono ?_
  rintro e w4 ⟨rfl, hb4⟩
  have hB4 := seqB hB3 hb4
  clear hb4
  unfold ansF
  go_wp2_with fail
  go_ret
  exact ⟨rfl, by repeat (first | exact hB4 | apply allocB | apply drewB)⟩

set_option maxRecDepth 100000 in
set_option maxHeartbeats 4000000 in
theorem ft3 (p : Int) (d : ByteArray) (bit : Int) (w : World) (hd : d.size ≤ maxLen) (hl : ¬ 1000 < d.size) (u T : List UInt8) (hT : frameT (oddP p : Int) d.data.toList 0 = (flagged T, 0)) (hTu : T = stuff 0 (put u)) (hu4 : 4 ≤ u.length) (hTl : T.length ≤ 2100) (hTg : 6 ≤ T.length)
    (kk : Nat) (hkl : kk < 8 * T.length) (hkd : ((bit % 18446744073709551616).toNat % (8 * T.length)) = kk) (hj : kk / 8 < T.length) (nb : UInt8) (hnb : nb = T[kk / 8] ^^^ (1 <<< UInt8.ofNat (kk % 8))) (h1 : T[kk / 8] ≠ 125) (h2 : T[kk / 8] ≠ 126) (h3 : nb = 125) :
    Calls Try.prog 10 #[.agg #[.int .i64 p, .string d], .int .i64 bit] w fun e w' => e = .returned (.bool true) ∧ Below w.heap.size w w' := by
  unfold maxLen at hd
  obtain ⟨hpo, hpl⟩ := oddP_ok p
  have hba : bits BinOp.and IntKind.i64 p 65278 = (((p % 18446744073709551616).toNat &&& 65278 : Nat) : Int) := i64_and_any p 65278 (by decide)
  have hbx : ((p % 18446744073709551616).toNat &&& 65278) < 65536 := Nat.lt_of_le_of_lt Nat.and_le_right (by decide)
  have hbo : bits BinOp.or IntKind.i64 ((((p % 18446744073709551616).toNat &&& 65278 : Nat)) : Int) 1 = (oddP p : Int) := by
    have := i64_or_nat ((p % 18446744073709551616).toNat &&& 65278) 1 (by omega) (by decide)
    simpa [oddP] using this
  generalize ((p % 18446744073709551616).toNat &&& 65278) = px at hba hbx hbo
  have zT : (bytesOf (flagged T)).size = T.length + 2 := flagged_size T _ rfl
  have xT : (bytesOf (flagged T)).extract 1 (T.length + 1) = bytesOf T := slice_mid T _ rfl
  have yT : (bytesOf T).size = T.length := bytesOf_size T
  obtain ⟨q, hq⟩ : ∃ q : Nat, IntKind.u64.wrap bit = (q : Int) := ⟨(bit % 18446744073709551616).toNat, by rw [IntKind.wrap_u64]; omega⟩
  have hkk : (q : Int) % (8 * (T.length : Int)) = (kk : Int) := by
    rw [IntKind.wrap_u64] at hq
    have : q = (bit % 18446744073709551616).toNat := by omega
    rw [← hkd, ← this, Int.natCast_emod, Int.natCast_mul]; rfl
  have hq0 : (0 : Int) ≤ q := by omega
  have hn0 : (1 : Int) ≤ 8 * (T.length : Int) := by omega
  have hxr : bits BinOp.xor IntKind.u8 (T[kk / 8].toNat : Int) ((2 : Int) ^ (kk % 8) % 256) = ((nb.toNat : Nat) : Int) := by
    have hp : ((2 : Int) ^ (kk % 8) % 256) = ((2 ^ (kk % 8) : Nat) : Int) := by
      have : ∀ j, j < 8 → ((2 : Int) ^ j % 256) = ((2 ^ j : Nat) : Int) := by decide
      exact this _ (by omega)
    have hp8 : 2 ^ (kk % 8) < 256 := by
      have : ∀ j, j < 8 → 2 ^ j < 256 := by decide
      exact this _ (by omega)
    rw [hp, hnb, UInt8.toNat_xor, one_shl _ (by omega), u8_xor_nat _ _ T[kk / 8].toNat_lt hp8]
  have e1 := u8_ne125 h1
  have e2 := u8_ne126 h2
  have e3 : (((nb.toNat : Nat) : Int) == 125) = true := by rw [h3]; rfl
  clear h1 h2 h3
  have hcv := fun (w : World) (s : ByteArray) => run_bytes_of_string (P := Try.prog) w 9 33 5 s Try.underlying9 Try.underlying33 Try.underlying5
  have HT := Lib.hid hT
  have HTu := Lib.hid hTu
  clear hT hkd hnb hTu
  go_enter Try.func10, Try.ntmps10
  go_wp2_with fail
  refine (awake3_any _).mono ?_
  rintro e w1 ⟨rfl, hb1⟩
  have k0 := below_cell hb1 (a := ⟨w.heap.size, 0, none⟩) (v := .int .i64 p) (by simp [World.cell?_alloc_new])
  have k1 := below_cell hb1 (a := ⟨w.heap.size, 1, none⟩) (v := .string d) (by simp [World.cell?_alloc_new])
  have hlt := block_lt_of_cell k0
  have hB1 := seqB (allocB (Below.refl _ _) _) hb1
  clear hb1
  go_wp2_with fail
  refine (fput_any _ _ _ _ (by unfold maxLen; omega)).mono ?_
  rintro e w2 ⟨rfl, hb2⟩
  rw [HT.out]
  have hB2 : Below w.heap.size w w2 := by repeat (first | exact hB1 | apply allocB | apply drewB | refine seqB ?_ hb2)
  clear hb2 hB1
  go_wp2_with fail
  refine (num_any _ _).mono ?_
  rintro e w3 ⟨rfl, rfl⟩
  have hrow : RowIs (w2.alloc (.cells (bytesRow (bytesOf T) (grownCap w2 T.length 0 5)) 5 ((bytesRow (bytesOf T) (grownCap w2 T.length 0 5)).size, (bytesRow (bytesOf T) (grownCap w2 T.length 0 5)).size + 1))) w2.heap.size 5 T := rowIs_new w2 (bytesOf T) 5 _
  have hcl := hrow.cell hj
  have hfr := hrow.frozen hj
  have hset := (hrow.set hj nb).drew
  have hcvb := fun cap => hset.conv (P := Try.prog) 33 9 Try.underlying33 Try.underlying5 Try.underlying9 T.length cap (by simp)
  have hwS : w.heap.size ≤ w2.heap.size := hB2.size
  have hB3 : Below w.heap.size w (((w2.alloc (.cells (bytesRow (bytesOf T) (grownCap w2 T.length 0 5)) 5 ((bytesRow (bytesOf T) (grownCap w2 T.length 0 5)).size, (bytesRow (bytesOf T) (grownCap w2 T.length 0 5)).size + 1))).setCell ⟨w2.heap.size, kk / 8, none⟩ (.int .u8 ((nb.toNat : Nat) : Int))).drew) := drewB ((allocB hB2 _).setCell hwS _)
  have hyS : (bytesOf (T.set (kk / 8) nb)).size ≤ 140737488355328 := by rw [bytesOf_size, List.length_set]; omega
  go_wp2_with fail
  refine (fget_any _ _ hyS).mono ?_
  rintro e w4 ⟨rfl, hb4⟩
  have hB4 := seqB hB3 hb4
  clear hb4
  unfold ansF
  go_wp2_with fail
  go_ret
  exact ⟨rfl, by repeat (first | exact hB4 | apply allocB | apply drewB)⟩

set_option maxRecDepth 100000 in
set_option maxHeartbeats 4000000 in
theorem ft4 (p : Int) (d : ByteArray) (bit : Int) (w : World) (hd : d.size ≤ maxLen) (hl : ¬ 1000 < d.size) (u T : List UInt8) (hT : frameT (oddP p : Int) d.data.toList 0 = (flagged T, 0)) (hTu : T = stuff 0 (put u)) (hu4 : 4 ≤ u.length) (hTl : T.length ≤ 2100) (hTg : 6 ≤ T.length)
    (kk : Nat) (hkl : kk < 8 * T.length) (hkd : ((bit % 18446744073709551616).toNat % (8 * T.length)) = kk) (hj : kk / 8 < T.length) (nb : UInt8) (hnb : nb = T[kk / 8] ^^^ (1 <<< UInt8.ofNat (kk % 8))) (h1 : T[kk / 8] ≠ 125) (h2 : T[kk / 8] ≠ 126) (h3 : nb ≠ 125) (h4 : nb = 126) :
    Calls Try.prog 10 #[.agg #[.int .i64 p, .string d], .int .i64 bit] w fun e w' => e = .returned (.bool true) ∧ Below w.heap.size w w' := by
  unfold maxLen at hd
  obtain ⟨hpo, hpl⟩ := oddP_ok p
  have hba : bits BinOp.and IntKind.i64 p 65278 = (((p % 18446744073709551616).toNat &&& 65278 : Nat) : Int) := i64_and_any p 65278 (by decide)
  have hbx : ((p % 18446744073709551616).toNat &&& 65278) < 65536 := Nat.lt_of_le_of_lt Nat.and_le_right (by decide)
  have hbo : bits BinOp.or IntKind.i64 ((((p % 18446744073709551616).toNat &&& 65278 : Nat)) : Int) 1 = (oddP p : Int) := by
    have := i64_or_nat ((p % 18446744073709551616).toNat &&& 65278) 1 (by omega) (by decide)
    simpa [oddP] using this
  generalize ((p % 18446744073709551616).toNat &&& 65278) = px at hba hbx hbo
  have zT : (bytesOf (flagged T)).size = T.length + 2 := flagged_size T _ rfl
  have xT : (bytesOf (flagged T)).extract 1 (T.length + 1) = bytesOf T := slice_mid T _ rfl
  have yT : (bytesOf T).size = T.length := bytesOf_size T
  obtain ⟨q, hq⟩ : ∃ q : Nat, IntKind.u64.wrap bit = (q : Int) := ⟨(bit % 18446744073709551616).toNat, by rw [IntKind.wrap_u64]; omega⟩
  have hkk : (q : Int) % (8 * (T.length : Int)) = (kk : Int) := by
    rw [IntKind.wrap_u64] at hq
    have : q = (bit % 18446744073709551616).toNat := by omega
    rw [← hkd, ← this, Int.natCast_emod, Int.natCast_mul]; rfl
  have hq0 : (0 : Int) ≤ q := by omega
  have hn0 : (1 : Int) ≤ 8 * (T.length : Int) := by omega
  have hxr : bits BinOp.xor IntKind.u8 (T[kk / 8].toNat : Int) ((2 : Int) ^ (kk % 8) % 256) = ((nb.toNat : Nat) : Int) := by
    have hp : ((2 : Int) ^ (kk % 8) % 256) = ((2 ^ (kk % 8) : Nat) : Int) := by
      have : ∀ j, j < 8 → ((2 : Int) ^ j % 256) = ((2 ^ j : Nat) : Int) := by decide
      exact this _ (by omega)
    have hp8 : 2 ^ (kk % 8) < 256 := by
      have : ∀ j, j < 8 → 2 ^ j < 256 := by decide
      exact this _ (by omega)
    rw [hp, hnb, UInt8.toNat_xor, one_shl _ (by omega), u8_xor_nat _ _ T[kk / 8].toNat_lt hp8]
  have e1 := u8_ne125 h1
  have e2 := u8_ne126 h2
  have e3 := u8_ne125 h3
  have e4 : (((nb.toNat : Nat) : Int) == 126) = true := by rw [h4]; rfl
  clear h1 h2 h3 h4
  have hcv := fun (w : World) (s : ByteArray) => run_bytes_of_string (P := Try.prog) w 9 33 5 s Try.underlying9 Try.underlying33 Try.underlying5
  have HT := Lib.hid hT
  have HTu := Lib.hid hTu
  clear hT hkd hnb hTu
  go_enter Try.func10, Try.ntmps10
  go_wp2_with fail
  refine (awake3_any _).mono ?_
  rintro e w1 ⟨rfl, hb1⟩
  have k0 := below_cell hb1 (a := ⟨w.heap.size, 0, none⟩) (v := .int .i64 p) (by simp [World.cell?_alloc_new])
  have k1 := below_cell hb1 (a := ⟨w.heap.size, 1, none⟩) (v := .string d) (by simp [World.cell?_alloc_new])
  have hlt := block_lt_of_cell k0
  have hB1 := seqB (allocB (Below.refl _ _) _) hb1
  clear hb1
  go_wp2_with fail
  refine (fput_any _ _ _ _ (by unfold maxLen; omega)).mono ?_
  rintro e w2 ⟨rfl, hb2⟩
  rw [HT.out]
  have hB2 : Below w.heap.size w w2 := by repeat (first | exact hB1 | apply allocB | apply drewB | refine seqB ?_ hb2)
  clear hb2 hB1
  go_wp2_with fail
  refine (num_any _ _).mono ?_
  rintro e w3 ⟨rfl, rfl⟩
  have hrow : RowIs (w2.alloc (.cells (bytesRow (bytesOf T) (grownCap w2 T.length 0 5)) 5 ((bytesRow (bytesOf T) (grownCap w2 T.length 0 5)).size, (bytesRow (bytesOf T) (grownCap w2 T.length 0 5)).size + 1))) w2.heap.size 5 T := rowIs_new w2 (bytesOf T) 5 _
  have hcl := hrow.cell hj
  have hfr := hrow.frozen hj
  have hset := (hrow.set hj nb).drew
  have hcvb := fun cap => hset.conv (P := Try.prog) 33 9 Try.underlying33 Try.underlying5 Try.underlying9 T.length cap (by simp)
  have hwS : w.heap.size ≤ w2.heap.size := hB2.size
  have hB3 : Below w.heap.size w (((w2.alloc (.cells (bytesRow (bytesOf T) (grownCap w2 T.length 0 5)) 5 ((bytesRow (bytesOf T) (grownCap w2 T.length 0 5)).size, (bytesRow (bytesOf T) (grownCap w2 T.length 0 5)).size + 1))).setCell ⟨w2.heap.size, kk / 8, none⟩ (.int .u8 ((nb.toNat : Nat) : Int))).drew) := drewB ((allocB hB2 _).setCell hwS _)
  have hyS : (bytesOf (T.set (kk / 8) nb)).size ≤ 140737488355328 := by rw [bytesOf_size, List.length_set]; omega
  go_wp2_with fail
  refine (fget_any _ _ hyS).mono ?_
  rintro e w4 ⟨rfl, hb4⟩
  have hB4 := seqB hB3 hb4
  clear hb4
  unfold ansF
  go_wp2_with fail
  go_ret
  exact ⟨rfl, by repeat (first | exact hB4 | apply allocB | apply drewB)⟩

set_option maxRecDepth 100000 in
set_option maxHeartbeats 4000000 in
theorem ft5 (p : Int) (d : ByteArray) (bit : Int) (w : World) (hd : d.size ≤ maxLen) (hl : ¬ 1000 < d.size) (u T : List UInt8) (hT : frameT (oddP p : Int) d.data.toList 0 = (flagged T, 0)) (hTu : T = stuff 0 (put u)) (hu4 : 4 ≤ u.length) (hTl : T.length ≤ 2100) (hTg : 6 ≤ T.length)
    (kk : Nat) (hkl : kk < 8 * T.length) (hkd : ((bit % 18446744073709551616).toNat % (8 * T.length)) = kk) (hj : kk / 8 < T.length) (nb : UInt8) (hnb : nb = T[kk / 8] ^^^ (1 <<< UInt8.ofNat (kk % 8))) (h1 : T[kk / 8] ≠ 125) (h2 : T[kk / 8] ≠ 126) (h3 : nb ≠ 125) (h4 : nb ≠ 126) (h5 : 0 < kk / 8) (h6 : T[kk / 8 - 1] = 125) :
    Calls Try.prog 10 #[.agg #[.int .i64 p, .string d], .int .i64 bit] w fun e w' => e = .returned (.bool true) ∧ Below w.heap.size w w' := by
  unfold maxLen at hd
  obtain ⟨hpo, hpl⟩ := oddP_ok p
  have hba : bits BinOp.and IntKind.i64 p 65278 = (((p % 18446744073709551616).toNat &&& 65278 : Nat) : Int) := i64_and_any p 65278 (by decide)
  have hbx : ((p % 18446744073709551616).toNat &&& 65278) < 65536 := Nat.lt_of_le_of_lt Nat.and_le_right (by decide)
  have hbo : bits BinOp.or IntKind.i64 ((((p % 18446744073709551616).toNat &&& 65278 : Nat)) : Int) 1 = (oddP p : Int) := by
    have := i64_or_nat ((p % 18446744073709551616).toNat &&& 65278) 1 (by omega) (by decide)
    simpa [oddP] using this
  generalize ((p % 18446744073709551616).toNat &&& 65278) = px at hba hbx hbo
  have zT : (bytesOf (flagged T)).size = T.length + 2 := flagged_size T _ rfl
  have xT : (bytesOf (flagged T)).extract 1 (T.length + 1) = bytesOf T := slice_mid T _ rfl
  have yT : (bytesOf T).size = T.length := bytesOf_size T
  obtain ⟨q, hq⟩ : ∃ q : Nat, IntKind.u64.wrap bit = (q : Int) := ⟨(bit % 18446744073709551616).toNat, by rw [IntKind.wrap_u64]; omega⟩
  have hkk : (q : Int) % (8 * (T.length : Int)) = (kk : Int) := by
    rw [IntKind.wrap_u64] at hq
    have : q = (bit % 18446744073709551616).toNat := by omega
    rw [← hkd, ← this, Int.natCast_emod, Int.natCast_mul]; rfl
  have hq0 : (0 : Int) ≤ q := by omega
  have hn0 : (1 : Int) ≤ 8 * (T.length : Int) := by omega
  have hxr : bits BinOp.xor IntKind.u8 (T[kk / 8].toNat : Int) ((2 : Int) ^ (kk % 8) % 256) = ((nb.toNat : Nat) : Int) := by
    have hp : ((2 : Int) ^ (kk % 8) % 256) = ((2 ^ (kk % 8) : Nat) : Int) := by
      have : ∀ j, j < 8 → ((2 : Int) ^ j % 256) = ((2 ^ j : Nat) : Int) := by decide
      exact this _ (by omega)
    have hp8 : 2 ^ (kk % 8) < 256 := by
      have : ∀ j, j < 8 → 2 ^ j < 256 := by decide
      exact this _ (by omega)
    rw [hp, hnb, UInt8.toNat_xor, one_shl _ (by omega), u8_xor_nat _ _ T[kk / 8].toNat_lt hp8]
  have e1 := u8_ne125 h1
  have e2 := u8_ne126 h2
  have e3 := u8_ne125 h3
  have e4 := u8_ne126 h4
  have h0 : (0 : Int) < (kk : Int) / 8 := by omega
  have hp1 : kk / 8 - 1 < T.length := by omega
  have hpi : (kk : Int) / 8 - 1 = ((kk / 8 - 1 : Nat) : Int) := by omega
  have e5 : ((T[kk / 8 - 1].toNat : Int) == 125) = true := by rw [h6]; rfl
  clear h1 h2 h3 h4
  clear h6
  have hcv := fun (w : World) (s : ByteArray) => run_bytes_of_string (P := Try.prog) w 9 33 5 s Try.underlying9 Try.underlying33 Try.underlying5
  have HT := Lib.hid hT
  have HTu := Lib.hid hTu
  clear hT hkd hnb hTu
  go_enter Try.func10, Try.ntmps10
  go_wp2_with fail
  refine (awake3_any _).mono ?_
  rintro e w1 ⟨rfl, hb1⟩
  have k0 := below_cell hb1 (a := ⟨w.heap.size, 0, none⟩) (v := .int .i64 p) (by simp [World.cell?_alloc_new])
  have k1 := below_cell hb1 (a := ⟨w.heap.size, 1, none⟩) (v := .string d) (by simp [World.cell?_alloc_new])
  have hlt := block_lt_of_cell k0
  have hB1 := seqB (allocB (Below.refl _ _) _) hb1
  clear hb1
  go_wp2_with fail
  refine (fput_any _ _ _ _ (by unfold maxLen; omega)).mono ?_
  rintro e w2 ⟨rfl, hb2⟩
  rw [HT.out]
  have hB2 : Below w.heap.size w w2 := by repeat (first | exact hB1 | apply allocB | apply drewB | refine seqB ?_ hb2)
  clear hb2 hB1
  go_wp2_with fail
  refine (num_any _ _).mono ?_
  rintro e w3 ⟨rfl, rfl⟩
  have hrow : RowIs (w2.alloc (.cells (bytesRow (bytesOf T) (grownCap w2 T.length 0 5)) 5 ((bytesRow (bytesOf T) (grownCap w2 T.length 0 5)).size, (bytesRow (bytesOf T) (grownCap w2 T.length 0 5)).size + 1))) w2.heap.size 5 T := rowIs_new w2 (bytesOf T) 5 _
  have hcl := hrow.cell hj
  have hfr := hrow.frozen hj
  have hset := (hrow.set hj nb).drew
  have hcvb := fun cap => hset.conv (P := Try.prog) 33 9 Try.underlying33 Try.underlying5 Try.underlying9 T.length cap (by simp)
  have hwS : w.heap.size ≤ w2.heap.size := hB2.size
  have hB3 : Below w.heap.size w (((w2.alloc (.cells (bytesRow (bytesOf T) (grownCap w2 T.length 0 5)) 5 ((bytesRow (bytesOf T) (grownCap w2 T.length 0 5)).size, (bytesRow (bytesOf T) (grownCap w2 T.length 0 5)).size + 1))).setCell ⟨w2.heap.size, kk / 8, none⟩ (.int .u8 ((nb.toNat : Nat) : Int))).drew) := drewB ((allocB hB2 _).setCell hwS _)
  have hyS : (bytesOf (T.set (kk / 8) nb)).size ≤ 140737488355328 := by rw [bytesOf_size, List.length_set]; omega
  have hp2 : kk / 8 - 1 < (T.set (kk / 8) nb).length := by rw [List.length_set]; omega
  have hclp := hset.cell hp2
  rw [List.getElem_set_ne (by omega)] at hclp
  go_wp2_with fail
  refine (fget_any _ _ hyS).mono ?_
  rintro e w4 ⟨rfl, hb4⟩
  have hB4 := seqB hB3 hb4
  clear hb4
  unfold ansF
  go_wp2_with fail
  go_ret
  exact ⟨rfl, by repeat (first | exact hB4 | apply allocB | apply drewB)⟩

set_option maxRecDepth 100000 in
set_option maxHeartbeats 4000000 in
theorem ft6 (p : Int) (d : ByteArray) (bit : Int) (w : World) (hd : d.size ≤ maxLen) (hl : ¬ 1000 < d.size) (u T : List UInt8) (hT : frameT (oddP p : Int) d.data.toList 0 = (flagged T, 0)) (hTu : T = stuff 0 (put u)) (hu4 : 4 ≤ u.length) (hTl : T.length ≤ 2100) (hTg : 6 ≤ T.length)
    (kk : Nat) (hkl : kk < 8 * T.length) (hkd : ((bit % 18446744073709551616).toNat % (8 * T.length)) = kk) (hj : kk / 8 < T.length) (nb : UInt8) (hnb : nb = T[kk / 8] ^^^ (1 <<< UInt8.ofNat (kk % 8))) (h1 : T[kk / 8] ≠ 125) (h2 : T[kk / 8] ≠ 126) (h3 : nb ≠ 125) (h4 : nb ≠ 126) (h5 : 0 < kk / 8) (h6 : T[kk / 8 - 1] ≠ 125) :
    Calls Try.prog 10 #[.agg #[.int .i64 p, .string d], .int .i64 bit] w fun e w' => e = .returned (.bool true) ∧ Below w.heap.size w w' := by
  unfold maxLen at hd
  obtain ⟨hpo, hpl⟩ := oddP_ok p
  have hba : bits BinOp.and IntKind.i64 p 65278 = (((p % 18446744073709551616).toNat &&& 65278 : Nat) : Int) := i64_and_any p 65278 (by decide)
  have hbx : ((p % 18446744073709551616).toNat &&& 65278) < 65536 := Nat.lt_of_le_of_lt Nat.and_le_right (by decide)
  have hbo : bits BinOp.or IntKind.i64 ((((p % 18446744073709551616).toNat &&& 65278 : Nat)) : Int) 1 = (oddP p : Int) := by
    have := i64_or_nat ((p % 18446744073709551616).toNat &&& 65278) 1 (by omega) (by decide)
    simpa [oddP] using this
  generalize ((p % 18446744073709551616).toNat &&& 65278) = px at hba hbx hbo
  have zT : (bytesOf (flagged T)).size = T.length + 2 := flagged_size T _ rfl
  have xT : (bytesOf (flagged T)).extract 1 (T.length + 1) = bytesOf T := slice_mid T _ rfl
  have yT : (bytesOf T).size = T.length := bytesOf_size T
  obtain ⟨q, hq⟩ : ∃ q : Nat, IntKind.u64.wrap bit = (q : Int) := ⟨(bit % 18446744073709551616).toNat, by rw [IntKind.wrap_u64]; omega⟩
  have hkk : (q : Int) % (8 * (T.length : Int)) = (kk : Int) := by
    rw [IntKind.wrap_u64] at hq
    have : q = (bit % 18446744073709551616).toNat := by omega
    rw [← hkd, ← this, Int.natCast_emod, Int.natCast_mul]; rfl
  have hq0 : (0 : Int) ≤ q := by omega
  have hn0 : (1 : Int) ≤ 8 * (T.length : Int) := by omega
  have hxr : bits BinOp.xor IntKind.u8 (T[kk / 8].toNat : Int) ((2 : Int) ^ (kk % 8) % 256) = ((nb.toNat : Nat) : Int) := by
    have hp : ((2 : Int) ^ (kk % 8) % 256) = ((2 ^ (kk % 8) : Nat) : Int) := by
      have : ∀ j, j < 8 → ((2 : Int) ^ j % 256) = ((2 ^ j : Nat) : Int) := by decide
      exact this _ (by omega)
    have hp8 : 2 ^ (kk % 8) < 256 := by
      have : ∀ j, j < 8 → 2 ^ j < 256 := by decide
      exact this _ (by omega)
    rw [hp, hnb, UInt8.toNat_xor, one_shl _ (by omega), u8_xor_nat _ _ T[kk / 8].toNat_lt hp8]
  have e1 := u8_ne125 h1
  have e2 := u8_ne126 h2
  have e3 := u8_ne125 h3
  have e4 := u8_ne126 h4
  have h0 : (0 : Int) < (kk : Int) / 8 := by omega
  have hp1 : kk / 8 - 1 < T.length := by omega
  have hpi : (kk : Int) / 8 - 1 = ((kk / 8 - 1 : Nat) : Int) := by omega
  have e5 : ((T[kk / 8 - 1].toNat : Int) == 125) = false := u8_ne125 h6
  have hun : Hid (unframe (T.set (kk / 8) nb) = (0, [], 301)) := Lib.hid (by
    subst hnb
    subst hTu
    exact unframe_turned u kk hu4 hj h1 h2 h3 h4 (fun _ => h6))
  clear h1 h2 h3 h4
  clear h6
  have hcv := fun (w : World) (s : ByteArray) => run_bytes_of_string (P := Try.prog) w 9 33 5 s Try.underlying9 Try.underlying33 Try.underlying5
  have HT := Lib.hid hT
  have HTu := Lib.hid hTu
  clear hT hkd hnb hTu
  go_enter Try.func10, Try.ntmps10
  go_wp2_with fail
  refine (awake3_any _).mono ?_
  rintro e w1 ⟨rfl, hb1⟩
  have k0 := below_cell hb1 (a := ⟨w.heap.size, 0, none⟩) (v := .int .i64 p) (by simp [World.cell?_alloc_new])
  have k1 := below_cell hb1 (a := ⟨w.heap.size, 1, none⟩) (v := .string d) (by simp [World.cell?_alloc_new])
  have hlt := block_lt_of_cell k0
  have hB1 := seqB (allocB (Below.refl _ _) _) hb1
  clear hb1
  go_wp2_with fail
  refine (fput_any _ _ _ _ (by unfold maxLen; omega)).mono ?_
  rintro e w2 ⟨rfl, hb2⟩
  rw [HT.out]
  have hB2 : Below w.heap.size w w2 := by repeat (first | exact hB1 | apply allocB | apply drewB | refine seqB ?_ hb2)
  clear hb2 hB1
  go_wp2_with fail
  refine (num_any _ _).mono ?_
  rintro e w3 ⟨rfl, rfl⟩
  have hrow : RowIs (w2.alloc (.cells (bytesRow (bytesOf T) (grownCap w2 T.length 0 5)) 5 ((bytesRow (bytesOf T) (grownCap w2 T.length 0 5)).size, (bytesRow (bytesOf T) (grownCap w2 T.length 0 5)).size + 1))) w2.heap.size 5 T := rowIs_new w2 (bytesOf T) 5 _
  have hcl := hrow.cell hj
  have hfr := hrow.frozen hj
  have hset := (hrow.set hj nb).drew
  have hcvb := fun cap => hset.conv (P := Try.prog) 33 9 Try.underlying33 Try.underlying5 Try.underlying9 T.length cap (by simp)
  have hwS : w.heap.size ≤ w2.heap.size := hB2.size
  have hB3 : Below w.heap.size w (((w2.alloc (.cells (bytesRow (bytesOf T) (grownCap w2 T.length 0 5)) 5 ((bytesRow (bytesOf T) (grownCap w2 T.length 0 5)).size, (bytesRow (bytesOf T) (grownCap w2 T.length 0 5)).size + 1))).setCell ⟨w2.heap.size, kk / 8, none⟩ (.int .u8 ((nb.toNat : Nat) : Int))).drew) := drewB ((allocB hB2 _).setCell hwS _)
  have hyS : (bytesOf (T.set (kk / 8) nb)).size ≤ 140737488355328 := by rw [bytesOf_size, List.length_set]; omega
  have hp2 : kk / 8 - 1 < (T.set (kk / 8) nb).length := by rw [List.length_set]; omega
  have hclp := hset.cell hp2
  rw [List.getElem_set_ne (by omega)] at hclp
  go_wp2_with fail
  refine (fget_any _ _ hyS).mono ?_
  rintro e w4 ⟨rfl, hb4⟩
  have hB4 := seqB hB3 hb4
  clear hb4
  unfold ansF
  rw [bytesOf_toList, hun.out]
  go_wp2_with fail
  refine (num_any _ _).mono ?_
  rintro e w5 ⟨rfl, rfl⟩
  go_wp2_with fail
  go_ret
  exact ⟨rfl, by repeat (first | exact hB4 | apply allocB | apply drewB)⟩

set_option maxRecDepth 100000 in
set_option maxHeartbeats 4000000 in
theorem ft7 (p : Int) (d : ByteArray) (bit : Int) (w : World) (hd : d.size ≤ maxLen) (hl : ¬ 1000 < d.size) (u T : List UInt8) (hT : frameT (oddP p : Int) d.data.toList 0 = (flagged T, 0)) (hTu : T = stuff 0 (put u)) (hu4 : 4 ≤ u.length) (hTl : T.length ≤ 2100) (hTg : 6 ≤ T.length)
    (kk : Nat) (hkl : kk < 8 * T.length) (hkd : ((bit % 18446744073709551616).toNat % (8 * T.length)) = kk) (hj : kk / 8 < T.length) (nb : UInt8) (hnb : nb = T[kk / 8] ^^^ (1 <<< UInt8.ofNat (kk % 8))) (h1 : T[kk / 8] ≠ 125) (h2 : T[kk / 8] ≠ 126) (h3 : nb ≠ 125) (h4 : nb ≠ 126) (h5 : kk / 8 = 0) :
    Calls Try.prog 10 #[.agg #[.int .i64 p, .string d], .int .i64 bit] w fun e w' => e = .returned (.bool true) ∧ Below w.heap.size w w' := by
  unfold maxLen at hd
  obtain ⟨hpo, hpl⟩ := oddP_ok p
  have hba : bits BinOp.and IntKind.i64 p 65278 = (((p % 18446744073709551616).toNat &&& 65278 : Nat) : Int) := i64_and_any p 65278 (by decide)
  have hbx : ((p % 18446744073709551616).toNat &&& 65278) < 65536 := Nat.lt_of_le_of_lt Nat.and_le_right (by decide)
  have hbo : bits BinOp.or IntKind.i64 ((((p % 18446744073709551616).toNat &&& 65278 : Nat)) : Int) 1 = (oddP p : Int) := by
    have := i64_or_nat ((p % 18446744073709551616).toNat &&& 65278) 1 (by omega) (by decide)
    simpa [oddP] using this
  generalize ((p % 18446744073709551616).toNat &&& 65278) = px at hba hbx hbo
  have zT : (bytesOf (flagged T)).size = T.length + 2 := flagged_size T _ rfl
  have xT : (bytesOf (flagged T)).extract 1 (T.length + 1) = bytesOf T := slice_mid T _ rfl
  have yT : (bytesOf T).size = T.length := bytesOf_size T
  obtain ⟨q, hq⟩ : ∃ q : Nat, IntKind.u64.wrap bit = (q : Int) := ⟨(bit % 18446744073709551616).toNat, by rw [IntKind.wrap_u64]; omega⟩
  have hkk : (q : Int) % (8 * (T.length : Int)) = (kk : Int) := by
    rw [IntKind.wrap_u64] at hq
    have : q = (bit % 18446744073709551616).toNat := by omega
    rw [← hkd, ← this, Int.natCast_emod, Int.natCast_mul]; rfl
  have hq0 : (0 : Int) ≤ q := by omega
  have hn0 : (1 : Int) ≤ 8 * (T.length : Int) := by omega
  have hxr : bits BinOp.xor IntKind.u8 (T[kk / 8].toNat : Int) ((2 : Int) ^ (kk % 8) % 256) = ((nb.toNat : Nat) : Int) := by
    have hp : ((2 : Int) ^ (kk % 8) % 256) = ((2 ^ (kk % 8) : Nat) : Int) := by
      have : ∀ j, j < 8 → ((2 : Int) ^ j % 256) = ((2 ^ j : Nat) : Int) := by decide
      exact this _ (by omega)
    have hp8 : 2 ^ (kk % 8) < 256 := by
      have : ∀ j, j < 8 → 2 ^ j < 256 := by decide
      exact this _ (by omega)
    rw [hp, hnb, UInt8.toNat_xor, one_shl _ (by omega), u8_xor_nat _ _ T[kk / 8].toNat_lt hp8]
  have e1 := u8_ne125 h1
  have e2 := u8_ne126 h2
  have e3 := u8_ne125 h3
  have e4 := u8_ne126 h4
  have h0 : ¬ (0 : Int) < (kk : Int) / 8 := by omega
  have hun : Hid (unframe (T.set (kk / 8) nb) = (0, [], 301)) := Lib.hid (by
    subst hnb
    subst hTu
    exact unframe_turned u kk hu4 hj h1 h2 h3 h4 (fun h => absurd h (by omega)))
  clear h1 h2 h3 h4
  clear h5
  have hcv := fun (w : World) (s : ByteArray) => run_bytes_of_string (P := Try.prog) w 9 33 5 s Try.underlying9 Try.underlying33 Try.underlying5
  have HT := Lib.hid hT
  have HTu := Lib.hid hTu
  clear hT hkd hnb hTu
  go_enter Try.func10, Try.ntmps10
  go_wp2_with fail
  refine (awake3_any _).mono ?_
  rintro e w1 ⟨rfl, hb1⟩
  have k0 := below_cell hb1 (a := ⟨w.heap.size, 0, none⟩) (v := .int .i64 p) (by simp [World.cell?_alloc_new])
  have k1 := below_cell hb1 (a := ⟨w.heap.size, 1, none⟩) (v := .string d) (by simp [World.cell?_alloc_new])
  have hlt := block_lt_of_cell k0
  have hB1 := seqB (allocB (Below.refl _ _) _) hb1
  clear hb1
  go_wp2_with fail
  refine (fput_any _ _ _ _ (by unfold maxLen; omega)).mono ?_
  rintro e w2 ⟨rfl, hb2⟩
  rw [HT.out]
  have hB2 : Below w.heap.size w w2 := by repeat (first | exact hB1 | apply allocB | apply drewB | refine seqB ?_ hb2)
  clear hb2 hB1
  go_wp2_with fail
  refine (num_any _ _).mono ?_
  rintro e w3 ⟨rfl, rfl⟩
  have hrow : RowIs (w2.alloc (.cells (bytesRow (bytesOf T) (grownCap w2 T.length 0 5)) 5 ((bytesRow (bytesOf T) (grownCap w2 T.length 0 5)).size, (bytesRow (bytesOf T) (grownCap w2 T.length 0 5)).size + 1))) w2.heap.size 5 T := rowIs_new w2 (bytesOf T) 5 _
  have hcl := hrow.cell hj
  have hfr := hrow.frozen hj
  have hset := (hrow.set hj nb).drew
  have hcvb := fun cap => hset.conv (P := Try.prog) 33 9 Try.underlying33 Try.underlying5 Try.underlying9 T.length cap (by simp)
  have hwS : w.heap.size ≤ w2.heap.size := hB2.size
  have hB3 : Below w.heap.size w (((w2.alloc (.cells (bytesRow (bytesOf T) (grownCap w2 T.length 0 5)) 5 ((bytesRow (bytesOf T) (grownCap w2 T.length 0 5)).size, (bytesRow (bytesOf T) (grownCap w2 T.length 0 5)).size + 1))).setCell ⟨w2.heap.size, kk / 8, none⟩ (.int .u8 ((nb.toNat : Nat) : Int))).drew) := drewB ((allocB hB2 _).setCell hwS _)
  have hyS : (bytesOf (T.set (kk / 8) nb)).size ≤ 140737488355328 := by rw [bytesOf_size, List.length_set]; omega
  go_wp2_with fail
  refine (fget_any _ _ hyS).mono ?_
  rintro e w4 ⟨rfl, hb4⟩
  have hB4 := seqB hB3 hb4
  clear hb4
  unfold ansF
  rw [bytesOf_toList, hun.out]
  go_wp2_with fail
  refine (num_any _ _).mono ?_
  rintro e w5 ⟨rfl, rfl⟩
  go_wp2_with fail
  go_ret
  exact ⟨rfl, by repeat (first | exact hB4 | apply allocB | apply drewB)⟩

theorem frameTurned_walk (p : Int) (d : ByteArray) (bit : Int) (w : World) (hd : d.size ≤ maxLen) :
    Calls Try.prog 10 #[.agg #[.int .i64 p, .string d], .int .i64 bit] w fun e w' => e = .returned (.bool true) ∧ Below w.heap.size w w' := by
  by_cases hl : 1000 < d.size
  · exact frameTurned_long p d bit w hd hl
  obtain ⟨u, T, hT, hTu, hu4, hTl, hTg⟩ := turned_text p d.data.toList (by rw [len_toList]; omega)
  obtain ⟨kk, hkd⟩ : ∃ kk, (bit % 18446744073709551616).toNat % (8 * T.length) = kk := ⟨_, rfl⟩
  have hkl : kk < 8 * T.length := hkd ▸ Nat.mod_lt _ (by omega)
  have hj : kk / 8 < T.length := by omega
  obtain ⟨nb, hnb⟩ : ∃ nb : UInt8, nb = T[kk / 8] ^^^ (1 <<< UInt8.ofNat (kk % 8)) := ⟨_, rfl⟩
  by_cases h1 : T[kk / 8] = 125
  · exact ft1 p d bit w hd hl u T hT hTu hu4 hTl hTg kk hkl hkd hj nb hnb h1
  by_cases h2 : T[kk / 8] = 126
  · exact ft2 p d bit w hd hl u T hT hTu hu4 hTl hTg kk hkl hkd hj nb hnb h1 h2
  by_cases h3 : nb = 125
  · exact ft3 p d bit w hd hl u T hT hTu hu4 hTl hTg kk hkl hkd hj nb hnb h1 h2 h3
  by_cases h4 : nb = 126
  · exact ft4 p d bit w hd hl u T hT hTu hu4 hTl hTg kk hkl hkd hj nb hnb h1 h2 h3 h4
  by_cases h5 : 0 < kk / 8
  · by_cases h6 : T[kk / 8 - 1] = 125
    · exact ft5 p d bit w hd hl u T hT hTu hu4 hTl hTg kk hkl hkd hj nb hnb h1 h2 h3 h4 h5 h6
    · exact ft6 p d bit w hd hl u T hT hTu hu4 hTl hTg kk hkl hkd hj nb hnb h1 h2 h3 h4 h5 h6
  · exact ft7 p d bit w hd hl u T hT hTu hu4 hTl hTg kk hkl hkd hj nb hnb h1 h2 h3 h4 (by omega)
end Go.Proofs.Ythijchjdkicbdaa
