/- Contracts of package frame. -/
import Derived.Test.YteigigepmoicaaaGreatDoorStuffRef
import Derived.Test.YteigigepmoicaaaGreatDoorFcsRef
import Derived.Deep.RegionHeld3
import Derived.Deep.DeepCutAuto
import Derived.Deep.RegionWith
namespace Go.Proofs.YteigigepmoicaaaGreatDoor
open Go.RowKit Go.Crc
theorem below_cell {W w' : World} (h : Below W.heap.size W w') {a : Addr} {v : Value} (hc : W.cell? a = some v) : w'.cell? a = some v := (h.cell (block_lt_of_cell hc)).trans hc
def protoOk (p : Int) : Bool := decide (1 ≤ p) && decide (p ≤ 65535) && p % 2 == 1 && (p / 256) % 2 == 0
set_option maxHeartbeats 400000 in
theorem proto_any (p : Int) (w : World) : Calls Tryz.prog 77 #[.int .i64 p] w fun e w' => e = .returned (.bool (protoOk p)) ∧ w = w' := by
  have b1 : bits BinOp.and IntKind.i64 p 1 = p % 2 := i64_low p 1 (by omega)
  have b2 : bits BinOp.and IntKind.i64 (p / 256) 1 = (p / 256) % 2 := i64_low _ 1 (by omega)
  by_cases h1 : 1 ≤ p
  · by_cases h2 : p ≤ 65535
    · by_cases h3 : p % 2 = 1
      · have hr : Hid (protoOk p = ((p / 256) % 2 == 0)) := Lib.hid (by simp [protoOk, h1, h2, h3])
        have e3 : (p % 2 == 1) = true := beq_iff_eq.2 h3
        clear h3
        go_enter Tryz.func77, Tryz.ntmps77
        go_wp2
        go_ret
        exact ⟨by rw [hr.out]; rfl, rfl⟩
      · have hr : Hid (protoOk p = false) := Lib.hid (by simp [protoOk, h1, h2, h3])
        have e3 : (p % 2 == 1) = false := beq_eq_false_iff_ne.2 h3
        clear h3
        go_enter Tryz.func77, Tryz.ntmps77
        go_wp2
        go_ret
        exact ⟨by rw [hr.out]; rfl, rfl⟩
    · have hr : Hid (protoOk p = false) := Lib.hid (by simp [protoOk, h2])
      go_enter Tryz.func77, Tryz.ntmps77
      go_wp2
      go_ret
      exact ⟨by rw [hr.out]; rfl, rfl⟩
  · have hr : Hid (protoOk p = false) := Lib.hid (by simp [protoOk, h1])
    go_enter Tryz.func77, Tryz.ntmps77
    go_wp2
    go_ret
    exact ⟨by rw [hr.out]; rfl, rfl⟩
theorem conv4 (W : World) (k : Nat) (a b c d : Int) (ha : W.cell? ⟨k, 0, none⟩ = some (.int .u8 a)) (hb : W.cell? ⟨k, 1, none⟩ = some (.int .u8 b)) (hc : W.cell? ⟨k, 2, none⟩ = some (.int .u8 c)) (hd : W.cell? ⟨k, 3, none⟩ = some (.int .u8 d)) :
    (convert 27 9 (.slice (some ⟨k, 0, none⟩) 4 4)).run Tryz.prog W = .ok (.string (strOfNums [a, b, c, d])) W :=
  run_convert_bytes_arg W _ _ Tryz.underlying27 Tryz.underlying5 k 0 4 4 [a, b, c, d] rfl (fun i hi => by
    match i, hi with
    | 0, _ => simpa using ha
    | 1, _ => simpa using hb
    | 2, _ => simpa using hc
    | 3, _ => simpa using hd) _ Tryz.underlying9
theorem conv2 (W : World) (k : Nat) (a b : Int) (ha : W.cell? ⟨k, 0, none⟩ = some (.int .u8 a)) (hb : W.cell? ⟨k, 1, none⟩ = some (.int .u8 b)) :
    (convert 27 9 (.slice (some ⟨k, 0, none⟩) 2 2)).run Tryz.prog W = .ok (.string (strOfNums [a, b])) W :=
  run_convert_bytes_arg W _ _ Tryz.underlying27 Tryz.underlying5 k 0 2 2 [a, b] rfl (fun i hi => by
    match i, hi with
    | 0, _ => simpa using ha
    | 1, _ => simpa using hb) _ Tryz.underlying9
def byteAt (p : Int) : UInt8 := UInt8.ofNat (p % 256).toNat
def headB (p : Int) : List UInt8 := [255, 3, byteAt (p / 256), byteAt p]
def frameT (p : Int) (d : List UInt8) (m : Int) : List UInt8 × Int :=
  if protoOk p = false then ([], 303) else if 2048 < d.length then ([], 304) else ([126] ++ stuff m (put (headB p ++ d)) ++ [126], 0)
theorem head_bytes (p : Int) : strOfNums [255, 3, p / 256 % 256, p % 256] = bytesOf (headB p) := rfl
set_option maxHeartbeats 1000000 in
theorem fput_any (p : Int) (d : ByteArray) (m : Int) (w : World) (hd : d.size ≤ maxLen) :
    Calls Tryz.prog 61 #[.agg #[.int .i64 p, .string d], .int .i64 m] w fun e w' =>
      e = .returned (.tuple #[.string (bytesOf (frameT p d.data.toList m).1), .int .i64 (frameT p d.data.toList m).2]) ∧ Below w.heap.size w w' := by
  unfold maxLen at hd
  by_cases hp : protoOk p = true
  · by_cases hl : 2048 < d.size
    · have hr : Hid (frameT p d.data.toList m = ([], 304)) := by unfold frameT; rw [if_neg (by rw [hp]; decide), if_pos (by rw [len_toList]; exact hl)]; exact rfl
      go_enter Tryz.func61, Tryz.ntmps61
      go_wp2_with fail
      refine (proto_any _ _).mono ?_
      rintro e w1 ⟨rfl, rfl⟩
      rw [hp]
      go_wp2_with fail
      go_ret2
      exact ⟨by rw [hr.out]; rfl, allocB (Below.refl _ _) _⟩
    · have hr : Hid (frameT p d.data.toList m = ([126] ++ stuff m (put (headB p ++ d.data.toList)) ++ [126], 0)) := by unfold frameT; rw [if_neg (by rw [hp]; decide), if_neg (by rw [len_toList]; exact hl)]; exact rfl
      have Hp := Lib.hid hp
      clear hp
      have hcv := conv4
      go_enter Tryz.func61, Tryz.ntmps61
      go_wp2_with fail
      refine (proto_any _ _).mono ?_
      rintro e w1 ⟨rfl, rfl⟩
      rw [Hp.out]
      go_wp2_with fail
      clear hcv
      have n1 : ¬ 9223372036854775807 < 4 + d.size := by omega
      have HS : Hid ((strOfNums [255, 3, p / 256 % 256, p % 256] ++ d).size = 4 + d.size) := by rw [ByteArray.size_append, strOfNums_size]; exact rfl
      have hs4 : (strOfNums [255, 3, p / 256 % 256, p % 256]).size = 4 := strOfNums_size _
      have hf1 : (bytesOf [126]).size = 1 := rfl
      go_region_held3 (fun w' => w'.cell? ⟨w.heap.size, 1, none⟩ = some (.string d)) (first | exact below_cell hb4 (by assumption) | exact below_cell hb3 (by assumption) | exact below_cell hb2 (by assumption) | go_keep)
        (first
          | (go_at_call 78; refine (flag_any _).mono ?_; rintro e w2 ⟨rfl, hb2⟩)
          | (go_at_call 80; refine (put_any _ _ ?_).mono ?_; (unfold maxLen; rw [HS.out]; omega); rintro e w3 ⟨rfl, hb3⟩)
          | (go_at_call 79; refine (sput_any _ _ _ ?_).mono ?_; (rw [bytesOf_size, put_length, List.length_append, len_toList, len_toList, hs4]; omega); rintro e w4 ⟨rfl, hb4⟩; generalize HT : stuff m _ = T; have hT : T.length ≤ 4108 := (by rw [← HT]; refine Nat.le_trans (stuff_length _ _) ?_; rw [bytesOf_toList, put_length, List.length_append, len_toList, len_toList, hs4]; omega); have n2 : ¬ 9223372036854775807 < 1 + (bytesOf T).size := (by rw [bytesOf_size]; omega); have n3 : ¬ 9223372036854775807 < 1 + (bytesOf T).size + 1 := (by rw [bytesOf_size]; omega); have n5 : ¬ 9223372036854775807 ≤ 1 + (bytesOf T).size := (by rw [bytesOf_size]; omega); have HHT := Lib.hid HT; clear HT))
      go_wp2_with fail
      go_ret2
      refine ⟨?_, by repeat (first | exact Below.refl _ _ | apply allocB | apply drewB | refine seqB ?_ (by assumption))⟩
      rw [hr.out]
      show Ending.returned (Value.tuple #[Value.string (bytesOf [126] ++ bytesOf T ++ bytesOf [126]), Value.int .i64 0]) = _
      rw [bytesOf_append, bytesOf_append, ← HHT.out]
      rfl
  · have hp' : protoOk p = false := by simpa using hp
    have hr : Hid (frameT p d.data.toList m = ([], 303)) := by unfold frameT; rw [if_pos hp']; exact rfl
    clear hp
    go_enter Tryz.func61, Tryz.ntmps61
    go_wp2_with fail
    refine (proto_any _ _).mono ?_
    rintro e w1 ⟨rfl, rfl⟩
    rw [hp']
    go_wp2_with fail
    go_ret2
    exact ⟨by rw [hr.out]; rfl, allocB (Below.refl _ _) _⟩
end Go.Proofs.YteigigepmoicaaaGreatDoor
