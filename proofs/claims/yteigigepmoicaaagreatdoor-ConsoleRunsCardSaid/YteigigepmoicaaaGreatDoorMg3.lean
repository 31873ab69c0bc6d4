/- Contracts of the reference's Stuff, Unstuff. The mathematics of the FCS-16: linear, good texts, turned bits. No program in sight. Contracts of package fcs: table, Of, Put, Check. Contracts of the reference's sums: Fcs, Sum, Unsum; and Num. Contracts of package frame. -/
import Derived.Test.YteigigepmoicaaaGreatDoorMg2
import Derived.Test.YteigigepmoicaaaGreatDoorMg1
import Derived.Test.YteigigepmoicaaaGreatDoorRows
import Derived.Deep.RegionHeld3
import Derived.Deep.DeepCutAuto
import Derived.Deep.RegionWith
/-! Contracts of the reference's Stuff, Unstuff. -/
namespace Go.Proofs.YteigigepmoicaaaGreatDoor
open Go.RowKit
theorem u64_bit (m : Int) (c : Nat) (hc : c < 32) : bits BinOp.and IntKind.u64 (IntKind.u64.wrap m / 2 ^ c) 1 = (m / 2 ^ c) % 2 := by
  rw [IntKind.wrap_u64]
  have h0 : (0 : Int) ≤ m % 18446744073709551616 := Int.emod_nonneg _ (by decide)
  have hlt : m % 18446744073709551616 < 18446744073709551616 := Int.emod_lt_of_pos _ (by decide)
  obtain ⟨x, hx⟩ := Int.eq_ofNat_of_zero_le h0
  have hp : (0 : Int) < 2 ^ c := Int.pow_pos (by decide)
  have hq : (m % 18446744073709551616) / 2 ^ c = ((x / 2 ^ c : Nat) : Int) := by rw [hx]; simp
  have hxl : x / 2 ^ c < 18446744073709551616 := Nat.lt_of_le_of_lt (Nat.div_le_self _ _) (by omega)
  have key := u64_and_nat (x / 2 ^ c) 1 hxl (by decide)
  rw [nat_mask1] at key
  rw [hq]
  have key2 : bits BinOp.and IntKind.u64 ((x / 2 ^ c : Nat) : Int) 1 = ((x / 2 ^ c % 2 : Nat) : Int) := by simpa using key
  rw [key2]
  -- now the arithmetic: m = x + 2^64 q
  have hm : m = (x : Int) + (2 : Int) ^ c * ((2 : Int) ^ (64 - c) * (m / 18446744073709551616)) := by
    rw [← Int.mul_assoc, ← Int.pow_add, show c + (64 - c) = 64 from by omega, ← hx]
    have := Int.emod_add_mul_ediv m 18446744073709551616
    rw [show (2 : Int) ^ 64 = 18446744073709551616 from by decide]; omega
  have hev : (2 : Int) ^ (64 - c) * (m / 18446744073709551616) = 2 * ((2 : Int) ^ (63 - c) * (m / 18446744073709551616)) := by
    rw [← Int.mul_assoc]; congr 1
    rw [show 64 - c = 63 - c + 1 from by omega, Int.pow_succ, Int.mul_comm]
  rw [hm, Int.add_mul_ediv_left _ _ (by omega), hev, Int.add_mul_emod_self_left]
  simp
set_option maxHeartbeats 1000000 in
theorem rstuff_any (s : ByteArray) (m : Int) (w : World) (hs : 2 * s.size ≤ 140737488355328) :
    Calls Tryz.prog 54 #[.string s, .int .i64 m] w fun e w' => e = .returned (.string (bytesOf (stuff m s.data.toList))) ∧ Below w.heap.size w w' := by
  go_enter Tryz.func54, Tryz.ntmps54
  go_wp2_with fail
  go_loopw [5, 6] (fun v i wr => ∃ k : Nat, k ≤ s.size ∧ i = .int .i64 k ∧ Own wr w.heap.size v (stuff m (s.data.toList.take k)) ∧ Below w.heap.size w wr) (fun _ i _ => s.size - (intOf i).toNat)
  case atStart => exact ⟨0, Nat.zero_le _, rfl, Own.nil _ _, Below.refl _ _⟩
  case round =>
    obtain ⟨k, hk, rfl, hown, hbl⟩ := hrel
    have hlen : (stuff m (s.data.toList.take k)).length ≤ 2 * k := by
      have := stuff_length m (s.data.toList.take k)
      rw [List.length_take] at this
      omega
    by_cases hlt : k < s.size
    · have hst := stuff_take m s k hlt
      have Hst := Lib.hid hst
      clear hst
      have hc8 := s[k].toNat_lt
      by_cases h1 : s[k] = 125
      · have hmk : markedB s[k] m = true := by rw [h1]; rfl
        have Hsb : Hid (stuffB m s[k] = [125, s[k] ^^^ 32]) := by unfold stuffB; rw [if_pos hmk]; exact rfl
        have e1 : ((s[k].toNat : Int) == 125) = true := by rw [h1]; rfl
        clear hmk h1
        have hx := u8_xor32 s[k]
        obtain ⟨nb, hnb⟩ : ∃ nb : UInt8, nb = s[k] ^^^ 32 := ⟨_, rfl⟩
        rw [← hnb] at hx Hsb
        clear hnb
        go_wp2_with (at_builtin; refine wpList_app rfl _ _ rfl w _ _ [125, nb] 2 _ _ hown rfl rfl rfl rfl (by simp; omega) hbl ?_; intro v' w1 hown1 hbl1)
        go_roundw
        case rel => exact ⟨k + 1, by omega, by go_num, by rw [Hst.out, Hsb.out]; exact hown1, hbl1⟩
        case measure => simp [intOf]; omega
      have e1 : ((s[k].toNat : Int) == 125) = false := u8_beq h1
      by_cases h2 : s[k] = 126
      · have hmk : markedB s[k] m = true := by rw [h2]; rfl
        have Hsb : Hid (stuffB m s[k] = [125, s[k] ^^^ 32]) := by unfold stuffB; rw [if_pos hmk]; exact rfl
        have e2 : ((s[k].toNat : Int) == 126) = true := by rw [h2]; rfl
        clear hmk h1 h2
        have hx := u8_xor32 s[k]
        obtain ⟨nb, hnb⟩ : ∃ nb : UInt8, nb = s[k] ^^^ 32 := ⟨_, rfl⟩
        rw [← hnb] at hx Hsb
        clear hnb
        go_wp2_with (at_builtin; refine wpList_app rfl _ _ rfl w _ _ [125, nb] 2 _ _ hown rfl rfl rfl rfl (by simp; omega) hbl ?_; intro v' w1 hown1 hbl1)
        go_roundw
        case rel => exact ⟨k + 1, by omega, by go_num, by rw [Hst.out, Hsb.out]; exact hown1, hbl1⟩
        case measure => simp [intOf]; omega
      have e2 : ((s[k].toNat : Int) == 126) = false := u8_beq h2
      by_cases h3 : s[k].toNat < 32
      · have hr : markedB s[k] m = mbit m s[k].toNat := by simp [markedB, h1, h2, h3]
        have hb := u64_bit m s[k].toNat h3
        have hp2 : (m / 2 ^ s[k].toNat) % 2 = 0 ∨ (m / 2 ^ s[k].toNat) % 2 = 1 := by omega
        rcases hp2 with hp | hp
        · have hmk : markedB s[k] m = false := by rw [hr]; unfold mbit; rw [hp]; rfl
          have Hsb : Hid (stuffB m s[k] = [s[k]]) := by unfold stuffB; rw [if_neg (by rw [hmk]; decide)]; exact rfl
          rw [hp] at hb
          clear hmk hr h1 h2 hp
          go_wp2_with (at_builtin; refine wpList_app rfl _ _ rfl w _ _ [s[k]] 1 _ _ hown rfl rfl rfl rfl (by simp; omega) hbl ?_; intro v' w1 hown1 hbl1)
          go_roundw
          case rel => exact ⟨k + 1, by omega, by go_num, by rw [Hst.out, Hsb.out]; exact hown1, hbl1⟩
          case measure => simp [intOf]; omega
        · have hmk : markedB s[k] m = true := by rw [hr]; unfold mbit; rw [hp]; rfl
          have Hsb : Hid (stuffB m s[k] = [125, s[k] ^^^ 32]) := by unfold stuffB; rw [if_pos hmk]; exact rfl
          rw [hp] at hb
          clear hmk hr h1 h2 hp
          have hx := u8_xor32 s[k]
          obtain ⟨nb, hnb⟩ : ∃ nb : UInt8, nb = s[k] ^^^ 32 := ⟨_, rfl⟩
          rw [← hnb] at hx Hsb
          clear hnb
          go_wp2_with (at_builtin; refine wpList_app rfl _ _ rfl w _ _ [125, nb] 2 _ _ hown rfl rfl rfl rfl (by simp; omega) hbl ?_; intro v' w1 hown1 hbl1)
          go_roundw
          case rel => exact ⟨k + 1, by omega, by go_num, by rw [Hst.out, Hsb.out]; exact hown1, hbl1⟩
          case measure => simp [intOf]; omega
      · have hmk : markedB s[k] m = false := by simp [markedB, h1, h2, h3]
        have Hsb : Hid (stuffB m s[k] = [s[k]]) := by unfold stuffB; rw [if_neg (by rw [hmk]; decide)]; exact rfl
        clear hmk h1 h2
        go_wp2_with (at_builtin; refine wpList_app rfl _ _ rfl w _ _ [s[k]] 1 _ _ hown rfl rfl rfl rfl (by simp; omega) hbl ?_; intro v' w1 hown1 hbl1)
        go_roundw
        case rel => exact ⟨k + 1, by omega, by go_num, by rw [Hst.out, Hsb.out]; exact hown1, hbl1⟩
        case measure => simp [intOf]; omega
    · obtain rfl : k = s.size := by omega
      have e : s.data.toList.take s.size = s.data.toList := List.take_of_length_le (by simp)
      rw [e] at hown
      clear e
      obtain ⟨a, c, rfl⟩ := hown.form
      have hcv := hown.conv
      go_wp2_with fail
      go_ret
      exact ⟨rfl, hbl⟩
set_option maxHeartbeats 1000000 in
theorem runstuff_any (s : ByteArray) (w : World) (hs : s.size ≤ 140737488355328) :
    Calls Tryz.prog 57 #[.string s] w fun e w' => e = .returned (.tuple #[.string (bytesOf (unstuff s.data.toList).1), .int .i64 (unstuff s.data.toList).2]) ∧ Below w.heap.size w w' := by
  have hls : s.data.toList.length = s.size := len_toList s
  have Hls := Lib.hid hls
  clear hls
  have hr0 : 126 ∈ s.data.toList → unstuff s.data.toList = ([], 201) := by intro h; unfold unstuff; rw [if_pos h]
  have Hr0 := Lib.hid hr0
  clear hr0
  have hr : 126 ∉ s.data.toList → ∀ r, un s.data.toList = r → unstuff s.data.toList = match r with | none => ([], 200) | some r => (r, 0) := by
    intro hm r h; unfold unstuff; rw [if_neg hm, h] <;> (cases r <;> rfl)
  have Hr := Lib.hid hr
  clear hr
  go_enter Tryz.func57, Tryz.ntmps57
  go_wp2_with fail
  go_loop [5] (fun i => ∃ k : Nat, k ≤ s.size ∧ i = .int .i64 k ∧ Hid (126 ∉ s.data.toList.take k)) (fun i => s.size - (intOf i).toNat)
  case atStart => exact ⟨0, Nat.zero_le _, rfl, by intro h; simp at h⟩
  case round =>
    obtain ⟨k, hk, rfl, hno⟩ := hrel
    by_cases hlt : k < s.size
    · have htk : s.data.toList.take (k + 1) = s.data.toList.take k ++ [s[k]] := by
        rw [List.take_succ_eq_append_getElem (by simpa using hlt)]; rfl
      by_cases hc : s[k] = 126
      · have e1 : ((s[k].toNat : Int) == 126) = true := by rw [hc]; rfl
        have hm : Hid (unstuff s.data.toList = ([], 201)) := Hr0.out (by
          have : s[k] ∈ s.data.toList := by
            have h2 : s[k] ∈ s.data.toList.take (k + 1) := by rw [htk]; simp
            exact List.mem_of_mem_take h2
          rw [hc] at this; exact this)
        clear hc htk
        go_wp2_with fail
        go_ret2
        exact ⟨by rw [hm.out]; rfl, Below.refl _ _⟩
      · have e1 : ((s[k].toNat : Int) == 126) = false := u8_beq hc
        have hno2 : Hid (126 ∉ s.data.toList.take (k + 1)) := by
          intro h; rw [htk, List.mem_append] at h
          rcases h with h | h
          · exact hno.out h
          · exact hc (List.mem_singleton.1 h).symm
        clear hc htk
        go_wp2_with fail
        go_round
        case rel => exact ⟨k + 1, by omega, by go_num, hno2⟩
        case measure => simp [intOf]; omega
    · obtain rfl : k = s.size := by omega
      have hno' : 126 ∉ s.data.toList := by have := hno.out; rwa [List.take_of_length_le (by simp)] at this
      have Hr1 := Lib.hid (Hr.out hno')
      clear hno hno'
      go_wp2_with fail
      go_loopw [4, 6] (fun v i wr => ∃ (k : Nat) (acc : List UInt8), k ≤ s.size ∧ i = .int .i64 k ∧ acc.length ≤ k ∧ Hid (un s.data.toList = after acc (un (s.data.toList.drop k))) ∧ Own wr w.heap.size v acc ∧ Below w.heap.size w wr) (fun _ i _ => s.size - (intOf i).toNat)
      case atStart => exact ⟨0, [], Nat.zero_le _, rfl, Nat.le_refl _, by rw [after_nil]; rfl, Own.nil _ _, Below.refl _ _⟩
      case round =>
        obtain ⟨k, acc, hk, rfl, hal, hu, hown, hbl⟩ := hrel
        by_cases hlt : k < s.size
        · by_cases hc : s[k] = 125
          · have e1 : ((s[k].toNat : Int) != 125) = false := by rw [hc]; rfl
            by_cases hend : k + 1 = s.size
            · have e2 : ((k : Int) + 1 == (s.size : Int)) = true := beq_iff_eq.2 (by omega)
              have hn : un s.data.toList = none := un_stop (by rw [Hls.out]; exact hend) hc hu.out
              have Hn := Lib.hid hn
              clear hn hc
              go_wp2_with fail
              go_ret2
              exact ⟨by rw [Hr1.out _ Hn.out]; rfl, hbl⟩
            · have e2 : ((k : Int) + 1 == (s.size : Int)) = false := beq_eq_false_iff_ne.2 (by omega)
              have hlt2 : k + 1 < s.size := by omega
              have hn := un_step2 (by rw [Hls.out]; exact hlt2) hc hu.out
              have Hn := Lib.hid hn
              have hx := u8_xor32 s[k + 1]
              obtain ⟨nb, hnb⟩ : ∃ nb : UInt8, nb = s[k + 1] ^^^ 32 := ⟨_, rfl⟩
              rw [← hnb] at hx
              have Hnb := Lib.hid hnb
              clear hn hc hnb
              go_wp2_with (at_builtin; refine wpList_app rfl _ _ rfl w _ _ [nb] 1 _ _ hown rfl rfl rfl rfl (by simp; omega) hbl ?_; intro v' w1 hown1 hbl1)
              go_roundw
              case rel => exact ⟨k + 2, _, by omega, by go_num, by rw [List.length_append]; simp; omega, by rw [Hnb.out]; exact Hn.out, hown1, hbl1⟩
              case measure => simp [intOf]; omega
          · have e1 : ((s[k].toNat : Int) != 125) = true := u8_bne hc
            have hn := un_step1 (by rw [Hls.out]; exact hlt) hc hu.out
            have Hn := Lib.hid hn
            clear hn hc
            go_wp2_with (at_builtin; refine wpList_app rfl _ _ rfl w _ _ [s[k]] 1 _ _ hown rfl rfl rfl rfl (by simp; omega) hbl ?_; intro v' w1 hown1 hbl1)
            go_roundw
            case rel => exact ⟨k + 1, _, by omega, by go_num, by rw [List.length_append]; simp; omega, Hn.out, hown1, hbl1⟩
            case measure => simp [intOf]; omega
        · obtain rfl : k = s.size := by omega
          have hn : un s.data.toList = some acc := un_done (by rw [Hls.out]; exact hu.out)
          have Hn := Lib.hid hn
          clear hn
          obtain ⟨a, c, rfl⟩ := hown.form
          have hcv := hown.conv
          go_wp2_with fail
          go_ret2
          exact ⟨by rw [Hr1.out _ Hn.out]; rfl, hbl⟩
end Go.Proofs.YteigigepmoicaaaGreatDoor
/-! The mathematics of the FCS-16: linear, good texts, turned bits. No program in sight. -/
namespace Go.Crc

theorem xor_mod2 (x y : Nat) : (x ^^^ y) % 2 = (x + y) % 2 := by
  have h : (x ^^^ y) % 2 = (x % 2) ^^^ (y % 2) := by simpa using Nat.xor_mod_two_pow (n := 1) (a := x) (b := y)
  rw [h]
  rcases Nat.mod_two_eq_zero_or_one x with a | a <;> rcases Nat.mod_two_eq_zero_or_one y with b | b <;> simp [a, b] <;> omega
def fstep (x : Nat) : Nat := if x % 2 = 1 then (x / 2) ^^^ 33800 else x / 2
def fit : Nat → Nat → Nat
  | 0, x => x
  | n + 1, x => fit n (fstep x)
def f8 (x : Nat) : Nat := fit 8 x
def crcB (x b : Nat) : Nat := f8 (x ^^^ b)
def crc (x : Nat) : List Nat → Nat
  | [] => x
  | b :: l => crc (crcB x b) l

theorem fstep_lt {x : Nat} (h : x < 65536) : fstep x < 65536 := by
  unfold fstep; split
  · exact Nat.xor_lt_two_pow (n := 16) (by omega) (by omega)
  · omega
theorem fstep_xor (x y : Nat) : fstep (x ^^^ y) = fstep x ^^^ fstep y := by
  unfold fstep
  have h2 : (x ^^^ y) / 2 = x / 2 ^^^ y / 2 := by
    simpa using Nat.xor_div_two_pow (n := 1) (a := x) (b := y)
  have hm : (x ^^^ y) % 2 = (x + y) % 2 := xor_mod2 x y
  rw [h2, hm]
  by_cases hx : x % 2 = 1 <;> by_cases hy : y % 2 = 1
  · rw [if_neg (by omega), if_pos hx, if_pos hy]
    rw [Nat.xor_assoc, Nat.xor_comm 33800, Nat.xor_assoc, Nat.xor_self, Nat.xor_zero]
  · rw [if_pos (by omega), if_pos hx, if_neg hy, Nat.xor_assoc, Nat.xor_comm (y / 2), ← Nat.xor_assoc]
  · rw [if_pos (by omega), if_neg hx, if_pos hy, Nat.xor_assoc]
  · rw [if_neg (by omega), if_neg hx, if_neg hy]
theorem fit_xor (n : Nat) : ∀ x y, fit n (x ^^^ y) = fit n x ^^^ fit n y := by
  induction n with
  | zero => intro x y; rfl
  | succ n ih => intro x y; simp only [fit, fstep_xor, ih]
theorem fit_lt (n : Nat) : ∀ {x : Nat}, x < 65536 → fit n x < 65536 := by
  induction n with
  | zero => intro x h; exact h
  | succ n ih => intro x h; exact ih (fstep_lt h)
theorem fit_add (a b : Nat) : ∀ x, fit (a + b) x = fit b (fit a x) := by
  induction a with
  | zero => intro x; rw [Nat.zero_add]; rfl
  | succ a ih => intro x; rw [Nat.succ_add]; exact ih (fstep x)
theorem fit_succ' (n x : Nat) : fit (n + 1) x = fstep (fit n x) := by rw [fit_add n 1]; rfl
theorem fit_zero (n : Nat) : fit n 0 = 0 := by
  induction n with
  | zero => rfl
  | succ n ih => exact ih
theorem fstep_ne {x : Nat} (h : x < 65536) (h0 : x ≠ 0) : fstep x ≠ 0 := by
  unfold fstep; split
  · intro e
    have h1 : x / 2 = 33800 := by
      have := congrArg (· ^^^ 33800) e
      simpa [Nat.xor_assoc] using this
    omega
  · omega
theorem fit_ne (n : Nat) : ∀ {x : Nat}, x < 65536 → x ≠ 0 → fit n x ≠ 0 := by
  induction n with
  | zero => intro x _ h0; exact h0
  | succ n ih => intro x h h0; exact ih (fstep_lt h) (fstep_ne h h0)
theorem xor_eq_zero {x y : Nat} : x ^^^ y = 0 ↔ x = y := by
  constructor
  · intro h
    have := congrArg (· ^^^ y) h
    simpa [Nat.xor_assoc] using this
  · rintro rfl; exact Nat.xor_self _
theorem fit_inj (n : Nat) {x y : Nat} (hx : x < 65536) (hy : y < 65536) (h : fit n x = fit n y) : x = y := by
  have h1 : fit n (x ^^^ y) = 0 := by rw [fit_xor, h, Nat.xor_self]
  by_cases h0 : x ^^^ y = 0
  · exact xor_eq_zero.1 h0
  · exact absurd h1 (fit_ne n (Nat.xor_lt_two_pow (n := 16) hx hy) h0)
/-- parity of the number of bits -/
def par : Nat → Nat → Nat
  | 0, _ => 0
  | n + 1, x => (x + par n (x / 2)) % 2
theorem par_xor (n : Nat) : ∀ x y, par n (x ^^^ y) = (par n x + par n y) % 2 := by
  induction n with
  | zero => intro x y; rfl
  | succ n ih =>
    intro x y
    have h2 : (x ^^^ y) / 2 = x / 2 ^^^ y / 2 := by simpa using Nat.xor_div_two_pow (n := 1) (a := x) (b := y)
    have hm : (x ^^^ y) % 2 = (x + y) % 2 := xor_mod2 x y
    simp only [par, h2, ih]
    omega
theorem par_zero (n : Nat) : par n 0 = 0 := by
  induction n with
  | zero => rfl
  | succ n ih => simp [par, ih]
theorem par_small (n : Nat) : ∀ m x, x < 2 ^ n → par (n + m) x = par n x := by
  induction n with
  | zero => intro m x h; have : x = 0 := by simpa using h
            subst this; rw [par_zero, par_zero]
  | succ n ih => intro m x h; rw [Nat.succ_add]; simp only [par]; rw [ih m (x / 2) (by rw [Nat.pow_succ] at h; omega)]
theorem par_fstep {x : Nat} (h : x < 65536) : par 16 (fstep x) = par 16 x := by
  have e : par 16 x = (x + par 15 (x / 2)) % 2 := rfl
  have e2 : par 16 (x / 2) = par 15 (x / 2) := par_small 15 1 _ (by omega)
  unfold fstep; split
  · rw [par_xor, e, e2]
    have : par 16 33800 = 1 := by decide
    omega
  · rw [e, e2]
    have : par 15 (x / 2) < 2 := by unfold par; omega
    omega
theorem par_fit (n : Nat) : ∀ {x : Nat}, x < 65536 → par 16 (fit n x) = par 16 x := by
  induction n with
  | zero => intro x _; rfl
  | succ n ih => intro x h; rw [show fit (n + 1) x = fit n (fstep x) from rfl, ih (fstep_lt h), par_fstep h]
/-- no return to 1 within n steps -/
def noret : Nat → Nat → Bool
  | 0, _ => true
  | n + 1, x => (fstep x != 1) && noret n (fstep x)
theorem noret_spec (n : Nat) : ∀ x, noret n x = true → ∀ k, k < n → fit (k + 1) x ≠ 1 := by
  induction n with
  | zero => intro x _ k hk; omega
  | succ n ih =>
    intro x h k hk
    simp only [noret, Bool.and_eq_true, bne_iff_ne, ne_eq] at h
    cases k with
    | zero => exact h.1
    | succ k => exact ih _ h.2 k (by omega)

set_option maxRecDepth 100000 in
theorem ord : noret 12100 1 = true := by decide +kernel

/-! ### bytes -/
theorem crcB_lt {x b : Nat} (hx : x < 65536) (hb : b < 256) : crcB x b < 65536 :=
  fit_lt 8 (Nat.xor_lt_two_pow (n := 16) hx (by omega))
theorem fit8_high (h : Nat) : fit 8 (h * 256) = h := by
  have e : ∀ y : Nat, fstep (2 * y) = y := by intro y; unfold fstep; rw [if_neg (by omega)]; omega
  simp only [fit]
  rw [show h * 256 = 2 * (2 * (2 * (2 * (2 * (2 * (2 * (2 * h))))))) from by omega, e, e, e, e, e, e, e, e]
theorem split16 (x : Nat) : x = (x % 256) ^^^ (x / 256 * 256) := by
  apply Nat.eq_of_testBit_eq
  intro i
  rw [Nat.testBit_xor, show (256 : Nat) = 2 ^ 8 from rfl, Nat.testBit_mod_two_pow, Nat.testBit_mul_two_pow, Nat.testBit_div_two_pow]
  by_cases h : i < 8
  · simp [h, show ¬ 8 ≤ i from by omega]
  · simp [h, show 8 ≤ i from by omega]
theorem crcB_tab (x b : Nat) : crcB x b = (x / 256) ^^^ fit 8 ((x % 256) ^^^ b) := by
  unfold crcB f8
  have e : x ^^^ b = ((x % 256) ^^^ b) ^^^ (x / 256 * 256) := by
    rw [Nat.xor_assoc, Nat.xor_comm b, ← Nat.xor_assoc, ← split16]
  rw [e, fit_xor, fit8_high _, Nat.xor_comm]
def bn (l : List UInt8) : List Nat := l.map (·.toNat)
theorem crc_append (l m : List Nat) : ∀ x, crc x (l ++ m) = crc (crc x l) m := by
  induction l with
  | nil => intro x; rfl
  | cons b l ih => intro x; exact ih _
theorem crc_lt (l : List Nat) : ∀ {x}, x < 65536 → (∀ b ∈ l, b < 256) → crc x l < 65536 := by
  induction l with
  | nil => intro x h _; exact h
  | cons b l ih => intro x h hb; exact ih (crcB_lt h (hb b (by simp))) fun c hc => hb c (by simp [hc])
theorem bn_lt (l : List UInt8) : ∀ b ∈ bn l, b < 256 := by
  intro b hb
  obtain ⟨c, _, rfl⟩ := List.mem_map.1 hb
  exact c.toNat_lt
/-- the sum of a text -/
def raw (l : List UInt8) : Nat := crc 65535 (bn l)
def fcs (l : List UInt8) : Nat := raw l ^^^ 65535
theorem raw_lt (l : List UInt8) : raw l < 65536 := crc_lt _ (by omega) (bn_lt l)
theorem fcs_lt (l : List UInt8) : fcs l < 65536 := Nat.xor_lt_two_pow (n := 16) (raw_lt l) (by omega)
theorem fcs_nil : fcs [] = 0 := by decide
def put (l : List UInt8) : List UInt8 := l ++ [UInt8.ofNat (fcs l % 256), UInt8.ofNat (fcs l / 256)]
theorem put_length (l : List UInt8) : (put l).length = l.length + 2 := by simp [put]
theorem raw_append (l m : List UInt8) : raw (l ++ m) = crc (raw l) (bn m) := by
  unfold raw bn; rw [List.map_append, crc_append]
theorem raw_snoc (l : List UInt8) (b : UInt8) : raw (l ++ [b]) = crcB (raw l) b.toNat := raw_append l [b]
/-- two bytes behind a state: sixteen steps -/
theorem crc_two (c x y : Nat) : crc c [x, y] = fit 16 (c ^^^ (x ^^^ y * 256)) := by
  have e : crc c [x, y] = fit 8 (fit 8 (c ^^^ x) ^^^ y) := rfl
  rw [e, show (16 : Nat) = 8 + 8 from rfl, fit_add 8 8, ← Nat.xor_assoc, fit_xor 8 _ (y * 256), fit8_high y]
theorem lohi {f : Nat} : (f % 256) ^^^ (f / 256) * 256 = f := (split16 f).symm
theorem raw_put (l : List UInt8) : raw (put l) = fit 16 65535 := by
  have h := fcs_lt l
  have e : bn [UInt8.ofNat (fcs l % 256), UInt8.ofNat (fcs l / 256)] = [fcs l % 256, fcs l / 256] := by
    simp [bn, UInt8.toNat_ofNat']; omega
  unfold put
  rw [raw_append, e, crc_two, lohi]
  unfold fcs
  rw [← Nat.xor_assoc, Nat.xor_self, Nat.zero_xor]
/-- a text of two bytes and more bears its sum just where the state behind it is the good one -/
theorem put_iff (l : List UInt8) (a b : UInt8) : put l = l ++ [a, b] ↔ raw (l ++ [a, b]) = fit 16 65535 := by
  constructor
  · intro h; rw [← h]; exact raw_put l
  · intro h
    have ha := a.toNat_lt
    have hb := b.toNat_lt
    have e : raw (l ++ [a, b]) = fit 16 (raw l ^^^ (a.toNat ^^^ b.toNat * 256)) := by
      rw [raw_append]; exact crc_two _ _ _
    rw [e] at h
    have hm : a.toNat ^^^ b.toNat * 256 < 65536 := Nat.xor_lt_two_pow (n := 16) (by omega) (by omega)
    have h2 := fit_inj 16 (Nat.xor_lt_two_pow (n := 16) (raw_lt l) hm) (by omega) h
    have h3 : a.toNat ^^^ b.toNat * 256 = fcs l := by
      unfold fcs
      have := congrArg (raw l ^^^ ·) h2
      simpa [← Nat.xor_assoc] using this
    have h4 : fcs l = a.toNat + b.toNat * 256 := by
      have : a.toNat ^^^ b.toNat * 256 = a.toNat + b.toNat * 256 := by
        have := split16 (a.toNat + b.toNat * 256)
        rw [show (a.toNat + b.toNat * 256) % 256 = a.toNat from by omega, show (a.toNat + b.toNat * 256) / 256 = b.toNat from by omega] at this
        exact this.symm
      omega
    unfold put
    have e1 : UInt8.ofNat (fcs l % 256) = a := by
      apply UInt8.toNat_inj.1; rw [UInt8.toNat_ofNat', h4]; omega
    have e2 : UInt8.ofNat (fcs l / 256) = b := by
      apply UInt8.toNat_inj.1; rw [UInt8.toNat_ofNat', h4]; omega
    rw [e1, e2]
theorem list_two (t : List UInt8) (h : 2 ≤ t.length) : ∃ l a b, t = l ++ [a, b] ∧ l = t.take (t.length - 2) := by
  refine ⟨t.take (t.length - 2), t[t.length - 2], t[t.length - 1], ?_, rfl⟩
  have : t.drop (t.length - 2) = [t[t.length - 2], t[t.length - 1]] := by
    rw [List.drop_eq_getElem_cons (by omega), List.drop_eq_getElem_cons (by omega), List.drop_eq_nil_of_le (by omega)]
    simp [show t.length - 2 + 1 = t.length - 1 from by omega]
  rw [← this, List.take_append_drop]
theorem good_iff (t : List UInt8) (h : 2 ≤ t.length) : put (t.take (t.length - 2)) = t ↔ raw t = fit 16 65535 := by
  obtain ⟨l, a, b, e, e'⟩ := list_two t h
  have hl : t.length - 2 = l.length := by rw [e]; simp
  rw [hl]
  have e2 : t.take l.length = l := by rw [e]; simp
  rw [e2]
  subst e
  exact put_iff l a b
/-! ### turned bits -/
def turn (l : List UInt8) (k : Nat) : List UInt8 := l.set (k / 8) ((l.getD (k / 8) 0) ^^^ (1 <<< UInt8.ofNat (k % 8)))
theorem turn_length (l : List UInt8) (k : Nat) : (turn l k).length = l.length := by simp [turn]
theorem turn_turn (l : List UInt8) (k : Nat) : turn (turn l k) k = l := by
  unfold turn
  by_cases h : k / 8 < l.length
  · simp [h, UInt8.xor_assoc]
  · rw [List.set_eq_of_length_le (by simpa using h), List.set_eq_of_length_le (by omega)]
theorem fit8_pow (i : Nat) (h : i < 8) : fit 8 (2 ^ i) = fit (8 - i) 1 := by
  have : ∀ j, j < 8 → fit 8 (2 ^ j) = fit (8 - j) 1 := by decide
  exact this i h
theorem crc_xor (l : List Nat) : ∀ x y, crc (x ^^^ y) l = crc x l ^^^ fit (8 * l.length) y := by
  induction l with
  | nil => intro x y; rfl
  | cons b l ih =>
    intro x y
    show crc (crcB (x ^^^ y) b) l = _
    have e : crcB (x ^^^ y) b = crcB x b ^^^ fit 8 y := by
      unfold crcB f8
      rw [Nat.xor_assoc, Nat.xor_comm y, ← Nat.xor_assoc, fit_xor]
    rw [e, ih, List.length_cons, show 8 * (l.length + 1) = 8 + 8 * l.length from by omega, fit_add]
    rfl
theorem one_shl (i : Nat) (h : i < 8) : ((1 : UInt8) <<< UInt8.ofNat i).toNat = 2 ^ i := by
  have : ∀ j, j < 8 → ((1 : UInt8) <<< UInt8.ofNat j).toNat = 2 ^ j := by decide
  exact this i h
theorem crc_turn (i : Nat) (hi : i < 8) (l : List UInt8) : ∀ (j x : Nat), j < l.length →
    crc x (bn (l.set j (l.getD j 0 ^^^ (1 <<< UInt8.ofNat i)))) = crc x (bn l) ^^^ fit (8 * l.length - (8 * j + i)) 1 := by
  induction l with
  | nil => intro j x h; simp at h
  | cons b l ih =>
    intro j x h
    cases j with
    | zero =>
      show crc (crcB x (b ^^^ (1 <<< UInt8.ofNat i)).toNat) (bn l) = crc (crcB x b.toNat) (bn l) ^^^ _
      have e : crcB x (b ^^^ (1 <<< UInt8.ofNat i)).toNat = crcB x b.toNat ^^^ fit (8 - i) 1 := by
        unfold crcB f8
        rw [UInt8.toNat_xor, one_shl i hi, ← Nat.xor_assoc, fit_xor, fit8_pow i hi]
      rw [e, crc_xor, ← fit_add]
      congr 2
      simp only [bn, List.length_map, List.length_cons]; omega
    | succ j =>
      show crc (crcB x b.toNat) (bn (l.set j (l.getD j 0 ^^^ (1 <<< UInt8.ofNat i)))) = crc (crcB x b.toNat) (bn l) ^^^ _
      rw [ih j _ (by simpa using h)]
      congr 2
      simp only [List.length_cons]; omega
theorem raw_turn (l : List UInt8) (k : Nat) (h : k < 8 * l.length) : raw (turn l k) = raw l ^^^ fit (8 * l.length - k) 1 := by
  unfold raw turn
  rw [crc_turn (k % 8) (by omega) l (k / 8) _ (by omega)]
  congr 2
  omega
theorem fit1_ne_of_lt {a b : Nat} (hab : a < b) (hb : b ≤ 12016) : fit a 1 ≠ fit b 1 := by
  intro h
  rw [show b = (b - a) + a from by omega, fit_add] at h
  have h2 : 1 = fit (b - a) 1 := fit_inj a (by omega) (fit_lt _ (by omega)) h
  have h3 := noret_spec 12100 1 ord (b - a - 1) (by omega)
  rw [show b - a - 1 + 1 = b - a from by omega] at h3
  exact h3 h2.symm
theorem fit1_inj {a b : Nat} (ha : a ≤ 12016) (hb : b ≤ 12016) (h : fit a 1 = fit b 1) : a = b := by
  rcases Nat.lt_trichotomy a b with c | c | c
  · exact absurd h (fit1_ne_of_lt c hb)
  · exact c
  · exact absurd h.symm (fit1_ne_of_lt c ha)
theorem xor_ne {x y : Nat} (h : y ≠ 0) : x ^^^ y ≠ x := by
  intro e
  have := congrArg (x ^^^ ·) e
  simp [← Nat.xor_assoc] at this
  exact h this
/-- one, two or three bits turned are seen, or nothing was turned -/
theorem turn1 (l : List UInt8) (a : Nat) (ha : a < 8 * l.length) : raw (turn l a) ≠ raw l := by
  rw [raw_turn l a ha]
  exact xor_ne (fit_ne _ (by omega) (by omega))
theorem turn2 (l : List UInt8) (a b : Nat) (hl : l.length ≤ 1502) (ha : a < 8 * l.length) (hb : b < 8 * l.length) :
    raw (turn (turn l a) b) ≠ raw l ∨ turn (turn l a) b = l := by
  by_cases h : a = b
  · subst h; exact .inr (turn_turn l a)
  · left
    rw [raw_turn _ b (by rw [turn_length]; exact hb), raw_turn l a ha, turn_length, Nat.xor_assoc]
    refine xor_ne fun e => h ?_
    have := fit1_inj (by omega) (by omega) (xor_eq_zero.1 e)
    omega
theorem par_one (n : Nat) : par 16 (fit n 1) = 1 := by rw [par_fit n (by omega)]; decide
theorem turn3 (l : List UInt8) (a b c : Nat) (ha : a < 8 * l.length) (hb : b < 8 * l.length) (hc : c < 8 * l.length) :
    raw (turn (turn (turn l a) b) c) ≠ raw l := by
  rw [raw_turn _ c (by rw [turn_length, turn_length]; exact hc), raw_turn _ b (by rw [turn_length]; exact hb), raw_turn l a ha]
  rw [Nat.xor_assoc, Nat.xor_assoc]
  refine xor_ne fun e => ?_
  have := congrArg (par 16) e
  rw [par_xor, par_xor, par_one, par_one, par_one] at this
  revert this; decide
end Go.Crc
/-! Contracts of package fcs: table, Of, Put, Check. -/
namespace Go.Proofs.YteigigepmoicaaaGreatDoor
open Go.RowKit Go.Crc

/-! ### table -/
def zrow : Array Value := Array.replicate 256 (.int .u16 0)
def tabK (k : Nat) : Array Value := ((List.range 256).map fun i => if i < k then Value.int .u16 (fit 8 i) else .int .u16 0).toArray
def tab : Array Value := tabK 256
theorem zero_tab (w : World) : (zeroValue 111).run Tryz.prog w = .ok (.agg zrow) w := by kernel_rfl
theorem tabK_zero : tabK 0 = zrow := by
  simp only [tabK, zrow, Nat.not_lt_zero, if_false]
  apply Array.ext
  · simp
  · intro i h1 h2; simp
theorem tabK_size (k : Nat) : (tabK k).size = 256 := by simp [tabK]
theorem tabK_get (k i : Nat) (h : i < 256) : (tabK k)[i]? = some (if i < k then Value.int .u16 (fit 8 i) else .int .u16 0) := by
  simp [tabK, h]
theorem tabK_set (k : Nat) (h : k < 256) : (tabK k).setIfInBounds k (.int .u16 (fit 8 k)) = tabK (k + 1) := by
  apply Array.ext_getElem?
  intro i
  rw [Array.getElem?_setIfInBounds]
  by_cases hi : i < 256
  · rw [tabK_get _ _ hi, tabK_size]
    by_cases e : k = i
    · subst e; simp [h]
      rw [tabK_get _ _ h]; simp
    · rw [if_neg e, tabK_get _ _ hi]
      by_cases h2 : i < k
      · simp [h2, show i < k + 1 from by omega]
      · simp [h2, show ¬ i < k + 1 from by omega]
  · have h1 : (tabK (k + 1))[i]? = none := by rw [Array.getElem?_eq_none_iff, tabK_size]; omega
    rw [h1, if_neg (by omega), Array.getElem?_eq_none_iff, tabK_size]; omega
theorem all_map (l : List Nat) (f : Nat → Value) (h : ∀ x, (f x).oneCell' = true) : (l.map f).toArray.all (·.oneCell') = true := by
  simp [h]
theorem tab_one : tab.all (·.oneCell') = true := all_map _ _ fun x => by split <;> rfl
theorem and1_u16 (x : Nat) (h : x < 65536) : bits BinOp.and IntKind.u16 (x : Int) 1 = ((x % 2 : Nat) : Int) := by
  have := u16_and_nat x 1 h (by omega)
  rw [nat_mask1] at this
  simpa using this
set_option maxHeartbeats 400000 in
set_option maxRecDepth 100000 in
theorem table_any (w : World) :
    Calls Tryz.prog 76 #[] w fun e w' => e = .returned (.agg tab) ∧ Below w.heap.size w w' := by
  have hz := zero_tab
  have htz := tabK_zero
  go_enter Tryz.func76, Tryz.ntmps76
  go_wp2
  go_loopw [4] (fun c wr => ∃ k : Nat, k ≤ 256 ∧ c = .int .i64 k ∧ wr = (w.alloc (.cells zrow 111)).alloc (.cells (tabK k) 111)) (fun c _ => 256 - (intOf c).toNat)
  case atStart => exact ⟨0, by omega, rfl, by rw [tabK_zero]⟩
  case round =>
    clear hz htz
    obtain ⟨k, hk, rfl, rfl⟩ := hrel
    by_cases hlt : k < 256
    · have hcell : (tabK k)[k]? = some (.int .u16 0) := by rw [tabK_get _ _ hlt]; simp
      have hset := Lib.hid (tabK_set k hlt)
      go_wp2
      go_loopw [3, 9] (fun x c wr => ∃ j : Nat, j ≤ 8 ∧ c = .int .i64 j ∧ x = .int .u16 (fit j k) ∧ wr = (w.alloc (.cells zrow 111)).alloc (.cells (tabK k) 111)) (fun _ c _ => 8 - (intOf c).toNat)
      case atStart => exact ⟨0, by omega, rfl, rfl, rfl⟩
      case round =>
        obtain ⟨j, hj, rfl, rfl, rfl⟩ := hrel
        by_cases hj8 : j < 8
        · have h1 : fit j k < 65536 := fit_lt j (by omega)
          clear hcell
          rcases Nat.mod_two_eq_zero_or_one (fit j k) with hp | hp
          · have ha : bits BinOp.and IntKind.u16 (fit j k : Int) 1 = 0 := by rw [and1_u16 _ h1, hp]; rfl
            have hs : Hid (fit j k / 2 = fit (j + 1) k) := by rw [fit_succ']; unfold fstep; rw [if_neg (by omega)]; exact rfl
            clear hp
            go_wp2
            go_roundw
            case rel => exact ⟨j + 1, by omega, by go_num, by rw [← hs.out]; go_num, trivial⟩
            case measure => simp [intOf]; omega
          · have ha : bits BinOp.and IntKind.u16 (fit j k : Int) 1 = 1 := by rw [and1_u16 _ h1, hp]; rfl
            have hx : bits BinOp.xor IntKind.u16 ((fit j k : Int) / 2) 33800 = ((fit j k / 2 ^^^ 33800 : Nat) : Int) := by
              have := u16_xor_nat (fit j k / 2) 33800 (by omega) (by omega)
              simpa using this
            have hs : Hid (fit j k / 2 ^^^ 33800 = fit (j + 1) k) := by rw [fit_succ']; unfold fstep; rw [if_pos hp]; exact rfl
            clear hp
            go_wp2
            go_roundw
            case rel => exact ⟨j + 1, by omega, by go_num, by rw [hs.out], trivial⟩
            case measure => simp [intOf]; omega
        · obtain rfl : j = 8 := by omega
          go_wp2
          go_roundw
          case rel => exact ⟨k + 1, by omega, by go_num, by rw [hset.out]⟩
          case measure => simp [intOf]; omega
    · obtain rfl : k = 256 := by omega
      have hsz : zrow.size = (tabK 256).size := by rw [tabK_size]; exact Array.size_replicate
      have H1 := Lib.hid hsz
      clear hsz
      go_wp2_with (first
        | (refine wpList_load_row rfl 111 _ rfl (w.heap.size + 1) rfl 111 (tabK 256) (0, 0) _ (heap_alloc2_new w _ _) Tryz.underlying111 rfl (by kernel_rfl) ?_)
        | (refine wpList_store_row rfl 111 _ _ rfl w.heap.size (tabK 256) rfl rfl 111 zrow (heap_alloc2_old w _ _) (by kernel_rfl) H1.out tab_one ?_))
      refine bodyPost_ret (results_cell_row rfl _ _ w.heap.size 111 tab (0, 0) _ rfl (setRow_heap _ _ _ _ _ _ (heap_alloc2_old w _ _)) Tryz.underlying111 rfl (by kernel_rfl)) rfl ⟨rfl, ?_⟩
      exact below_setRow (((Below.refl _ _).alloc (Nat.le_refl _) _).alloc (by simp) _) _ _ (Nat.le_refl _)

/-! ### Of -/
theorem tab_get (i : Nat) (h : i < 256) : tab[i]? = some (Value.int .u16 (fit 8 i)) := by
  have := tabK_get 256 i h
  simpa [tab, h] using this
theorem raw_take (s : ByteArray) (k : Nat) (h : k < s.size) : raw (s.data.toList.take (k + 1)) = (raw (s.data.toList.take k) / 256) ^^^ fit 8 ((raw (s.data.toList.take k) % 256) ^^^ s[k].toNat) := by
  have e : s.data.toList.take (k + 1) = s.data.toList.take k ++ [s[k]] := by
    rw [List.take_succ_eq_append_getElem (by simpa using h)]; rfl
  rw [e, raw_snoc, crcB_tab]
set_option maxHeartbeats 400000 in
set_option maxRecDepth 100000 in
theorem of_any (s : ByteArray) (w : World) (hs : s.size ≤ maxLen) :
    Calls Tryz.prog 60 #[.string s] w fun e w' => e = .returned (.int .i64 (fcs s.data.toList)) ∧ Below w.heap.size w w' := by
  unfold maxLen at hs
  have hz := zero_tab
  have hsz : Hid (zrow.size = tab.size) := by rw [tab, tabK_size]; exact Array.size_replicate
  go_enter Tryz.func60, Tryz.ntmps60
  go_wp2_with fail
  refine (table_any _).mono ?_
  rintro e w1 ⟨rfl, hb⟩
  go_wp2_with (refine wpList_store_new rfl 111 _ _ rfl tab rfl rfl 111 zrow (by kernel_rfl) hsz.out tab_one ?_)
  clear hz
  go_loop [4, 9] (fun x i => ∃ k c : Nat, k ≤ s.size ∧ i = .int .i64 k ∧ x = .int .u16 c ∧ Hid (c = raw (s.data.toList.take k))) (fun _ i => s.size - (intOf i).toNat)
  case atStart => exact ⟨0, 65535, Nat.zero_le _, rfl, rfl, rfl⟩
  case round =>
    obtain ⟨k, c, hk, rfl, rfl, hc⟩ := hrel
    have hc16 : c < 65536 := by have := raw_lt (s.data.toList.take k); rw [← hc.out] at this; exact this
    by_cases hlt : k < s.size
    · have hb8 : s[k].toNat < 256 := s[k].toNat_lt
      have hj : (c % 256) ^^^ s[k].toNat < 256 := Nat.xor_lt_two_pow (n := 8) (by omega) (by omega)
      have hf : fit 8 ((c % 256) ^^^ s[k].toNat) < 65536 := fit_lt 8 (by omega)
      have hn := raw_take s k hlt
      rw [← hc.out] at hn
      have hx1 : bits BinOp.xor IntKind.u8 ((c : Int) % 256) (s[k].toNat : Int) = (((c % 256) ^^^ s[k].toNat : Nat) : Int) := by
        have := u8_xor_nat (c % 256) s[k].toNat (by omega) hb8
        simpa using this
      have hcell := tab_get _ hj
      have hx2 : bits BinOp.xor IntKind.u16 ((c : Int) / 256) (fit 8 ((c % 256) ^^^ s[k].toNat) : Int) = (((c / 256) ^^^ fit 8 ((c % 256) ^^^ s[k].toNat) : Nat) : Int) := by
        have := u16_xor_nat (c / 256) _ (by omega) hf
        simpa using this
      have Hn := Lib.hid hn
      clear hn
      go_wp2
      go_round
      case rel => exact ⟨k + 1, _, by omega, by go_num, rfl, Hn.out.symm⟩
      case measure => simp [intOf]; omega
    · obtain rfl : k = s.size := by omega
      have hfc : c ^^^ 65535 < 65536 := Nat.xor_lt_two_pow (n := 16) (by omega) (by omega)
      have hx3 : bits BinOp.xor IntKind.u16 IntKind.u16.max (c : Int) = ((c ^^^ 65535 : Nat) : Int) := by
        have := u16_xor_nat 65535 c (by omega) (by omega)
        rw [Nat.xor_comm c, show IntKind.u16.max = 65535 from rfl]
        simpa using this
      have hfin : Hid (fcs s.data.toList = c ^^^ 65535) := by
        unfold fcs; rw [hc.out, List.take_of_length_le (by simp)]; exact rfl
      go_wp2
      go_ret
      exact ⟨by rw [hfin.out]; show Ending.returned (Value.int .i64 (wrap64 _)) = _; rw [IntWalk.wrap64_in _ ⟨by omega, by omega⟩], hb.trans (((Below.refl _ _).alloc (Nat.le_refl _) _).mono hb.size)⟩

/-! ### Put, Check -/
set_option maxHeartbeats 400000 in
set_option maxRecDepth 100000 in
theorem put_any (s : ByteArray) (w : World) (hs : s.size + 2 ≤ maxLen) :
    Calls Tryz.prog 80 #[.string s] w fun e w' => e = .returned (.string (bytesOf (put s.data.toList))) ∧ Below w.heap.size w w' := by
  unfold maxLen at hs
  have hf := fcs_lt s.data.toList
  have hcv : ∀ (w : World) (a b : Int), (convert 27 9 (.slice (some ⟨w.heap.size, 0, none⟩) 2 2)).run Tryz.prog (w.alloc (.cells #[.int .u8 a, .int .u8 b] 5)) = .ok (.string (strOfNums [a, b])) (w.alloc (.cells #[.int .u8 a, .int .u8 b] 5)) :=
    fun w a b => conv_row w _ _ _ Tryz.underlying27 Tryz.underlying5 Tryz.underlying9 [a, b] 2 rfl
  go_enter Tryz.func80, Tryz.ntmps80
  go_wp2_with fail
  refine (of_any _ _ (by unfold maxLen; omega)).mono ?_
  rintro e w1 ⟨rfl, hb⟩
  have hs2 : ∀ a b : Int, (strOfNums [a, b]).size = 2 := fun a b => strOfNums_size _
  go_wp2
  go_ret
  refine ⟨?_, hb.trans (((Below.refl _ _).alloc (Nat.le_refl _) _).mono hb.size)⟩
  show Ending.returned (Value.string _) = _
  congr 2

/-- what Check answers -/
def chk (l : List UInt8) : List UInt8 × Int :=
  if l.length < 2 then ([], 100) else if put (l.take (l.length - 2)) = l then (l.take (l.length - 2), 0) else ([], 101)
set_option maxHeartbeats 400000 in
set_option maxRecDepth 100000 in
theorem check_any (s : ByteArray) (w : World) (hs : s.size ≤ maxLen) :
    Calls Tryz.prog 83 #[.string s] w fun e w' => e = .returned (.tuple #[.string (bytesOf (chk s.data.toList).1), .int .i64 (chk s.data.toList).2]) ∧ Below w.heap.size w w' := by
  unfold maxLen at hs
  have hsz : s.data.toList.length = s.size := len_toList s
  by_cases h2 : s.size < 2
  · have hc : Hid (chk s.data.toList = ([], 100)) := by unfold chk; rw [if_pos (by omega)]; exact rfl
    clear hsz
    go_enter Tryz.func83, Tryz.ntmps83
    go_wp2
    go_ret2
    exact ⟨by rw [hc.out]; rfl, Below.refl _ _⟩
  · have hps := prefix_size s (s.size - 2) (by omega)
    have Hps := Lib.hid hps
    clear hps
    by_cases hp : put (s.data.toList.take (s.data.toList.length - 2)) = s.data.toList
    · have hc : Hid (chk s.data.toList = (s.data.toList.take (s.size - 2), 0)) := by unfold chk; rw [if_neg (by omega), if_pos hp, hsz]; exact rfl
      have hq : ((bytesOf (put (s.data.toList.take (s.size - 2)))).toList == s.toList) = true := ba_beq_true (by rw [hsz] at hp; exact hp)
      clear hsz hp
      go_enter Tryz.func83, Tryz.ntmps83
      go_wp2_with fail
      refine (put_any _ _ (by unfold maxLen; rw [Hps.out]; omega)).mono ?_
      rintro e w1 ⟨rfl, hb⟩
      rw [prefix_toList]
      go_wp2
      go_ret2
      exact ⟨by rw [hc.out, ← prefix_bytes]; rfl, hb⟩
    · have hc : Hid (chk s.data.toList = ([], 101)) := by unfold chk; rw [if_neg (by omega), if_neg hp]; exact rfl
      have hq : ((bytesOf (put (s.data.toList.take (s.size - 2)))).toList == s.toList) = false := ba_beq_false (by rw [hsz] at hp; exact hp)
      clear hsz hp
      go_enter Tryz.func83, Tryz.ntmps83
      go_wp2_with fail
      refine (put_any _ _ (by unfold maxLen; rw [Hps.out]; omega)).mono ?_
      rintro e w1 ⟨rfl, hb⟩
      rw [prefix_toList]
      go_wp2
      go_ret2
      exact ⟨by rw [hc.out]; rfl, hb⟩
end Go.Proofs.YteigigepmoicaaaGreatDoor
/-! Contracts of the reference's sums: Fcs, Sum, Unsum; and Num. -/
namespace Go.Proofs.YteigigepmoicaaaGreatDoor
open Go.RowKit Go.Crc
theorem and1_i64 (x : Nat) (h : x < 65536) : bits BinOp.and IntKind.i64 (x : Int) 1 = ((x % 2 : Nat) : Int) := by
  have := i64_and_nat x 1 (by omega) (by omega)
  rw [nat_mask1] at this
  simpa using this
theorem raw_take2 (s : ByteArray) (k : Nat) (h : k < s.size) : raw (s.data.toList.take (k + 1)) = fit 8 (raw (s.data.toList.take k) ^^^ s[k].toNat) := by
  have e : s.data.toList.take (k + 1) = s.data.toList.take k ++ [s[k]] := by
    rw [List.take_succ_eq_append_getElem (by simpa using h)]; rfl
  rw [e, raw_snoc]; rfl
set_option maxHeartbeats 400000 in
theorem rfcs_any (s : ByteArray) (w : World) (hs : s.size ≤ maxLen) :
    Calls Tryz.prog 18 #[.string s] w fun e w' => e = .returned (.int .i64 (fcs s.data.toList)) ∧ w = w' := by
  unfold maxLen at hs
  go_enter Tryz.func18, Tryz.ntmps18
  go_wp2
  go_loop [3, 4] (fun x i => ∃ k c : Nat, k ≤ s.size ∧ i = .int .i64 k ∧ x = .int .i64 c ∧ Hid (c = raw (s.data.toList.take k))) (fun _ i => s.size - (intOf i).toNat)
  case atStart => exact ⟨0, 65535, Nat.zero_le _, rfl, rfl, rfl⟩
  case round =>
    obtain ⟨k, c, hk, rfl, rfl, hc⟩ := hrel
    have hc16 : c < 65536 := by have := raw_lt (s.data.toList.take k); rw [← hc.out] at this; exact this
    by_cases hlt : k < s.size
    · have hb8 : s[k].toNat < 256 := s[k].toNat_lt
      have hx1 : bits BinOp.xor IntKind.i64 (c : Int) (s[k].toNat : Int) = ((c ^^^ s[k].toNat : Nat) : Int) := i64_xor_nat c _ (by omega) (by omega)
      have hl := raw_take2 s k hlt
      rw [← hc.out] at hl
      have Hl := Lib.hid hl
      clear hl
      have hd16 : c ^^^ s[k].toNat < 65536 := Nat.xor_lt_two_pow (n := 16) hc16 (by omega)
      go_wp2
      go_loop [3, 5] (fun x i => ∃ j d : Nat, j ≤ 8 ∧ i = .int .i64 j ∧ x = .int .i64 d ∧ Hid (d = fit j (c ^^^ s[k].toNat))) (fun _ i => 8 - (intOf i).toNat)
      case atStart => exact ⟨0, c ^^^ s[k].toNat, by omega, rfl, rfl, rfl⟩
      case round =>
        obtain ⟨j, d, hj, rfl, rfl, hd⟩ := hrel
        have h1 : d < 65536 := by rw [hd.out]; exact fit_lt j hd16
        clear hx1
        by_cases hj8 : j < 8
        · have hs : Hid (fstep d = fit (j + 1) (c ^^^ s[k].toNat)) := by rw [hd.out, fit_succ']; exact rfl
          rcases Nat.mod_two_eq_zero_or_one d with hp | hp
          · have ha : bits BinOp.and IntKind.i64 (d : Int) 1 = 0 := by rw [and1_i64 _ h1, hp]; rfl
            have hq : Hid (fstep d = d / 2) := by unfold fstep; rw [if_neg (by omega)]; exact rfl
            clear hp
            go_wp2
            go_round
            case rel => exact ⟨j + 1, d / 2, by omega, by go_num, by go_num, hq.out.symm.trans hs.out⟩
            case measure => simp [intOf]; omega
          · have ha : bits BinOp.and IntKind.i64 (d : Int) 1 = 1 := by rw [and1_i64 _ h1, hp]; rfl
            have hx : bits BinOp.xor IntKind.i64 ((d : Int) / 2) 33800 = ((d / 2 ^^^ 33800 : Nat) : Int) := by
              have := i64_xor_nat (d / 2) 33800 (by omega) (by omega)
              simpa using this
            have hq : Hid (fstep d = d / 2 ^^^ 33800) := by unfold fstep; rw [if_pos hp]; exact rfl
            clear hp
            go_wp2
            go_round
            case rel => exact ⟨j + 1, _, by omega, by go_num, rfl, hq.out.symm.trans hs.out⟩
            case measure => simp [intOf]; omega
        · obtain rfl : j = 8 := by omega
          go_wp2
          go_round
          case rel => exact ⟨k + 1, d, by omega, by go_num, rfl, hd.out.trans Hl.out.symm⟩
          case measure => simp [intOf]; omega
    · obtain rfl : k = s.size := by omega
      have hx3 : bits BinOp.xor IntKind.i64 (c : Int) 65535 = ((c ^^^ 65535 : Nat) : Int) := by
        have := i64_xor_nat c 65535 (by omega) (by omega)
        simpa using this
      have hfin : Hid (fcs s.data.toList = c ^^^ 65535) := by
        unfold fcs; rw [hc.out, List.take_of_length_le (by simp)]; exact rfl
      go_wp2
      go_ret
      exact ⟨by rw [hfin.out]; rfl, rfl⟩
set_option maxHeartbeats 400000 in
theorem sum_any (s : ByteArray) (w : World) (hs : s.size + 2 ≤ maxLen) :
    Calls Tryz.prog 55 #[.string s] w fun e w' => e = .returned (.string (bytesOf (put s.data.toList))) ∧ Below w.heap.size w w' := by
  unfold maxLen at hs
  have hf := fcs_lt s.data.toList
  have hcv : ∀ (w : World) (a b : Int), (convert 27 9 (.slice (some ⟨w.heap.size, 0, none⟩) 2 2)).run Tryz.prog (w.alloc (.cells #[.int .u8 a, .int .u8 b] 5)) = .ok (.string (strOfNums [a, b])) (w.alloc (.cells #[.int .u8 a, .int .u8 b] 5)) :=
    fun w a b => conv_row w _ _ _ Tryz.underlying27 Tryz.underlying5 Tryz.underlying9 [a, b] 2 rfl
  have hs2 : ∀ a b : Int, (strOfNums [a, b]).size = 2 := fun a b => strOfNums_size _
  have ha : bits BinOp.and IntKind.i64 (fcs s.data.toList : Int) 255 = (fcs s.data.toList : Int) % 256 := i64_low _ 8 (by omega)
  go_enter Tryz.func55, Tryz.ntmps55
  go_wp2_with fail
  refine (rfcs_any _ _ (by unfold maxLen; omega)).mono ?_
  rintro e w1 ⟨rfl, rfl⟩
  go_wp2
  go_ret
  refine ⟨?_, (Below.refl _ _).alloc (Nat.le_refl _) _⟩
  show Ending.returned (Value.string _) = _
  congr 2
set_option maxHeartbeats 400000 in
theorem unsum_any (s : ByteArray) (w : World) (hs : s.size ≤ maxLen) :
    Calls Tryz.prog 58 #[.string s] w fun e w' => e = .returned (.tuple #[.string (bytesOf (chk s.data.toList).1), .int .i64 (chk s.data.toList).2]) ∧ Below w.heap.size w w' := by
  unfold maxLen at hs
  have hsz : s.data.toList.length = s.size := len_toList s
  by_cases h2 : s.size < 2
  · have hc : Hid (chk s.data.toList = ([], 100)) := by unfold chk; rw [if_pos (by omega)]; exact rfl
    clear hsz
    go_enter Tryz.func58, Tryz.ntmps58
    go_wp2
    go_ret2
    exact ⟨by rw [hc.out]; rfl, Below.refl _ _⟩
  · have hps := prefix_size s (s.size - 2) (by omega)
    have Hps := Lib.hid hps
    clear hps
    by_cases hp : put (s.data.toList.take (s.data.toList.length - 2)) = s.data.toList
    · have hc : Hid (chk s.data.toList = (s.data.toList.take (s.size - 2), 0)) := by unfold chk; rw [if_neg (by omega), if_pos hp, hsz]; exact rfl
      have hq : ((bytesOf (put (s.data.toList.take (s.size - 2)))).toList == s.toList) = true := ba_beq_true (by rw [hsz] at hp; exact hp)
      clear hsz hp
      go_enter Tryz.func58, Tryz.ntmps58
      go_wp2_with fail
      refine (sum_any _ _ (by unfold maxLen; rw [Hps.out]; omega)).mono ?_
      rintro e w1 ⟨rfl, hb⟩
      rw [prefix_toList]
      go_wp2
      go_ret2
      exact ⟨by rw [hc.out, ← prefix_bytes]; rfl, hb⟩
    · have hc : Hid (chk s.data.toList = ([], 101)) := by unfold chk; rw [if_neg (by omega), if_neg hp]; exact rfl
      have hq : ((bytesOf (put (s.data.toList.take (s.size - 2)))).toList == s.toList) = false := ba_beq_false (by rw [hsz] at hp; exact hp)
      clear hsz hp
      go_enter Tryz.func58, Tryz.ntmps58
      go_wp2_with fail
      refine (sum_any _ _ (by unfold maxLen; rw [Hps.out]; omega)).mono ?_
      rintro e w1 ⟨rfl, hb⟩
      rw [prefix_toList]
      go_wp2
      go_ret2
      exact ⟨by rw [hc.out]; rfl, hb⟩
theorem num_any (x : Int) (w : World) : Calls Tryz.prog 12 #[.int .i64 x] w fun e w' => e = .returned (.int .i64 x) ∧ w = w' := by
  go_enter Tryz.func12, Tryz.ntmps12
  go_wp2
  go_ret
  exact ⟨rfl, rfl⟩
end Go.Proofs.YteigigepmoicaaaGreatDoor
/-! Contracts of package frame. -/
namespace Go.Proofs.YteigigepmoicaaaGreatDoor
open Go.RowKit Go.Crc
theorem below_cell {W w' : World} (h : Below W.heap.size W w') {a : Addr} {v : Value} (hc : W.cell? a = some v) : w'.cell? a = some v := (h.cell (block_lt_of_cell hc)).trans hc
def protoOk (p : Int) : Bool := decide (1 ≤ p) && decide (p ≤ 65535) && p % 2 == 1 && (p / 256) % 2 == 0
set_option maxHeartbeats 400000 in
theorem proto_any (p : Int) (w : World) : Calls Tryz.prog 77 #[.int .i64 p] w fun e w' => e = .returned (.bool (protoOk p)) ∧ w = w' := by
  have b1 : bits BinOp.and IntKind.i64 p 1 = p % 2 := i64_low p 1 (by omega)
  have b2 : bits BinOp.and IntKind.i64 (p / 256) 1 = (p / 256) % 2 := i64_low _ 1 (by omega)
  by_cases h1 : 1 ≤ p
  · by_cases h2 : p ≤ 65535
    · by_cases h3 : p % 2 = 1
      · have hr : Hid (protoOk p = ((p / 256) % 2 == 0)) := Lib.hid (by simp [protoOk, h1, h2, h3])
        have e3 : (p % 2 == 1) = true := beq_iff_eq.2 h3
        clear h3
        go_enter Tryz.func77, Tryz.ntmps77
        go_wp2
        go_ret
        exact ⟨by rw [hr.out]; rfl, rfl⟩
      · have hr : Hid (protoOk p = false) := Lib.hid (by simp [protoOk, h1, h2, h3])
        have e3 : (p % 2 == 1) = false := beq_eq_false_iff_ne.2 h3
        clear h3
        go_enter Tryz.func77, Tryz.ntmps77
        go_wp2
        go_ret
        exact ⟨by rw [hr.out]; rfl, rfl⟩
    · have hr : Hid (protoOk p = false) := Lib.hid (by simp [protoOk, h2])
      go_enter Tryz.func77, Tryz.ntmps77
      go_wp2
      go_ret
      exact ⟨by rw [hr.out]; rfl, rfl⟩
  · have hr : Hid (protoOk p = false) := Lib.hid (by simp [protoOk, h1])
    go_enter Tryz.func77, Tryz.ntmps77
    go_wp2
    go_ret
    exact ⟨by rw [hr.out]; rfl, rfl⟩
theorem conv4 (W : World) (k : Nat) (a b c d : Int) (ha : W.cell? ⟨k, 0, none⟩ = some (.int .u8 a)) (hb : W.cell? ⟨k, 1, none⟩ = some (.int .u8 b)) (hc : W.cell? ⟨k, 2, none⟩ = some (.int .u8 c)) (hd : W.cell? ⟨k, 3, none⟩ = some (.int .u8 d)) :
    (convert 27 9 (.slice (some ⟨k, 0, none⟩) 4 4)).run Tryz.prog W = .ok (.string (strOfNums [a, b, c, d])) W :=
  run_convert_bytes_arg W _ _ Tryz.underlying27 Tryz.underlying5 k 0 4 4 [a, b, c, d] rfl (fun i hi => by
    match i, hi with
    | 0, _ => simpa using ha
    | 1, _ => simpa using hb
    | 2, _ => simpa using hc
    | 3, _ => simpa using hd) _ Tryz.underlying9
theorem conv2 (W : World) (k : Nat) (a b : Int) (ha : W.cell? ⟨k, 0, none⟩ = some (.int .u8 a)) (hb : W.cell? ⟨k, 1, none⟩ = some (.int .u8 b)) :
    (convert 27 9 (.slice (some ⟨k, 0, none⟩) 2 2)).run Tryz.prog W = .ok (.string (strOfNums [a, b])) W :=
  run_convert_bytes_arg W _ _ Tryz.underlying27 Tryz.underlying5 k 0 2 2 [a, b] rfl (fun i hi => by
    match i, hi with
    | 0, _ => simpa using ha
    | 1, _ => simpa using hb) _ Tryz.underlying9
def byteAt (p : Int) : UInt8 := UInt8.ofNat (p % 256).toNat
def headB (p : Int) : List UInt8 := [255, 3, byteAt (p / 256), byteAt p]
def frameT (p : Int) (d : List UInt8) (m : Int) : List UInt8 × Int :=
  if protoOk p = false then ([], 303) else if 2048 < d.length then ([], 304) else ([126] ++ stuff m (put (headB p ++ d)) ++ [126], 0)
theorem head_bytes (p : Int) : strOfNums [255, 3, p / 256 % 256, p % 256] = bytesOf (headB p) := rfl
set_option maxHeartbeats 1000000 in
theorem fput_any (p : Int) (d : ByteArray) (m : Int) (w : World) (hd : d.size ≤ maxLen) :
    Calls Tryz.prog 61 #[.agg #[.int .i64 p, .string d], .int .i64 m] w fun e w' =>
      e = .returned (.tuple #[.string (bytesOf (frameT p d.data.toList m).1), .int .i64 (frameT p d.data.toList m).2]) ∧ Below w.heap.size w w' := by
  unfold maxLen at hd
  by_cases hp : protoOk p = true
  · by_cases hl : 2048 < d.size
    · have hr : Hid (frameT p d.data.toList m = ([], 304)) := by unfold frameT; rw [if_neg (by rw [hp]; decide), if_pos (by rw [len_toList]; exact hl)]; exact rfl
      go_enter Tryz.func61, Tryz.ntmps61
      go_wp2_with fail
      refine (proto_any _ _).mono ?_
      rintro e w1 ⟨rfl, rfl⟩
      rw [hp]
      go_wp2_with fail
      go_ret2
      exact ⟨by rw [hr.out]; rfl, allocB (Below.refl _ _) _⟩
    · have hr : Hid (frameT p d.data.toList m = ([126] ++ stuff m (put (headB p ++ d.data.toList)) ++ [126], 0)) := by unfold frameT; rw [if_neg (by rw [hp]; decide), if_neg (by rw [len_toList]; exact hl)]; exact rfl
      have Hp := Lib.hid hp
      clear hp
      have hcv := conv4
      go_enter Tryz.func61, Tryz.ntmps61
      go_wp2_with fail
      refine (proto_any _ _).mono ?_
      rintro e w1 ⟨rfl, rfl⟩
      rw [Hp.out]
      go_wp2_with fail
      clear hcv
      have n1 : ¬ 9223372036854775807 < 4 + d.size := by omega
      have HS : Hid ((strOfNums [255, 3, p / 256 % 256, p % 256] ++ d).size = 4 + d.size) := by rw [ByteArray.size_append, strOfNums_size]; exact rfl
      have hs4 : (strOfNums [255, 3, p / 256 % 256, p % 256]).size = 4 := strOfNums_size _
      have hf1 : (bytesOf [126]).size = 1 := rfl
      go_region_held3 (fun w' => w'.cell? ⟨w.heap.size, 1, none⟩ = some (.string d)) (first | exact below_cell hb4 (by assumption) | exact below_cell hb3 (by assumption) | exact below_cell hb2 (by assumption) | go_keep)
        (first
          | (go_at_call 78; refine (flag_any _).mono ?_; rintro e w2 ⟨rfl, hb2⟩)
          | (go_at_call 80; refine (put_any _ _ ?_).mono ?_; (unfold maxLen; rw [HS.out]; omega); rintro e w3 ⟨rfl, hb3⟩)
          | (go_at_call 79; refine (sput_any _ _ _ ?_).mono ?_; (rw [bytesOf_size, put_length, List.length_append, len_toList, len_toList, hs4]; omega); rintro e w4 ⟨rfl, hb4⟩; generalize HT : stuff m _ = T; have hT : T.length ≤ 4108 := (by rw [← HT]; refine Nat.le_trans (stuff_length _ _) ?_; rw [bytesOf_toList, put_length, List.length_append, len_toList, len_toList, hs4]; omega); have n2 : ¬ 9223372036854775807 < 1 + (bytesOf T).size := (by rw [bytesOf_size]; omega); have n3 : ¬ 9223372036854775807 < 1 + (bytesOf T).size + 1 := (by rw [bytesOf_size]; omega); have n5 : ¬ 9223372036854775807 ≤ 1 + (bytesOf T).size := (by rw [bytesOf_size]; omega); have HHT := Lib.hid HT; clear HT))
      go_wp2_with fail
      go_ret2
      refine ⟨?_, by repeat (first | exact Below.refl _ _ | apply allocB | apply drewB | refine seqB ?_ (by assumption))⟩
      rw [hr.out]
      show Ending.returned (Value.tuple #[Value.string (bytesOf [126] ++ bytesOf T ++ bytesOf [126]), Value.int .i64 0]) = _
      rw [bytesOf_append, bytesOf_append, ← HHT.out]
      rfl
  · have hp' : protoOk p = false := by simpa using hp
    have hr : Hid (frameT p d.data.toList m = ([], 303)) := by unfold frameT; rw [if_pos hp']; exact rfl
    clear hp
    go_enter Tryz.func61, Tryz.ntmps61
    go_wp2_with fail
    refine (proto_any _ _).mono ?_
    rintro e w1 ⟨rfl, rfl⟩
    rw [hp']
    go_wp2_with fail
    go_ret2
    exact ⟨by rw [hr.out]; rfl, allocB (Below.refl _ _) _⟩
end Go.Proofs.YteigigepmoicaaaGreatDoor
