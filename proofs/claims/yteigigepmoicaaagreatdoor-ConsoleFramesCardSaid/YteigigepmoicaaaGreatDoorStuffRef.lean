/- Contracts of the reference's Stuff, Unstuff. -/
import Derived.Test.YteigigepmoicaaaGreatDoorStuff
import Derived.Test.YteigigepmoicaaaGreatDoorMg1
namespace Go.Proofs.YteigigepmoicaaaGreatDoor
open Go.RowKit
theorem u64_bit (m : Int) (c : Nat) (hc : c < 32) : bits BinOp.and IntKind.u64 (IntKind.u64.wrap m / 2 ^ c) 1 = (m / 2 ^ c) % 2 := by
  rw [IntKind.wrap_u64]
  have h0 : (0 : Int) ≤ m % 18446744073709551616 := Int.emod_nonneg _ (by decide)
  have hlt : m % 18446744073709551616 < 18446744073709551616 := Int.emod_lt_of_pos _ (by decide)
  obtain ⟨x, hx⟩ := Int.eq_ofNat_of_zero_le h0
  have hp : (0 : Int) < 2 ^ c := Int.pow_pos (by decide)
  have hq : (m % 18446744073709551616) / 2 ^ c = ((x / 2 ^ c : Nat) : Int) := by rw [hx]; simp
  have hxl : x / 2 ^ c < 18446744073709551616 := Nat.lt_of_le_of_lt (Nat.div_le_self _ _) (by omega)
  have key := u64_and_nat (x / 2 ^ c) 1 hxl (by decide)
  rw [nat_mask1] at key
  rw [hq]
  have key2 : bits BinOp.and IntKind.u64 ((x / 2 ^ c : Nat) : Int) 1 = ((x / 2 ^ c % 2 : Nat) : Int) := by simpa using key
  rw [key2]
  -- now the arithmetic: m = x + 2^64 q
  have hm : m = (x : Int) + (2 : Int) ^ c * ((2 : Int) ^ (64 - c) * (m / 18446744073709551616)) := by
    rw [← Int.mul_assoc, ← Int.pow_add, show c + (64 - c) = 64 from by omega, ← hx]
    have := Int.emod_add_mul_ediv m 18446744073709551616
    rw [show (2 : Int) ^ 64 = 18446744073709551616 from by decide]; omega
  have hev : (2 : Int) ^ (64 - c) * (m / 18446744073709551616) = 2 * ((2 : Int) ^ (63 - c) * (m / 18446744073709551616)) := by
    rw [← Int.mul_assoc]; congr 1
    rw [show 64 - c = 63 - c + 1 from by omega, Int.pow_succ, Int.mul_comm]
  rw [hm, Int.add_mul_ediv_left _ _ (by omega), hev, Int.add_mul_emod_self_left]
  simp
set_option maxHeartbeats 1000000 in
theorem rstuff_any (s : ByteArray) (m : Int) (w : World) (hs : 2 * s.size ≤ 140737488355328) :
    Calls Tryz.prog 54 #[.string s, .int .i64 m] w fun e w' => e = .returned (.string (bytesOf (stuff m s.data.toList))) ∧ Below w.heap.size w w' := by
  go_enter Tryz.func54, Tryz.ntmps54
  go_wp2_with fail
  go_loopw [5, 6] (fun v i wr => ∃ k : Nat, k ≤ s.size ∧ i = .int .i64 k ∧ Own wr w.heap.size v (stuff m (s.data.toList.take k)) ∧ Below w.heap.size w wr) (fun _ i _ => s.size - (intOf i).toNat)
  case atStart => exact ⟨0, Nat.zero_le _, rfl, Own.nil _ _, Below.refl _ _⟩
  case round =>
    obtain ⟨k, hk, rfl, hown, hbl⟩ := hrel
    have hlen : (stuff m (s.data.toList.take k)).length ≤ 2 * k := by
      have := stuff_length m (s.data.toList.take k)
      rw [List.length_take] at this
      omega
    by_cases hlt : k < s.size
    · have hst := stuff_take m s k hlt
      have Hst := Lib.hid hst
      clear hst
      have hc8 := s[k].toNat_lt
      by_cases h1 : s[k] = 125
      · have hmk : markedB s[k] m = true := by rw [h1]; rfl
        have Hsb : Hid (stuffB m s[k] = [125, s[k] ^^^ 32]) := by unfold stuffB; rw [if_pos hmk]; exact rfl
        have e1 : ((s[k].toNat : Int) == 125) = true := by rw [h1]; rfl
        clear hmk h1
        have hx := u8_xor32 s[k]
        obtain ⟨nb, hnb⟩ : ∃ nb : UInt8, nb = s[k] ^^^ 32 := ⟨_, rfl⟩
        rw [← hnb] at hx Hsb
        clear hnb
        go_wp2_with (at_builtin; refine wpList_app rfl _ _ rfl w _ _ [125, nb] 2 _ _ hown rfl rfl rfl rfl (by simp; omega) hbl ?_; intro v' w1 hown1 hbl1)
        go_roundw
        case rel => exact ⟨k + 1, by omega, by go_num, by rw [Hst.out, Hsb.out]; exact hown1, hbl1⟩
        case measure => simp [intOf]; omega
      have e1 : ((s[k].toNat : Int) == 125) = false := u8_beq h1
      by_cases h2 : s[k] = 126
      · have hmk : markedB s[k] m = true := by rw [h2]; rfl
        have Hsb : Hid (stuffB m s[k] = [125, s[k] ^^^ 32]) := by unfold stuffB; rw [if_pos hmk]; exact rfl
        have e2 : ((s[k].toNat : Int) == 126) = true := by rw [h2]; rfl
        clear hmk h1 h2
        have hx := u8_xor32 s[k]
        obtain ⟨nb, hnb⟩ : ∃ nb : UInt8, nb = s[k] ^^^ 32 := ⟨_, rfl⟩
        rw [← hnb] at hx Hsb
        clear hnb
        go_wp2_with (at_builtin; refine wpList_app rfl _ _ rfl w _ _ [125, nb] 2 _ _ hown rfl rfl rfl rfl (by simp; omega) hbl ?_; intro v' w1 hown1 hbl1)
        go_roundw
        case rel => exact ⟨k + 1, by omega, by go_num, by rw [Hst.out, Hsb.out]; exact hown1, hbl1⟩
        case measure => simp [intOf]; omega
      have e2 : ((s[k].toNat : Int) == 126) = false := u8_beq h2
      by_cases h3 : s[k].toNat < 32
      · have hr : markedB s[k] m = mbit m s[k].toNat := by simp [markedB, h1, h2, h3]
        have hb := u64_bit m s[k].toNat h3
        have hp2 : (m / 2 ^ s[k].toNat) % 2 = 0 ∨ (m / 2 ^ s[k].toNat) % 2 = 1 := by omega
        rcases hp2 with hp | hp
        · have hmk : markedB s[k] m = false := by rw [hr]; unfold mbit; rw [hp]; rfl
          have Hsb : Hid (stuffB m s[k] = [s[k]]) := by unfold stuffB; rw [if_neg (by rw [hmk]; decide)]; exact rfl
          rw [hp] at hb
          clear hmk hr h1 h2 hp
          go_wp2_with (at_builtin; refine wpList_app rfl _ _ rfl w _ _ [s[k]] 1 _ _ hown rfl rfl rfl rfl (by simp; omega) hbl ?_; intro v' w1 hown1 hbl1)
          go_roundw
          case rel => exact ⟨k + 1, by omega, by go_num, by rw [Hst.out, Hsb.out]; exact hown1, hbl1⟩
          case measure => simp [intOf]; omega
        · have hmk : markedB s[k] m = true := by rw [hr]; unfold mbit; rw [hp]; rfl
          have Hsb : Hid (stuffB m s[k] = [125, s[k] ^^^ 32]) := by unfold stuffB; rw [if_pos hmk]; exact rfl
          rw [hp] at hb
          clear hmk hr h1 h2 hp
          have hx := u8_xor32 s[k]
          obtain ⟨nb, hnb⟩ : ∃ nb : UInt8, nb = s[k] ^^^ 32 := ⟨_, rfl⟩
          rw [← hnb] at hx Hsb
          clear hnb
          go_wp2_with (at_builtin; refine wpList_app rfl _ _ rfl w _ _ [125, nb] 2 _ _ hown rfl rfl rfl rfl (by simp; omega) hbl ?_; intro v' w1 hown1 hbl1)
          go_roundw
          case rel => exact ⟨k + 1, by omega, by go_num, by rw [Hst.out, Hsb.out]; exact hown1, hbl1⟩
          case measure => simp [intOf]; omega
      · have hmk : markedB s[k] m = false := by simp [markedB, h1, h2, h3]
        have Hsb : Hid (stuffB m s[k] = [s[k]]) := by unfold stuffB; rw [if_neg (by rw [hmk]; decide)]; exact rfl
        clear hmk h1 h2
        go_wp2_with (at_builtin; refine wpList_app rfl _ _ rfl w _ _ [s[k]] 1 _ _ hown rfl rfl rfl rfl (by simp; omega) hbl ?_; intro v' w1 hown1 hbl1)
        go_roundw
        case rel => exact ⟨k + 1, by omega, by go_num, by rw [Hst.out, Hsb.out]; exact hown1, hbl1⟩
        case measure => simp [intOf]; omega
    · obtain rfl : k = s.size := by omega
      have e : s.data.toList.take s.size = s.data.toList := List.take_of_length_le (by simp)
      rw [e] at hown
      clear e
      obtain ⟨a, c, rfl⟩ := hown.form
      have hcv := hown.conv
      go_wp2_with fail
      go_ret
      exact ⟨rfl, hbl⟩
set_option maxHeartbeats 1000000 in
theorem runstuff_any (s : ByteArray) (w : World) (hs : s.size ≤ 140737488355328) :
    Calls Tryz.prog 57 #[.string s] w fun e w' => e = .returned (.tuple #[.string (bytesOf (unstuff s.data.toList).1), .int .i64 (unstuff s.data.toList).2]) ∧ Below w.heap.size w w' := by
  have hls : s.data.toList.length = s.size := len_toList s
  have Hls := Lib.hid hls
  clear hls
  have hr0 : 126 ∈ s.data.toList → unstuff s.data.toList = ([], 201) := by intro h; unfold unstuff; rw [if_pos h]
  have Hr0 := Lib.hid hr0
  clear hr0
  have hr : 126 ∉ s.data.toList → ∀ r, un s.data.toList = r → unstuff s.data.toList = match r with | none => ([], 200) | some r => (r, 0) := by
    intro hm r h; unfold unstuff; rw [if_neg hm, h] <;> (cases r <;> rfl)
  have Hr := Lib.hid hr
  clear hr
  go_enter Tryz.func57, Tryz.ntmps57
  go_wp2_with fail
  go_loop [5] (fun i => ∃ k : Nat, k ≤ s.size ∧ i = .int .i64 k ∧ Hid (126 ∉ s.data.toList.take k)) (fun i => s.size - (intOf i).toNat)
  case atStart => exact ⟨0, Nat.zero_le _, rfl, by intro h; simp at h⟩
  case round =>
    obtain ⟨k, hk, rfl, hno⟩ := hrel
    by_cases hlt : k < s.size
    · have htk : s.data.toList.take (k + 1) = s.data.toList.take k ++ [s[k]] := by
        rw [List.take_succ_eq_append_getElem (by simpa using hlt)]; rfl
      by_cases hc : s[k] = 126
      · have e1 : ((s[k].toNat : Int) == 126) = true := by rw [hc]; rfl
        have hm : Hid (unstuff s.data.toList = ([], 201)) := Hr0.out (by
          have : s[k] ∈ s.data.toList := by
            have h2 : s[k] ∈ s.data.toList.take (k + 1) := by rw [htk]; simp
            exact List.mem_of_mem_take h2
          rw [hc] at this; exact this)
        clear hc htk
        go_wp2_with fail
        go_ret2
        exact ⟨by rw [hm.out]; rfl, Below.refl _ _⟩
      · have e1 : ((s[k].toNat : Int) == 126) = false := u8_beq hc
        have hno2 : Hid (126 ∉ s.data.toList.take (k + 1)) := by
          intro h; rw [htk, List.mem_append] at h
          rcases h with h | h
          · exact hno.out h
          · exact hc (List.mem_singleton.1 h).symm
        clear hc htk
        go_wp2_with fail
        go_round
        case rel => exact ⟨k + 1, by omega, by go_num, hno2⟩
        case measure => simp [intOf]; omega
    · obtain rfl : k = s.size := by omega
      have hno' : 126 ∉ s.data.toList := by have := hno.out; rwa [List.take_of_length_le (by simp)] at this
      have Hr1 := Lib.hid (Hr.out hno')
      clear hno hno'
      go_wp2_with fail
      go_loopw [4, 6] (fun v i wr => ∃ (k : Nat) (acc : List UInt8), k ≤ s.size ∧ i = .int .i64 k ∧ acc.length ≤ k ∧ Hid (un s.data.toList = after acc (un (s.data.toList.drop k))) ∧ Own wr w.heap.size v acc ∧ Below w.heap.size w wr) (fun _ i _ => s.size - (intOf i).toNat)
      case atStart => exact ⟨0, [], Nat.zero_le _, rfl, Nat.le_refl _, by rw [after_nil]; rfl, Own.nil _ _, Below.refl _ _⟩
      case round =>
        obtain ⟨k, acc, hk, rfl, hal, hu, hown, hbl⟩ := hrel
        by_cases hlt : k < s.size
        · by_cases hc : s[k] = 125
          · have e1 : ((s[k].toNat : Int) != 125) = false := by rw [hc]; rfl
            by_cases hend : k + 1 = s.size
            · have e2 : ((k : Int) + 1 == (s.size : Int)) = true := beq_iff_eq.2 (by omega)
              have hn : un s.data.toList = none := un_stop (by rw [Hls.out]; exact hend) hc hu.out
              have Hn := Lib.hid hn
              clear hn hc
              go_wp2_with fail
              go_ret2
              exact ⟨by rw [Hr1.out _ Hn.out]; rfl, hbl⟩
            · have e2 : ((k : Int) + 1 == (s.size : Int)) = false := beq_eq_false_iff_ne.2 (by omega)
              have hlt2 : k + 1 < s.size := by omega
              have hn := un_step2 (by rw [Hls.out]; exact hlt2) hc hu.out
              have Hn := Lib.hid hn
              have hx := u8_xor32 s[k + 1]
              obtain ⟨nb, hnb⟩ : ∃ nb : UInt8, nb = s[k + 1] ^^^ 32 := ⟨_, rfl⟩
              rw [← hnb] at hx
              have Hnb := Lib.hid hnb
              clear hn hc hnb
              go_wp2_with (at_builtin; refine wpList_app rfl _ _ rfl w _ _ [nb] 1 _ _ hown rfl rfl rfl rfl (by simp; omega) hbl ?_; intro v' w1 hown1 hbl1)
              go_roundw
              case rel => exact ⟨k + 2, _, by omega, by go_num, by rw [List.length_append]; simp; omega, by rw [Hnb.out]; exact Hn.out, hown1, hbl1⟩
              case measure => simp [intOf]; omega
          · have e1 : ((s[k].toNat : Int) != 125) = true := u8_bne hc
            have hn := un_step1 (by rw [Hls.out]; exact hlt) hc hu.out
            have Hn := Lib.hid hn
            clear hn hc
            go_wp2_with (at_builtin; refine wpList_app rfl _ _ rfl w _ _ [s[k]] 1 _ _ hown rfl rfl rfl rfl (by simp; omega) hbl ?_; intro v' w1 hown1 hbl1)
            go_roundw
            case rel => exact ⟨k + 1, _, by omega, by go_num, by rw [List.length_append]; simp; omega, Hn.out, hown1, hbl1⟩
            case measure => simp [intOf]; omega
        · obtain rfl : k = s.size := by omega
          have hn : un s.data.toList = some acc := un_done (by rw [Hls.out]; exact hu.out)
          have Hn := Lib.hid hn
          clear hn
          obtain ⟨a, c, rfl⟩ := hown.form
          have hcv := hown.conv
          go_wp2_with fail
          go_ret2
          exact ⟨by rw [Hr1.out _ Hn.out]; rfl, hbl⟩
end Go.Proofs.YteigigepmoicaaaGreatDoor
