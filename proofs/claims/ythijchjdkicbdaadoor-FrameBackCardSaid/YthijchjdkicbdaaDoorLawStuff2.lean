/- The walks of StuffBack and StuffSizes. -/
import Derived.Test.YthijchjdkicbdaaDoorLawStuff
namespace Go.Proofs.YthijchjdkicbdaaDoor
open Go.RowKit
theorem stuff_no (m : Int) (l : List UInt8) : ∀ b ∈ stuff m l, b ≠ 126 ∧ (b.toNat < 32 → mbit m b.toNat = false) := by
  intro b hb
  unfold stuff at hb
  obtain ⟨c, _, hc⟩ := List.mem_flatMap.1 hb
  unfold stuffB at hc
  split at hc
  · rename_i hm
    rcases List.mem_cons.1 hc with rfl | hc
    · exact ⟨by decide, fun h => absurd h (by decide)⟩
    · rw [List.mem_singleton] at hc
      subst hc
      refine ⟨(marked_map c m hm).1, fun h => ?_⟩
      exfalso
      unfold markedB at hm
      have e : c = 125 ∨ c = 126 ∨ c.toNat < 32 := by
        simp only [Bool.or_eq_true, beq_iff_eq, Bool.and_eq_true, decide_eq_true_eq] at hm
        rcases hm with (h | h) | h
        · exact .inl h
        · exact .inr (.inl h)
        · exact .inr (.inr h.1)
      have e3 : ∀ x : UInt8, (x = 125 ∨ x = 126 ∨ x.toNat < 32) → ¬ (x ^^^ 32).toNat < 32 := by
        intro x
        have : ∀ y : Fin 256, (UInt8.ofNat y.1 = 125 ∨ UInt8.ofNat y.1 = 126 ∨ (UInt8.ofNat y.1).toNat < 32) → ¬ (UInt8.ofNat y.1 ^^^ 32).toNat < 32 := by decide +kernel
        have h := this ⟨x.toNat, x.toNat_lt⟩
        simpa using h
      exact e3 c e h
  · rename_i hm
    rw [List.mem_singleton] at hc
    subst hc
    have hm' : markedB b m = false := by simpa using hm
    refine ⟨(unmarked_ne b m hm').2, fun h => ?_⟩
    unfold markedB at hm'
    simp [h] at hm'
    exact hm'.2
theorem stuff_count (m : Int) (l : List UInt8) : (stuff m l).length = l.length + l.countP (markedB · m) := by
  induction l with
  | nil => rfl
  | cons c l ih =>
    rw [stuff_cons, List.length_append, ih, List.countP_cons, List.length_cons]
    unfold stuffB
    split <;> simp <;> omega
theorem stuff_big (l : List UInt8) : stuff 1099511627776 l = stuff 0 l := by
  unfold stuff
  congr 1
  funext c
  have : markedB c 1099511627776 = markedB c 0 := by
    unfold markedB
    by_cases h : c.toNat < 32
    · have hb : ∀ j, j < 32 → mbit 1099511627776 j = mbit 0 j := by decide
      rw [hb _ h]
    · simp [h]
  unfold stuffB; rw [this]
theorem count_take (s : ByteArray) (m : Int) (k : Nat) (h : k < s.size) : (s.data.toList.take (k + 1)).countP (markedB · m) = (s.data.toList.take k).countP (markedB · m) + (if markedB s[k] m = true then 1 else 0) := by
  rw [take_snoc s k h, List.countP_append]; simp [List.countP_cons]
set_option maxHeartbeats 1000000 in
theorem stuffBack_walk (s : ByteArray) (m : Int) (ml : Int) (w : World) (hs : s.size ≤ 1048576) (hml : MaxLenIs w ml) :
    Calls Tryd.prog 4 #[.string s, .int .i64 m] w fun e w' => e = .returned (.bool true) ∧ Below w.heap.size w w' := by
  obtain ⟨t, ht⟩ : ∃ t, bytesOf (stuff m s.data.toList) = t := ⟨_, rfl⟩
  have htl : t.data.toList = stuff m s.data.toList := by rw [← ht]; rfl
  have htz : t.size = (stuff m s.data.toList).length := by rw [← ht, bytesOf_size]
  have hno : ∀ j (h : j < t.size), t[j] ≠ 126 ∧ (t[j].toNat < 32 → mbit m t[j].toNat = false) := by
    intro j h
    refine stuff_no m s.data.toList t[j] ?_
    rw [← htl]
    exact List.getElem_mem (l := t.data.toList) (n := j) (by simpa using h)
  have hz1 : s.size ≤ t.size := by rw [htz]; have := stuff_count m s.data.toList; rw [len_toList] at this; omega
  have hz2 : t.size ≤ 2 * s.size := by rw [htz]; have := stuff_length m s.data.toList; rw [len_toList] at this; omega
  have hun : unstuff t.data.toList = (s.data.toList, 0) := by rw [htl]; exact unstuff_stuff _ _
  have Hun := Lib.hid hun
  have Ht := Lib.hid ht
  clear hun ht htl htz
  go_enter Tryd.func4, Tryd.ntmps4
  go_wp2_with fail
  refine (awake2_any ml _ hml).mono ?_
  rintro e w1 ⟨rfl, hb1⟩
  go_wp2_with fail
  refine (sput_any _ _ _ (by omega)).mono ?_
  rintro e w2 ⟨rfl, hb2⟩
  rw [Ht.out]
  go_wp2_with fail
  refine (sget_any _ _ (by omega)).mono ?_
  rintro e w3 ⟨rfl, hb3⟩
  rw [Hun.out]
  have hB := seqB (seqB hb1 hb2) hb3
  clear hb1 hb2 hb3
  have hq : ((bytesOf s.data.toList).toList == s.toList) = true := ba_beq_true rfl
  go_wp2_with fail
  go_loopw [8] (fun i wr => ∃ k : Nat, k ≤ t.size ∧ i = .int .i64 k ∧ Below w.heap.size w wr) (fun i _ => t.size - (intOf i).toNat)
  case atStart => exact ⟨0, Nat.zero_le _, rfl, hB⟩
  case round =>
    obtain ⟨k, hk, rfl, hbl⟩ := hrel
    clear hB
    by_cases hlt : k < t.size
    · obtain ⟨n1, n2⟩ := hno k hlt
      have e1 : ((t[k].toNat : Int) == 126) = false := u8_beq n1
      have hc8 := t[k].toNat_lt
      by_cases h3 : t[k].toNat < 32
      · have hb := u64_bit m t[k].toNat h3
        have hp : (m / 2 ^ t[k].toNat) % 2 = 0 := by
          have := n2 h3
          unfold mbit at this
          have h2 : ¬ (m / 2 ^ t[k].toNat) % 2 = 1 := by simpa using this
          omega
        rw [hp] at hb
        clear hp n1 n2
        go_wp2_with fail
        go_roundw
        case rel => exact ⟨k + 1, by omega, by go_num, hbl⟩
        case measure => simp [intOf]; omega
      · clear n1 n2
        go_wp2_with fail
        go_roundw
        case rel => exact ⟨k + 1, by omega, by go_num, hbl⟩
        case measure => simp [intOf]; omega
    · obtain rfl : k = t.size := by omega
      go_wp2_with (go_at_call 16; refine (num_any _ _).mono ?_; rintro e w' ⟨rfl, rfl⟩)
      go_ret
      have hzi : (t.size : Int) ≤ 2 * (s.size : Int) := by omega
      refine ⟨?_, hbl⟩
      show Ending.returned (.bool (decide ((t.size : Int) ≤ 2 * (s.size : Int)))) = _
      rw [decide_eq_true hzi]
set_option maxHeartbeats 1000000 in
theorem stuffSizes_walk (s : ByteArray) (m : Int) (ml : Int) (w : World) (hs : s.size ≤ 1048576) (hml : MaxLenIs w ml) :
    Calls Tryd.prog 6 #[.string s, .int .i64 m] w fun e w' => e = .returned (.bool true) ∧ Below w.heap.size w w' := by
  go_enter Tryd.func6, Tryd.ntmps6
  go_wp2_with fail
  refine (awake2_any ml _ hml).mono ?_
  rintro e w1 ⟨rfl, hb1⟩
  go_wp2_with fail
  go_loopw [5, 6] (fun c i wr => ∃ k : Nat, k ≤ s.size ∧ i = .int .i64 k ∧ c = .int .i64 ((s.data.toList.take k).countP (markedB · m) : Nat) ∧ Below w.heap.size w wr) (fun _ i _ => s.size - (intOf i).toNat)
  case atStart => exact ⟨0, Nat.zero_le _, rfl, rfl, hb1⟩
  case round =>
    obtain ⟨k, hk, rfl, rfl, hbl⟩ := hrel
    clear hb1
    have hcl : (s.data.toList.take k).countP (markedB · m) ≤ k := Nat.le_trans List.countP_le_length (by simp; omega)
    by_cases hlt : k < s.size
    · have hct := count_take s m k hlt
      obtain ⟨n, hn⟩ : ∃ n, (s.data.toList.take k).countP (markedB · m) = n := ⟨_, rfl⟩
      rw [hn] at hcl hct ⊢
      have Hct := Lib.hid hct
      clear hct hn
      have hc8 := s[k].toNat_lt
      by_cases h1 : s[k] = 125
      · have hmk : Hid (markedB s[k] m = true) := by rw [h1]; exact rfl
        have e1 : ((s[k].toNat : Int) == 125) = true := by rw [h1]; rfl
        clear h1
        go_wp2_with fail
        go_roundw
        case rel => exact ⟨k + 1, by omega, by go_num, by rw [Hct.out, if_pos hmk.out]; go_num, hbl⟩
        case measure => simp [intOf]; omega
      have e1 : ((s[k].toNat : Int) == 125) = false := u8_beq h1
      by_cases h2 : s[k] = 126
      · have hmk : Hid (markedB s[k] m = true) := by rw [h2]; exact rfl
        have e2 : ((s[k].toNat : Int) == 126) = true := by rw [h2]; rfl
        clear h1 h2
        go_wp2_with fail
        go_roundw
        case rel => exact ⟨k + 1, by omega, by go_num, by rw [Hct.out, if_pos hmk.out]; go_num, hbl⟩
        case measure => simp [intOf]; omega
      have e2 : ((s[k].toNat : Int) == 126) = false := u8_beq h2
      by_cases h3 : s[k].toNat < 32
      · have hr : markedB s[k] m = mbit m s[k].toNat := by simp [markedB, h1, h2, h3]
        have hb := u64_bit m s[k].toNat h3
        have hp2 : (m / 2 ^ s[k].toNat) % 2 = 0 ∨ (m / 2 ^ s[k].toNat) % 2 = 1 := by omega
        rcases hp2 with hp | hp
        · have hmk : Hid (¬ markedB s[k] m = true) := Lib.hid (by rw [hr]; unfold mbit; rw [hp]; decide)
          rw [hp] at hb
          clear hr h1 h2 hp
          go_wp2_with fail
          go_roundw
          case rel => exact ⟨k + 1, by omega, by go_num, by rw [Hct.out, if_neg hmk.out]; go_num, hbl⟩
          case measure => simp [intOf]; omega
        · have hmk : Hid (markedB s[k] m = true) := Lib.hid (by rw [hr]; unfold mbit; rw [hp]; decide)
          rw [hp] at hb
          clear hr h1 h2 hp
          go_wp2_with fail
          go_roundw
          case rel => exact ⟨k + 1, by omega, by go_num, by rw [Hct.out, if_pos hmk.out]; go_num, hbl⟩
          case measure => simp [intOf]; omega
      · have hmk : Hid (¬ markedB s[k] m = true) := Lib.hid (by simp [markedB, h1, h2, h3])
        clear h1 h2
        go_wp2_with fail
        go_roundw
        case rel => exact ⟨k + 1, by omega, by go_num, by rw [Hct.out, if_neg hmk.out]; go_num, hbl⟩
        case measure => simp [intOf]; omega
    · obtain rfl : k = s.size := by omega
      have hall : s.data.toList.take s.size = s.data.toList := List.take_of_length_le (by simp)
      rw [hall] at hcl ⊢
      clear hall
      have hlen : (bytesOf (stuff m s.data.toList)).size = s.size + s.data.toList.countP (markedB · m) := by rw [bytesOf_size, stuff_count, len_toList]
      obtain ⟨n, hn⟩ : ∃ n, s.data.toList.countP (markedB · m) = n := ⟨_, rfl⟩
      rw [hn] at hcl hlen ⊢
      clear hn
      go_wp2_with fail
      refine (sput_any _ _ _ (by omega)).mono ?_
      rintro e w2 ⟨rfl, hb2⟩
      have hB2 := seqB hbl hb2
      clear hbl hb2
      go_wp2_with fail
      refine (sput_any _ _ _ (by omega)).mono ?_
      rintro e w3 ⟨rfl, hb3⟩
      have hB3 := seqB hB2 hb3
      clear hB2 hb3
      go_wp2_with fail
      refine (sput_any _ _ _ (by omega)).mono ?_
      rintro e w4 ⟨rfl, hb4⟩
      rw [stuff_big]
      have hB4 := seqB hB3 hb4
      clear hB3 hb4
      go_wp2_with (go_at_call 16; refine (num_any _ _).mono ?_; rintro e w' ⟨rfl, rfl⟩)
      go_ret
      exact ⟨rfl, hB4⟩
end Go.Proofs.YthijchjdkicbdaaDoor
