/- The walk of FcsBits: up to three bits turned. -/
import Derived.Test.YthijchjdkicbdaaLawFcs
import Derived.Laws.IdiomStrings
namespace Go.Proofs.Ythijchjdkicbdaa
open Go.RowKit Go.Crc
def kOf (p : Int) (n : Nat) : Nat := (p % 18446744073709551616).toNat % n
/-- the first i picks' bits turned -/
def turns (n : Nat) (zs : List Int) : Nat → List UInt8 → List UInt8
  | 0, l => l
  | i + 1, l => turn (turns n zs i l) (kOf (zs.getD i 0) n)
theorem turns_length (n : Nat) (zs : List Int) (i : Nat) (l : List UInt8) : (turns n zs i l).length = l.length := by
  induction i with
  | zero => rfl
  | succ i ih => rw [turns, turn_length, ih]
theorem kOf_lt (p : Int) (n : Nat) (h : 0 < n) : kOf p n < n := Nat.mod_lt _ h
theorem turns_seen (zs : List Int) (k : Nat) (hk : k ≤ 3) (l : List UInt8) (h0 : 0 < l.length) (hl : l.length ≤ 1502) :
    raw (turns (8 * l.length) zs k l) ≠ raw l ∨ turns (8 * l.length) zs k l = l := by
  have hn : 0 < 8 * l.length := by omega
  match k, hk with
  | 0, _ => exact .inr rfl
  | 1, _ => exact .inl (turn1 l _ (kOf_lt _ _ hn))
  | 2, _ => exact turn2 l _ _ hl (kOf_lt _ _ hn) (kOf_lt _ _ hn)
  | 3, _ => exact .inl (turn3 l _ _ _ (kOf_lt _ _ hn) (kOf_lt _ _ hn) (kOf_lt _ _ hn))
theorem chk_turns (zs : List Int) (k : Nat) (hk : k ≤ 3) (t : List UInt8) (ht : t.length ≤ 1500) (hne : turns (8 * (t.length + 2)) zs k (put t) ≠ put t) :
    chk (turns (8 * (t.length + 2)) zs k (put t)) = ([], 101) := by
  have hpl : (put t).length = t.length + 2 := put_length t
  have h := turns_seen zs k hk (put t) (by omega) (by omega)
  rw [hpl] at h
  rcases h with h | h
  · have hlen : (turns (8 * (t.length + 2)) zs k (put t)).length = t.length + 2 := by rw [turns_length, hpl]
    unfold chk
    rw [if_neg (by omega), if_neg]
    intro e
    exact h (((good_iff _ (by omega)).1 e).trans (raw_put t).symm)
  · exact absurd h hne
set_option maxHeartbeats 400000 in
theorem fcsBits_long (s : ByteArray) (a1 : Option Addr) (len1 cap1 : Nat) (w : World) (h : 1500 < s.size) (hs : s.size ≤ maxLen) :
    Calls Try.prog 4 #[.string s, .slice a1 len1 cap1] w fun e w' => e = .returned (.bool true) ∧ Below w.heap.size w w' := by
  unfold maxLen at hs
  go_enter Try.func4, Try.ntmps4
  go_wp2_with fail
  refine (awake1_any _).mono ?_
  rintro e w1 ⟨rfl, hb1⟩
  go_wp2_with fail
  go_ret
  exact ⟨rfl, hb1⟩
set_option maxHeartbeats 400000 in
theorem fcsBits_short (s : ByteArray) (a1 : Option Addr) (len1 cap1 : Nat) (zs : List Int) (w : World) (hin : IsRow .i64 w a1 len1 cap1 zs) (h : s.size ≤ 1500) :
    Calls Try.prog 4 #[.string s, .slice a1 len1 cap1] w fun e w' => e = .returned (.bool true) ∧ Below w.heap.size w w' := by
  have hps : (bytesOf (put s.data.toList)).size = s.size + 2 := by rw [bytesOf_size, put_length, len_toList]
  have hck : chk (put s.data.toList) = (s.data.toList, 0) := chk_put _
  have hq : ((bytesOf s.data.toList).toList == s.toList) = true := ba_beq_true rfl
  have hcv := fun (w : World) (s : ByteArray) => run_bytes_of_string (P := Try.prog) w 9 33 5 s Try.underlying9 Try.underlying33 Try.underlying5
  have hm : maxLen = 9223372036854775807 := rfl
  have Hm := Lib.hid hm
  clear hm
  go_enter Try.func4, Try.ntmps4
  go_wp2_with fail
  refine (awake1_any _).mono ?_
  rintro e w1 ⟨rfl, hb1⟩
  go_wp2_with fail
  refine (put_any _ _ (by rw [Hm.out]; omega)).mono ?_
  rintro e w2 ⟨rfl, hb2⟩
  go_wp2_with fail
  refine (check_any _ _ (by rw [Hm.out, hps]; omega)).mono ?_
  rintro e w3 ⟨rfl, hb3⟩
  rw [bytesOf_toList, hck]
  go_wp2_with (go_at_call 20; refine (num_any _ _).mono ?_; rintro e w' ⟨rfl, rfl⟩)
  have hB : w.heap.size ≤ w3.heap.size := (seqB (seqB hb1 hb2) hb3).size
  have hrow : RowIs (w3.alloc (.cells (bytesRow (bytesOf (put s.data.toList)) (grownCap w3 (s.size + 2) 0 5)) 5 ((bytesRow (bytesOf (put s.data.toList)) (grownCap w3 (s.size + 2) 0 5)).size, (bytesRow (bytesOf (put s.data.toList)) (grownCap w3 (s.size + 2) 0 5)).size + 1))).drew w3.heap.size 5 (put s.data.toList) := (rowIs_new w3 (bytesOf (put s.data.toList)) 5 _).drew
  have hbel : Below w.heap.size w (w3.alloc (.cells (bytesRow (bytesOf (put s.data.toList)) (grownCap w3 (s.size + 2) 0 5)) 5 ((bytesRow (bytesOf (put s.data.toList)) (grownCap w3 (s.size + 2) 0 5)).size, (bytesRow (bytesOf (put s.data.toList)) (grownCap w3 (s.size + 2) 0 5)).size + 1))).drew := drewB (allocB (seqB (seqB hb1 hb2) hb3) _)
  have hpl : (put s.data.toList).length = s.size + 2 := by rw [put_length, len_toList]
  have Hpl := Lib.hid hpl
  clear hck hq hcv hpl
  go_loopw [10] (fun i wr => ∃ (k : Nat) (l : List UInt8), k ≤ 3 ∧ k ≤ len1 ∧ i = .int .i64 k ∧ Hid (l = turns (8 * (s.size + 2)) zs k (put s.data.toList)) ∧ RowIs wr w3.heap.size 5 l ∧ Below w.heap.size w wr) (fun i _ => 3 - (intOf i).toNat)
  case atStart => exact ⟨0, _, by omega, by omega, rfl, rfl, hrow, hbel⟩
  case round =>
    clear hrow hbel
    obtain ⟨k, l, hk3, hkl, rfl, hl, hrow, hbel⟩ := hrel
    have hll : l.length = s.size + 2 := by rw [hl.out, turns_length, Hpl.out]
    have Hll := Lib.hid hll
    clear hll
    by_cases hk : k < len1
    · by_cases hk2 : k < 3
      · rcases hin with ⟨rfl, rfl, rfl, rfl⟩ | ⟨x, rfl, hlc, hcm, hz, hcell, hwz⟩
        · omega
        obtain ⟨b, off, spot⟩ := x
        have hc := hcell k (by omega)
        obtain rfl : spot = none := by
          have := World.cell?_spot (hcell 0 (by omega))
          simpa [Addr.add] using this
        have hc0 : wr.cell? ⟨b, off + k, none⟩ = some (.int .i64 (zs.getD k 0)) := by
          have hadd : (⟨b, off, none⟩ : Addr).add k = ⟨b, off + k, none⟩ := by unfold Addr.add; split <;> simp_all
          rw [hadd] at hc
          rw [hbel.cell (block_lt_of_cell hc)]; exact hc
        have hlen : len1 ≤ 9223372036854775807 := by rw [Hm.out] at hcm; omega
        clear hcell hwz hc hcm
        obtain ⟨p, hp⟩ : ∃ p, p = zs.getD k 0 := ⟨_, rfl⟩
        rw [← hp] at hc0
        have Hp := Lib.hid hp
        clear hp hz
        obtain ⟨q, hq⟩ : ∃ q : Nat, IntKind.u64.wrap p = (q : Int) := ⟨(p % 18446744073709551616).toNat, by rw [IntKind.wrap_u64]; omega⟩
        obtain ⟨kk, hkk, hkl, hkd⟩ : ∃ kk : Nat, (q : Int) % (8 * ((s.size : Int) + 2)) = (kk : Int) ∧ kk < 8 * (s.size + 2) ∧ kk = kOf p (8 * (s.size + 2)) := by
          refine ⟨q % (8 * (s.size + 2)), by rw [Int.natCast_emod, Int.natCast_mul, Int.natCast_add]; rfl, Nat.mod_lt _ (by omega), ?_⟩
          unfold kOf
          rw [IntKind.wrap_u64] at hq
          rw [hq]; rfl
        have Hkd := Lib.hid hkd
        clear hkd
        have hj : kk / 8 < l.length := by rw [Hll.out]; omega
        have hj2 : kk / 8 < s.size + 2 := by omega
        have hcl := hrow.cell hj
        have hfr := hrow.frozen hj
        have hq0 : (0 : Int) ≤ q := by omega
        have hn0 : (1 : Int) ≤ 8 * ((s.size : Int) + 2) := by omega
        obtain ⟨nb, hnb⟩ : ∃ nb : UInt8, nb = l[kk / 8] ^^^ (1 <<< UInt8.ofNat (kk % 8)) := ⟨_, rfl⟩
        have hxr : bits BinOp.xor IntKind.u8 (l[kk / 8].toNat : Int) ((2 : Int) ^ (kk % 8) % 256) = ((nb.toNat : Nat) : Int) := by
          have hp : ((2 : Int) ^ (kk % 8) % 256) = ((2 ^ (kk % 8) : Nat) : Int) := by
            have : ∀ j, j < 8 → ((2 : Int) ^ j % 256) = ((2 ^ j : Nat) : Int) := by decide
            exact this _ (by omega)
          have hp8 : 2 ^ (kk % 8) < 256 := by
            have : ∀ j, j < 8 → 2 ^ j < 256 := by decide
            exact this _ (by omega)
          rw [hp, hnb, UInt8.toNat_xor, one_shl _ (by omega), u8_xor_nat _ _ l[kk / 8].toNat_lt hp8]
        have Hnb := Lib.hid hnb
        clear hnb
        go_wp2_with fail
        go_region
        have hset := hrow.set hj nb
        have hturn : Hid (l.set (kk / 8) nb = turns (8 * (s.size + 2)) zs (k + 1) (put s.data.toList)) := by
          have e : turns (8 * (s.size + 2)) zs (k + 1) (put s.data.toList) = turn l kk := by
            rw [turns, ← hl.out, ← Hp.out, ← Hkd.out]
          rw [e, Hnb.out]; unfold turn
          rw [List.getD_eq_getElem?_getD, List.getElem?_eq_getElem hj]; exact rfl
        have hbs := hbel.setCell (p := ⟨w3.heap.size, kk / 8, none⟩) hB (.int .u8 ((nb.toNat : Nat) : Int))
        obtain ⟨l2, hl2⟩ : ∃ l2, l2 = l.set (kk / 8) nb := ⟨_, rfl⟩
        rw [← hl2] at hset hturn
        clear hl2
        go_wp2_with fail
        go_roundw
        case rel => exact ⟨k + 1, l2, by omega, by omega, by go_num, hturn, hset.drew, hbs.drew⟩
        case measure => simp [intOf]; omega
      · obtain rfl : k = 3 := by omega
        have hcvb := fun cap => hrow.conv (P := Try.prog) 33 9 Try.underlying33 Try.underlying5 Try.underlying9 (s.size + 2) cap Hll.out.symm
        by_cases hsame : l = put s.data.toList
        · have hq2 : ((bytesOf l).toList == (bytesOf (put s.data.toList)).toList) = true := ba_beq_true hsame
          clear hsame
          go_wp2_with fail
          refine (check_any _ _ (by rw [bytesOf_size, Hll.out, Hm.out]; omega)).mono ?_
          rintro e w5 ⟨rfl, hb5⟩
          go_wp2_with fail
          go_ret
          exact ⟨rfl, seqB hbel hb5⟩
        · have hq2 : ((bytesOf l).toList == (bytesOf (put s.data.toList)).toList) = false := ba_beq_false hsame
          have hc101 : chk l = ([], 101) := by
            have e : s.size + 2 = s.data.toList.length + 2 := by rw [len_toList]
            have h2 := chk_turns zs _ hk3 s.data.toList (by rw [len_toList]; exact h)
            rw [← e, ← hl.out] at h2
            exact h2 hsame
          clear hsame
          go_wp2_with fail
          refine (check_any _ _ (by rw [bytesOf_size, Hll.out, Hm.out]; omega)).mono ?_
          rintro e w5 ⟨rfl, hb5⟩
          rw [bytesOf_toList, hc101]
          go_wp2_with (go_at_call 20; refine (num_any _ _).mono ?_; rintro e w' ⟨rfl, rfl⟩)
          go_ret
          exact ⟨rfl, seqB hbel hb5⟩
    · obtain rfl : k = len1 := by omega
      have hcvb := fun cap => hrow.conv (P := Try.prog) 33 9 Try.underlying33 Try.underlying5 Try.underlying9 (s.size + 2) cap Hll.out.symm
      by_cases hsame : l = put s.data.toList
      · have hq2 : ((bytesOf l).toList == (bytesOf (put s.data.toList)).toList) = true := ba_beq_true hsame
        clear hsame
        go_wp2_with fail
        refine (check_any _ _ (by rw [bytesOf_size, Hll.out, Hm.out]; omega)).mono ?_
        rintro e w5 ⟨rfl, hb5⟩
        go_wp2_with fail
        go_ret
        exact ⟨rfl, seqB hbel hb5⟩
      · have hq2 : ((bytesOf l).toList == (bytesOf (put s.data.toList)).toList) = false := ba_beq_false hsame
        have hc101 : chk l = ([], 101) := by
          have e : s.size + 2 = s.data.toList.length + 2 := by rw [len_toList]
          have h2 := chk_turns zs _ hk3 s.data.toList (by rw [len_toList]; exact h)
          rw [← e, ← hl.out] at h2
          exact h2 hsame
        clear hsame
        go_wp2_with fail
        refine (check_any _ _ (by rw [bytesOf_size, Hll.out, Hm.out]; omega)).mono ?_
        rintro e w5 ⟨rfl, hb5⟩
        rw [bytesOf_toList, hc101]
        go_wp2_with (go_at_call 20; refine (num_any _ _).mono ?_; rintro e w' ⟨rfl, rfl⟩)
        go_ret
        exact ⟨rfl, seqB hbel hb5⟩
end Go.Proofs.Ythijchjdkicbdaa
