/- The console's hex, unhex, number: walked. -/
import Derived.Test.YteigigepmoicaaaGreatDoorShelfCon
import Derived.Test.YteigigepmoicaaaGreatDoorMg1
import Derived.Laws.BitsAllLaws
import Derived.BigQuiet
import Derived.Lib.AtoiErrMem
namespace Go.Proofs.YteigigepmoicaaaGreatDoor
open Go.RowKit
set_option linter.unusedVariables false
set_option linter.unusedSimpArgs false
theorem hexL_snoc (l : List UInt8) (c : UInt8) : hexL (l ++ [c]) = hexL l ++ [hexd (c.toNat / 16)] ++ [hexd (c.toNat % 16)] := by simp [hexL]
theorem hexL_length (l : List UInt8) : (hexL l).length = 2 * l.length := by
  induction l with
  | nil => rfl
  | cons c l ih =>
    rw [show hexL (c :: l) = hexd (c.toNat / 16) :: hexd (c.toNat % 16) :: hexL l from rfl, List.length_cons, List.length_cons, ih, List.length_cons]
    omega
theorem digs_at : ∀ n : Fin 16, ((⟨#[48, 49, 50, 51, 52, 53, 54, 55, 56, 57, 97, 98, 99, 100, 101, 102]⟩ : ByteArray)[n.val]'(n.isLt)) = hexd n.val := by decide +kernel
theorem digs_nat (n : Nat) (h : n < (⟨#[48, 49, 50, 51, 52, 53, 54, 55, 56, 57, 97, 98, 99, 100, 101, 102]⟩ : ByteArray).size) : (⟨#[48, 49, 50, 51, 52, 53, 54, 55, 56, 57, 97, 98, 99, 100, 101, 102]⟩ : ByteArray)[n].toNat = (hexd n).toNat := congrArg UInt8.toNat (digs_at ⟨n, h⟩)
theorem take_snoc (s : ByteArray) (k : Nat) (h : k < s.size) : s.data.toList.take (k + 1) = s.data.toList.take k ++ [s[k]] := by
  rw [List.take_succ_eq_append_getElem (by simpa using h)]; rfl
set_option maxHeartbeats 1000000 in
theorem chex_any (s : ByteArray) (w : World) (hs : 2 * s.size ≤ 140737488355328) :
    Calls Tryz.prog 62 #[.string s] w fun e w' => e = .returned (.string (bytesOf (hexM s.data.toList))) ∧ Below w.heap.size w w' := by
  by_cases h0 : s = ⟨#[]⟩
  · subst h0
    go_enter Tryz.func62, Tryz.ntmps62
    go_wp2_with fail
    go_ret
    exact ⟨rfl, Below.refl _ _⟩
  · have hne : s.toList.isEmpty = false := by
      rw [ba_toList]
      cases h : s.data.toList with
      | nil => exact absurd (congrArg ByteArray.mk (Array.toList_eq_nil_iff.1 h)) h0
      | cons c l => rfl
    have hx : hexM s.data.toList = hexL s.data.toList := by
      unfold hexM
      rw [if_neg]
      intro e
      apply h0
      cases s with
      | mk d =>
        simp only [List.isEmpty_iff, Array.toList_eq_nil_iff] at e
        rw [e]
    have HX := Lib.hid hx
    clear hx h0
    have hfr : BuildAt w.heap.size w.heap.size [] (w.alloc (.cells #[.pointer none, .slice none 0 0] 52)) := Lib.fresh_isBuilder _ _ w
    have hbl : Below w.heap.size w (w.alloc (.cells #[.pointer none, .slice none 0 0] 52)) := allocB (Below.refl _ _) _
    go_enter Tryz.func62, Tryz.ntmps62
    go_wp2_with fail
    go_loopw [9] (fun i wr => ∃ k : Nat, k ≤ s.size ∧ i = .int .i64 k ∧ BuildAt w.heap.size w.heap.size (hexL (s.data.toList.take k)) wr ∧ Below w.heap.size w wr) (fun i _ => s.size - (intOf i).toNat)
    case atStart => exact ⟨0, Nat.zero_le _, rfl, hfr, hbl⟩
    case round =>
      clear hfr hbl
      obtain ⟨k, hk, rfl, hib, hbl⟩ := hrel
      have hlen : (hexL (s.data.toList.take k)).length ≤ 2 * k := by
        rw [hexL_length, List.length_take]
        omega
      by_cases hlt : k < s.size
      · have hsz := hbl.size
        have Hst := Lib.hid (take_snoc s k hlt)
        have hlt2 := s[k].toNat_lt
        go_wp2_with fail
        rw [digs_nat]
        refine (writeByteAt w.heap.size w.heap.size _ _ _ hib (by omega) hsz).mono ?_
        rintro e w2 ⟨rfl, hib2, hbl2⟩
        have hsz2 := hbl2.size
        go_wp2_with fail
        rw [digs_nat]
        refine (writeByteAt w.heap.size w.heap.size _ _ _ hib2 (by rw [List.length_append]; simp; omega) (by omega)).mono ?_
        rintro e w3 ⟨rfl, hib3, hbl3⟩
        go_wp2_with fail
        go_roundw
        case rel =>
          refine ⟨k + 1, by omega, by go_num, ?_, (hbl.trans hbl2).trans hbl3⟩
          rw [Hst.out, hexL_snoc]; exact hib3
        case measure => simp [intOf]; omega
      · obtain rfl : k = s.size := by omega
        have hsz := hbl.size
        have e : s.data.toList.take s.size = s.data.toList := List.take_of_length_le (by simp)
        rw [e] at hib
        clear e
        go_wp2_with fail
        refine (builderStringAt w.heap.size w.heap.size _ _ hib hsz).mono ?_
        rintro e w1 ⟨rfl, hb1⟩
        go_wp2_with fail
        go_ret
        exact ⟨by rw [HX.out]; rfl, hbl.trans hb1⟩
/-! ### number -/
theorem trimMinus (s : ByteArray) (w : World) :
    Calls Tryz.prog 95 #[.string s, .string ⟨#[45]⟩] w fun e w' => e = .returned (.string (bytesOf (unsign s.data.toList))) ∧ w' = w := by
  refine (Any.strings_TrimPrefix lays101 s ⟨#[45]⟩ w).mono ?_
  rintro e w' ⟨rfl, rfl⟩
  refine ⟨?_, rfl⟩
  rw [show ((⟨#[45]⟩ : ByteArray).data.toList) = [45] from rfl, unsign_eq]
  rfl
theorem trimDigits (s : ByteArray) (w : World) (hs : s.size ≤ 9223372036854775807) :
    Calls Tryz.prog 96 #[.string s, .string ⟨#[48, 49, 50, 51, 52, 53, 54, 55, 56, 57]⟩] w fun e w' => e = .returned (.string (bytesOf (Lib.trimS s.data.toList digitsB))) ∧ Below w.heap.size w w' :=
  Any.strings_Trim_laid lays160 (by kernel_rfl) s _ w hs (by decide) (ascii_of_all (by decide))
theorem empty_list (l : List UInt8) : (bytesOf l).toList.isEmpty = l.isEmpty := by rw [ba_toList]; rfl
theorem atoiNum (s : ByteArray) (v : Int) (w : World) (hl : s.size ≤ 18) (h : Lib.atoi s.data.toList = some v) :
    Calls Tryz.prog 97 #[.string s] w fun e w' => e = .returned (.tuple #[.int .i64 v, .nilIface]) ∧ Below w.heap.size w w' := by
  refine (Any.strconv_Atoi lays172 s v hl h w).mono ?_
  rintro e w' ⟨rfl, t, rfl⟩
  exact ⟨rfl, Lib.bytesWorld_below _ _ _⟩
theorem unsign_length (l : List UInt8) : l.length ≤ (unsign l).length + 1 ∧ (unsign l).length ≤ l.length := by
  unfold unsign
  split
  · rw [List.length_drop]; omega
  · omega
set_option maxHeartbeats 1000000 in
theorem number_any (s : ByteArray) (w : World) (hs : s.size ≤ 9223372036854775807) :
    Calls Tryz.prog 74 #[.string s] w fun e w' => ∃ x, e = .returned (.tuple #[.int .i64 x, .bool (numM s.data.toList).isSome]) ∧ (∀ v, numM s.data.toList = some v → x = v) ∧ Below w.heap.size w w' := by
  obtain ⟨u, hu⟩ : ∃ u, unsign s.data.toList = u := ⟨_, rfl⟩
  have hul := unsign_length s.data.toList
  have hat := atoi_num s.data.toList
  have hnm : numM s.data.toList = if 1 ≤ u.length ∧ u.length ≤ 10 ∧ u.all digB = true then some (if s.data.toList.head? = some 45 then -(decVal 0 u : Int) else (decVal 0 u : Int)) else none := by unfold numM; rw [hu]
  have htm := trimMinus s
  rw [hu] at htm hul hat
  rw [len_toList] at hul
  have hus : (bytesOf u).size = u.length := bytesOf_size u
  by_cases h1 : u = []
  · have e0 : (bytesOf u).toList.isEmpty = true := by rw [empty_list, h1]; rfl
    have HN : Hid (numM s.data.toList = none) := Lib.hid (by rw [hnm, if_neg (by rw [h1]; simp)])
    clear h1 hnm hat hu
    go_enter Tryz.func74, Tryz.ntmps74
    go_wp2_with (go_at_call 95; refine (htm _).mono ?_; rintro e w' ⟨rfl, rfl⟩)
    go_ret2
    exact ⟨0, by rw [HN.out]; rfl, fun v h => (by rw [HN.out] at h; cases h), Below.refl _ _⟩
  · have e0 : (bytesOf u).toList.isEmpty = false := by rw [empty_list]; cases u with
      | nil => exact absurd rfl h1
      | cons c r => rfl
    have h1' : 1 ≤ u.length := List.length_pos_iff.2 h1
    by_cases h2 : 10 < u.length
    · have HN : Hid (numM s.data.toList = none) := Lib.hid (by rw [hnm, if_neg (by omega)])
      have e2 : (10 : Int) < (bytesOf u).size := by rw [hus]; omega
      clear h1 hnm hat hu
      go_enter Tryz.func74, Tryz.ntmps74
      go_wp2_with (go_at_call 95; refine (htm _).mono ?_; rintro e w' ⟨rfl, rfl⟩)
      go_ret2
      exact ⟨0, by rw [HN.out]; rfl, fun v h => (by rw [HN.out] at h; cases h), Below.refl _ _⟩
    · have e2 : ¬ (10 : Int) < (bytesOf u).size := by rw [hus]; omega
      have htd := fun w => trimDigits (bytesOf u) w (by rw [hus]; omega)
      have hx : (bytesOf u).data.toList = u := rfl
      rw [hx] at htd
      by_cases h3 : u.all digB = true
      · have e3 : (bytesOf (Lib.trimS u digitsB)).toList.isEmpty = true := by rw [empty_list, (trim_digits u).2 h3]; rfl
        have hat2 := hat h1' h3
        obtain ⟨v, hv⟩ : ∃ v : Int, (if s.data.toList.head? = some 45 then -(decVal 0 u : Int) else (decVal 0 u : Int)) = v := ⟨_, rfl⟩
        rw [hv] at hat2 hnm
        have HN : Hid (numM s.data.toList = some v) := Lib.hid (by rw [hnm, if_pos ⟨h1', by omega, h3⟩])
        have hac := fun w => atoiNum s v w (by omega) hat2
        clear h1 hnm hat hu hv hat2 h3 hx
        go_enter Tryz.func74, Tryz.ntmps74
        go_wp2_with (first
          | (go_at_call 95; refine (htm _).mono ?_; rintro e w' ⟨rfl, rfl⟩)
          | (go_at_call 96; refine (htd _).mono ?_; rintro e w2 ⟨rfl, hb2⟩)
          | (go_at_call 97; refine (hac _).mono ?_; rintro e w3 ⟨rfl, hb3⟩))
        go_quiet (fail)
        have hB3 := seqB hb2 hb3
        have hbn : Below w'.heap.size w' (w3.drewN nq) := ⟨hB3.os, hB3.tape, hB3.output, hB3.size, hB3.block⟩
        go_wp2_with fail
        go_ret2
        exact ⟨v, by rw [HN.out]; rfl, fun v' h => (by rw [HN.out] at h; exact Option.some.inj h), hbn⟩
      · have e3 : (bytesOf (Lib.trimS u digitsB)).toList.isEmpty = false := by
          rw [empty_list]
          cases hq : Lib.trimS u digitsB with
          | nil => exact absurd ((trim_digits u).1 hq) h3
          | cons c r => rfl
        have HN : Hid (numM s.data.toList = none) := Lib.hid (by rw [hnm, if_neg (by rintro ⟨_, _, h⟩; exact h3 h)])
        clear h1 hnm hat hu h3 hx
        go_enter Tryz.func74, Tryz.ntmps74
        go_wp2_with (first
          | (go_at_call 95; refine (htm _).mono ?_; rintro e w' ⟨rfl, rfl⟩)
          | (go_at_call 96; refine (htd _).mono ?_; rintro e w2 ⟨rfl, hb2⟩))
        go_ret2
        exact ⟨0, by rw [HN.out]; rfl, fun v h => (by rw [HN.out] at h; cases h), hb2⟩
end Go.Proofs.YteigigepmoicaaaGreatDoor
