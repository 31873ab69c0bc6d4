/- Contracts of package fcs: table, Of, Put, Check. -/
import Derived.Test.YteigigepmoicaaaGreatDoorRows
import Derived.Test.YteigigepmoicaaaGreatDoorCrc
import Derived.Test.YteigigepmoicaaaGreatDoorMg1
namespace Go.Proofs.YteigigepmoicaaaGreatDoor
open Go.RowKit Go.Crc

/-! ### table -/
def zrow : Array Value := Array.replicate 256 (.int .u16 0)
def tabK (k : Nat) : Array Value := ((List.range 256).map fun i => if i < k then Value.int .u16 (fit 8 i) else .int .u16 0).toArray
def tab : Array Value := tabK 256
theorem zero_tab (w : World) : (zeroValue 111).run Tryz.prog w = .ok (.agg zrow) w := by kernel_rfl
theorem tabK_zero : tabK 0 = zrow := by
  simp only [tabK, zrow, Nat.not_lt_zero, if_false]
  apply Array.ext
  · simp
  · intro i h1 h2; simp
theorem tabK_size (k : Nat) : (tabK k).size = 256 := by simp [tabK]
theorem tabK_get (k i : Nat) (h : i < 256) : (tabK k)[i]? = some (if i < k then Value.int .u16 (fit 8 i) else .int .u16 0) := by
  simp [tabK, h]
theorem tabK_set (k : Nat) (h : k < 256) : (tabK k).setIfInBounds k (.int .u16 (fit 8 k)) = tabK (k + 1) := by
  apply Array.ext_getElem?
  intro i
  rw [Array.getElem?_setIfInBounds]
  by_cases hi : i < 256
  · rw [tabK_get _ _ hi, tabK_size]
    by_cases e : k = i
    · subst e; simp [h]
      rw [tabK_get _ _ h]; simp
    · rw [if_neg e, tabK_get _ _ hi]
      by_cases h2 : i < k
      · simp [h2, show i < k + 1 from by omega]
      · simp [h2, show ¬ i < k + 1 from by omega]
  · have h1 : (tabK (k + 1))[i]? = none := by rw [Array.getElem?_eq_none_iff, tabK_size]; omega
    rw [h1, if_neg (by omega), Array.getElem?_eq_none_iff, tabK_size]; omega
theorem all_map (l : List Nat) (f : Nat → Value) (h : ∀ x, (f x).oneCell' = true) : (l.map f).toArray.all (·.oneCell') = true := by
  simp [h]
theorem tab_one : tab.all (·.oneCell') = true := all_map _ _ fun x => by split <;> rfl
theorem and1_u16 (x : Nat) (h : x < 65536) : bits BinOp.and IntKind.u16 (x : Int) 1 = ((x % 2 : Nat) : Int) := by
  have := u16_and_nat x 1 h (by omega)
  rw [nat_mask1] at this
  simpa using this
set_option maxHeartbeats 400000 in
set_option maxRecDepth 100000 in
theorem table_any (w : World) :
    Calls Tryz.prog 76 #[] w fun e w' => e = .returned (.agg tab) ∧ Below w.heap.size w w' := by
  have hz := zero_tab
  have htz := tabK_zero
  go_enter Tryz.func76, Tryz.ntmps76
  go_wp2
  go_loopw [4] (fun c wr => ∃ k : Nat, k ≤ 256 ∧ c = .int .i64 k ∧ wr = (w.alloc (.cells zrow 111)).alloc (.cells (tabK k) 111)) (fun c _ => 256 - (intOf c).toNat)
  case atStart => exact ⟨0, by omega, rfl, by rw [tabK_zero]⟩
  case round =>
    clear hz htz
    obtain ⟨k, hk, rfl, rfl⟩ := hrel
    by_cases hlt : k < 256
    · have hcell : (tabK k)[k]? = some (.int .u16 0) := by rw [tabK_get _ _ hlt]; simp
      have hset := Lib.hid (tabK_set k hlt)
      go_wp2
      go_loopw [3, 9] (fun x c wr => ∃ j : Nat, j ≤ 8 ∧ c = .int .i64 j ∧ x = .int .u16 (fit j k) ∧ wr = (w.alloc (.cells zrow 111)).alloc (.cells (tabK k) 111)) (fun _ c _ => 8 - (intOf c).toNat)
      case atStart => exact ⟨0, by omega, rfl, rfl, rfl⟩
      case round =>
        obtain ⟨j, hj, rfl, rfl, rfl⟩ := hrel
        by_cases hj8 : j < 8
        · have h1 : fit j k < 65536 := fit_lt j (by omega)
          clear hcell
          rcases Nat.mod_two_eq_zero_or_one (fit j k) with hp | hp
          · have ha : bits BinOp.and IntKind.u16 (fit j k : Int) 1 = 0 := by rw [and1_u16 _ h1, hp]; rfl
            have hs : Hid (fit j k / 2 = fit (j + 1) k) := by rw [fit_succ']; unfold fstep; rw [if_neg (by omega)]; exact rfl
            clear hp
            go_wp2
            go_roundw
            case rel => exact ⟨j + 1, by omega, by go_num, by rw [← hs.out]; go_num, trivial⟩
            case measure => simp [intOf]; omega
          · have ha : bits BinOp.and IntKind.u16 (fit j k : Int) 1 = 1 := by rw [and1_u16 _ h1, hp]; rfl
            have hx : bits BinOp.xor IntKind.u16 ((fit j k : Int) / 2) 33800 = ((fit j k / 2 ^^^ 33800 : Nat) : Int) := by
              have := u16_xor_nat (fit j k / 2) 33800 (by omega) (by omega)
              simpa using this
            have hs : Hid (fit j k / 2 ^^^ 33800 = fit (j + 1) k) := by rw [fit_succ']; unfold fstep; rw [if_pos hp]; exact rfl
            clear hp
            go_wp2
            go_roundw
            case rel => exact ⟨j + 1, by omega, by go_num, by rw [hs.out], trivial⟩
            case measure => simp [intOf]; omega
        · obtain rfl : j = 8 := by omega
          go_wp2
          go_roundw
          case rel => exact ⟨k + 1, by omega, by go_num, by rw [hset.out]⟩
          case measure => simp [intOf]; omega
    · obtain rfl : k = 256 := by omega
      have hsz : zrow.size = (tabK 256).size := by rw [tabK_size]; exact Array.size_replicate
      have H1 := Lib.hid hsz
      clear hsz
      go_wp2_with (first
        | (refine wpList_load_row rfl 111 _ rfl (w.heap.size + 1) rfl 111 (tabK 256) (0, 0) _ (heap_alloc2_new w _ _) Tryz.underlying111 rfl (by kernel_rfl) ?_)
        | (refine wpList_store_row rfl 111 _ _ rfl w.heap.size (tabK 256) rfl rfl 111 zrow (heap_alloc2_old w _ _) (by kernel_rfl) H1.out tab_one ?_))
      refine bodyPost_ret (results_cell_row rfl _ _ w.heap.size 111 tab (0, 0) _ rfl (setRow_heap _ _ _ _ _ _ (heap_alloc2_old w _ _)) Tryz.underlying111 rfl (by kernel_rfl)) rfl ⟨rfl, ?_⟩
      exact below_setRow (((Below.refl _ _).alloc (Nat.le_refl _) _).alloc (by simp) _) _ _ (Nat.le_refl _)

/-! ### Of -/
theorem tab_get (i : Nat) (h : i < 256) : tab[i]? = some (Value.int .u16 (fit 8 i)) := by
  have := tabK_get 256 i h
  simpa [tab, h] using this
theorem raw_take (s : ByteArray) (k : Nat) (h : k < s.size) : raw (s.data.toList.take (k + 1)) = (raw (s.data.toList.take k) / 256) ^^^ fit 8 ((raw (s.data.toList.take k) % 256) ^^^ s[k].toNat) := by
  have e : s.data.toList.take (k + 1) = s.data.toList.take k ++ [s[k]] := by
    rw [List.take_succ_eq_append_getElem (by simpa using h)]; rfl
  rw [e, raw_snoc, crcB_tab]
set_option maxHeartbeats 400000 in
set_option maxRecDepth 100000 in
theorem of_any (s : ByteArray) (w : World) (hs : s.size ≤ maxLen) :
    Calls Tryz.prog 60 #[.string s] w fun e w' => e = .returned (.int .i64 (fcs s.data.toList)) ∧ Below w.heap.size w w' := by
  unfold maxLen at hs
  have hz := zero_tab
  have hsz : Hid (zrow.size = tab.size) := by rw [tab, tabK_size]; exact Array.size_replicate
  go_enter Tryz.func60, Tryz.ntmps60
  go_wp2_with fail
  refine (table_any _).mono ?_
  rintro e w1 ⟨rfl, hb⟩
  go_wp2_with (refine wpList_store_new rfl 111 _ _ rfl tab rfl rfl 111 zrow (by kernel_rfl) hsz.out tab_one ?_)
  clear hz
  go_loop [4, 9] (fun x i => ∃ k c : Nat, k ≤ s.size ∧ i = .int .i64 k ∧ x = .int .u16 c ∧ Hid (c = raw (s.data.toList.take k))) (fun _ i => s.size - (intOf i).toNat)
  case atStart => exact ⟨0, 65535, Nat.zero_le _, rfl, rfl, rfl⟩
  case round =>
    obtain ⟨k, c, hk, rfl, rfl, hc⟩ := hrel
    have hc16 : c < 65536 := by have := raw_lt (s.data.toList.take k); rw [← hc.out] at this; exact this
    by_cases hlt : k < s.size
    · have hb8 : s[k].toNat < 256 := s[k].toNat_lt
      have hj : (c % 256) ^^^ s[k].toNat < 256 := Nat.xor_lt_two_pow (n := 8) (by omega) (by omega)
      have hf : fit 8 ((c % 256) ^^^ s[k].toNat) < 65536 := fit_lt 8 (by omega)
      have hn := raw_take s k hlt
      rw [← hc.out] at hn
      have hx1 : bits BinOp.xor IntKind.u8 ((c : Int) % 256) (s[k].toNat : Int) = (((c % 256) ^^^ s[k].toNat : Nat) : Int) := by
        have := u8_xor_nat (c % 256) s[k].toNat (by omega) hb8
        simpa using this
      have hcell := tab_get _ hj
      have hx2 : bits BinOp.xor IntKind.u16 ((c : Int) / 256) (fit 8 ((c % 256) ^^^ s[k].toNat) : Int) = (((c / 256) ^^^ fit 8 ((c % 256) ^^^ s[k].toNat) : Nat) : Int) := by
        have := u16_xor_nat (c / 256) _ (by omega) hf
        simpa using this
      have Hn := Lib.hid hn
      clear hn
      go_wp2
      go_round
      case rel => exact ⟨k + 1, _, by omega, by go_num, rfl, Hn.out.symm⟩
      case measure => simp [intOf]; omega
    · obtain rfl : k = s.size := by omega
      have hfc : c ^^^ 65535 < 65536 := Nat.xor_lt_two_pow (n := 16) (by omega) (by omega)
      have hx3 : bits BinOp.xor IntKind.u16 IntKind.u16.max (c : Int) = ((c ^^^ 65535 : Nat) : Int) := by
        have := u16_xor_nat 65535 c (by omega) (by omega)
        rw [Nat.xor_comm c, show IntKind.u16.max = 65535 from rfl]
        simpa using this
      have hfin : Hid (fcs s.data.toList = c ^^^ 65535) := by
        unfold fcs; rw [hc.out, List.take_of_length_le (by simp)]; exact rfl
      go_wp2
      go_ret
      exact ⟨by rw [hfin.out]; show Ending.returned (Value.int .i64 (wrap64 _)) = _; rw [IntWalk.wrap64_in _ ⟨by omega, by omega⟩], hb.trans (((Below.refl _ _).alloc (Nat.le_refl _) _).mono hb.size)⟩

/-! ### Put, Check -/
set_option maxHeartbeats 400000 in
set_option maxRecDepth 100000 in
theorem put_any (s : ByteArray) (w : World) (hs : s.size + 2 ≤ maxLen) :
    Calls Tryz.prog 80 #[.string s] w fun e w' => e = .returned (.string (bytesOf (put s.data.toList))) ∧ Below w.heap.size w w' := by
  unfold maxLen at hs
  have hf := fcs_lt s.data.toList
  have hcv : ∀ (w : World) (a b : Int), (convert 27 9 (.slice (some ⟨w.heap.size, 0, none⟩) 2 2)).run Tryz.prog (w.alloc (.cells #[.int .u8 a, .int .u8 b] 5)) = .ok (.string (strOfNums [a, b])) (w.alloc (.cells #[.int .u8 a, .int .u8 b] 5)) :=
    fun w a b => conv_row w _ _ _ Tryz.underlying27 Tryz.underlying5 Tryz.underlying9 [a, b] 2 rfl
  go_enter Tryz.func80, Tryz.ntmps80
  go_wp2_with fail
  refine (of_any _ _ (by unfold maxLen; omega)).mono ?_
  rintro e w1 ⟨rfl, hb⟩
  have hs2 : ∀ a b : Int, (strOfNums [a, b]).size = 2 := fun a b => strOfNums_size _
  go_wp2
  go_ret
  refine ⟨?_, hb.trans (((Below.refl _ _).alloc (Nat.le_refl _) _).mono hb.size)⟩
  show Ending.returned (Value.string _) = _
  congr 2

/-- what Check answers -/
def chk (l : List UInt8) : List UInt8 × Int :=
  if l.length < 2 then ([], 100) else if put (l.take (l.length - 2)) = l then (l.take (l.length - 2), 0) else ([], 101)
set_option maxHeartbeats 400000 in
set_option maxRecDepth 100000 in
theorem check_any (s : ByteArray) (w : World) (hs : s.size ≤ maxLen) :
    Calls Tryz.prog 83 #[.string s] w fun e w' => e = .returned (.tuple #[.string (bytesOf (chk s.data.toList).1), .int .i64 (chk s.data.toList).2]) ∧ Below w.heap.size w w' := by
  unfold maxLen at hs
  have hsz : s.data.toList.length = s.size := len_toList s
  by_cases h2 : s.size < 2
  · have hc : Hid (chk s.data.toList = ([], 100)) := by unfold chk; rw [if_pos (by omega)]; exact rfl
    clear hsz
    go_enter Tryz.func83, Tryz.ntmps83
    go_wp2
    go_ret2
    exact ⟨by rw [hc.out]; rfl, Below.refl _ _⟩
  · have hps := prefix_size s (s.size - 2) (by omega)
    have Hps := Lib.hid hps
    clear hps
    by_cases hp : put (s.data.toList.take (s.data.toList.length - 2)) = s.data.toList
    · have hc : Hid (chk s.data.toList = (s.data.toList.take (s.size - 2), 0)) := by unfold chk; rw [if_neg (by omega), if_pos hp, hsz]; exact rfl
      have hq : ((bytesOf (put (s.data.toList.take (s.size - 2)))).toList == s.toList) = true := ba_beq_true (by rw [hsz] at hp; exact hp)
      clear hsz hp
      go_enter Tryz.func83, Tryz.ntmps83
      go_wp2_with fail
      refine (put_any _ _ (by unfold maxLen; rw [Hps.out]; omega)).mono ?_
      rintro e w1 ⟨rfl, hb⟩
      rw [prefix_toList]
      go_wp2
      go_ret2
      exact ⟨by rw [hc.out, ← prefix_bytes]; rfl, hb⟩
    · have hc : Hid (chk s.data.toList = ([], 101)) := by unfold chk; rw [if_neg (by omega), if_neg hp]; exact rfl
      have hq : ((bytesOf (put (s.data.toList.take (s.size - 2)))).toList == s.toList) = false := ba_beq_false (by rw [hsz] at hp; exact hp)
      clear hsz hp
      go_enter Tryz.func83, Tryz.ntmps83
      go_wp2_with fail
      refine (put_any _ _ (by unfold maxLen; rw [Hps.out]; omega)).mono ?_
      rintro e w1 ⟨rfl, hb⟩
      rw [prefix_toList]
      go_wp2
      go_ret2
      exact ⟨by rw [hc.out]; rfl, hb⟩
end Go.Proofs.YteigigepmoicaaaGreatDoor
