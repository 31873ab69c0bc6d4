/- policy: unit, May, number, value, size, right. policy: number of four bytes, value, size, right; a side's methods. policy: a side's methods. Slices of options; opts.Find. policy: kinds, Ask. -/
import Derived.Test.YtagnbdenecphcaaDoorMb
import Derived.Test.YtagnbdenecphcaaDoorMa
import Derived.Outline
import Derived.StillTailTactics
import Derived.Deep.RegionWith
/-! policy: unit, May, number, value, size, right. -/
namespace Go.Proofs.YtagnbdenecphcaaDoor
open Go.RowKit
set_option linter.unusedVariables false
def linkCells (l : LinkM) : Array Value := #[.int .i64 l.mru, .int .i64 l.magic, .int .i64 l.mrru, .bool l.short, .string l.disc, .int .i64 l.num]
theorem unitM_true {x : Int} (h1 : 128 ≤ x) (h2 : x ≤ 1500) : unitM x = true := by unfold unitM; simp [h1, h2]
theorem unitM_iff (x : Int) : unitM x = true ↔ 128 ≤ x ∧ x ≤ 1500 := by unfold unitM; simp
theorem unitM_false (x : Int) : unitM x = false ↔ x < 128 ∨ 1500 < x := by
  rw [← Bool.not_eq_true, unitM_iff]; omega
theorem punit_any (x : Int) (w : World) : Calls Tryd.prog 31 #[.int .i64 x] w fun e w' => e = .returned (.bool (unitM x)) ∧ w = w' := by
  go_enter Tryd.func31, Tryd.ntmps31
  go_wp2_with fail
  all_goals
    go_ret
    refine ⟨?_, rfl⟩
    show Ending.returned (Value.bool _) = Ending.returned (Value.bool _)
    congr 2
    symm
    first
    | (rw [unitM_false]; omega)
    | (unfold unitM; simp; omega)
    | (rw [unitM_iff]; omega)
set_option maxHeartbeats 1000000 in
theorem pmay_any (l : LinkM) (w : World) : Calls Tryd.prog 23 #[.agg (linkCells l)] w fun e w' => e = .returned (.bool (mayM l)) ∧ Below w.heap.size w w' := by
  unfold linkCells
  go_enter Tryd.func23, Tryd.ntmps23
  go_wp2_with (go_at_call 31; refine (punit_any _ _).mono ?_; rintro e w' ⟨rfl, rfl⟩)
  all_goals
    go_ret
    refine ⟨?_, allocB (Below.refl _ _) _⟩
    show Ending.returned (Value.bool _) = Ending.returned (Value.bool _)
    congr 2
    symm
    have hd : ((l.disc.size : Int) ≤ 20) = (l.disc.size ≤ 20) := by simp only [eq_iff_iff]; omega
    have hd2 : ((20 : Int) < l.disc.size) = ¬ (l.disc.size ≤ 20) := by simp only [eq_iff_iff]; omega
    unfold mayM
    simp_all
    try omega
theorem byte_of (x : Int) (h : 0 ≤ x) : ((UInt8.ofNat (x % 256).toNat).toNat : Int) = x % 256 := by
  have e : (2 : Nat) ^ 8 = 256 := by decide
  rw [UInt8.toNat_ofNat', e]
  omega
theorem numB2 (x : Int) : numB x 2 = [UInt8.ofNat (x / 256 % 256).toNat, UInt8.ofNat (x % 256).toNat] := by
  unfold numB
  simp [List.range_succ]
theorem numB4 (x : Int) : numB x 4 = [UInt8.ofNat (x / 16777216 % 256).toNat, UInt8.ofNat (x / 65536 % 256).toNat, UInt8.ofNat (x / 256 % 256).toNat, UInt8.ofNat (x % 256).toNat] := by
  unfold numB
  simp [List.range_succ]
theorem byteCells_one (x : Int) (h : 0 ≤ x) : #[Value.int .u8 (x % 256)] = (Lib.byteCells [UInt8.ofNat (x % 256).toNat]).toArray := by
  have := byte_of x h
  show #[Value.int .u8 (x % 256)] = #[Value.int .u8 ((UInt8.ofNat (x % 256).toNat).toNat : Int)]
  rw [this]
set_option maxHeartbeats 1000000 in
theorem number2_any (x : Int) (w : World) (h0 : 0 ≤ x) (h1 : x ≤ 4294967295) : Calls Tryd.prog 64 #[.int .i64 x, .int .i64 2] w fun e w' => e = .returned (.string (bytesOf (numB x 2))) ∧ Below w.heap.size w w' := by
  have HN := Lib.hid (numB2 x)
  go_enter Tryd.func64, Tryd.ntmps64
  go_wp2_with fail
  go_loopw [5, 6] (fun v i wr => Below w.heap.size w wr ∧ ((i = .int .i64 1 ∧ Own wr w.heap.size v []) ∨ (i = .int .i64 0 ∧ Own wr w.heap.size v [UInt8.ofNat (x / 256 % 256).toNat]) ∨ (i = .int .i64 (-1) ∧ Own wr w.heap.size v [UInt8.ofNat (x / 256 % 256).toNat, UInt8.ofNat (x % 256).toNat]))) (fun _ i _ => (intOf i + 1).toNat)
  case atStart => exact ⟨Below.refl _ _, .inl ⟨rfl, Own.nil _ _⟩⟩
  case round =>
    obtain ⟨hbl, ⟨rfl, hown⟩ | ⟨rfl, hown⟩ | ⟨rfl, hown⟩⟩ := hrel
    · go_wp2_with (at_builtin; refine wpList_app rfl _ _ rfl w _ _ [UInt8.ofNat (x / 256 % 256).toNat] 1 1 _ hown rfl rfl (byteCells_one (x / 256) (by omega)) rfl (by simp) hbl ?_; intro v' w5 hown3 hbl3)
      go_roundw
      case rel => exact ⟨hbl3, .inr (.inl ⟨rfl, hown3⟩)⟩
      case measure => simp [intOf]
    · go_wp2_with (at_builtin; refine wpList_app rfl _ _ rfl w _ _ [UInt8.ofNat (x % 256).toNat] 1 1 _ hown rfl rfl (byteCells_one x (by omega)) rfl (by simp) hbl ?_; intro v' w5 hown3 hbl3)
      go_roundw
      case rel => exact ⟨hbl3, .inr (.inr ⟨rfl, hown3⟩)⟩
      case measure => simp [intOf]
    · have hcv := hown.conv
      go_wp2_with fail
      go_ret
      exact ⟨by rw [HN.out]; rfl, hbl⟩
end Go.Proofs.YtagnbdenecphcaaDoor
/-! policy: number of four bytes, value, size, right; a side's methods. -/
namespace Go.Proofs.YtagnbdenecphcaaDoor
open Go.RowKit
set_option linter.unusedVariables false
theorem byteCells_top (x : Int) (h : 0 ≤ x) (h2 : x < 256) : #[Value.int .u8 x] = (Lib.byteCells [UInt8.ofNat (x % 256).toNat]).toArray := by
  rw [← byteCells_one x h, Int.emod_eq_of_lt h h2]
set_option maxRecDepth 100000 in
set_option maxHeartbeats 4000000 in
theorem number4_any (x : Int) (w : World) (h0 : 0 ≤ x) (h1 : x ≤ 4294967295) : Calls Tryd.prog 64 #[.int .i64 x, .int .i64 4] w fun e w' => e = .returned (.string (bytesOf (numB x 4))) ∧ Below w.heap.size w w' := by
  have HN := Lib.hid (numB4 x)
  go_enter Tryd.func64, Tryd.ntmps64
  go_wp2_with fail
  go_loopw [5, 6] (fun v i wr => Below w.heap.size w wr ∧ ((i = .int .i64 3 ∧ Own wr w.heap.size v []) ∨ (i = .int .i64 2 ∧ Own wr w.heap.size v [UInt8.ofNat (x / 16777216 % 256).toNat]) ∨ (i = .int .i64 1 ∧ Own wr w.heap.size v [UInt8.ofNat (x / 16777216 % 256).toNat, UInt8.ofNat (x / 65536 % 256).toNat]) ∨ (i = .int .i64 0 ∧ Own wr w.heap.size v [UInt8.ofNat (x / 16777216 % 256).toNat, UInt8.ofNat (x / 65536 % 256).toNat, UInt8.ofNat (x / 256 % 256).toNat]) ∨ (i = .int .i64 (-1) ∧ Own wr w.heap.size v [UInt8.ofNat (x / 16777216 % 256).toNat, UInt8.ofNat (x / 65536 % 256).toNat, UInt8.ofNat (x / 256 % 256).toNat, UInt8.ofNat (x % 256).toNat]))) (fun _ i _ => (intOf i + 1).toNat)
  case atStart => exact ⟨Below.refl _ _, .inl ⟨rfl, Own.nil _ _⟩⟩
  case round =>
    obtain ⟨hbl, ⟨rfl, hown⟩ | ⟨rfl, hown⟩ | ⟨rfl, hown⟩ | ⟨rfl, hown⟩ | ⟨rfl, hown⟩⟩ := hrel
    · go_wp2_with (at_builtin; refine wpList_app rfl _ _ rfl w _ _ [UInt8.ofNat (x / 16777216 % 256).toNat] 1 1 _ hown rfl rfl (byteCells_top (x / 16777216) (by omega) (by omega)) rfl (by simp) hbl ?_; intro v' w5 hown3 hbl3)
      go_roundw
      case rel => exact ⟨hbl3, .inr (.inl ⟨rfl, hown3⟩)⟩
      case measure => simp [intOf]
    · go_wp2_with (at_builtin; refine wpList_app rfl _ _ rfl w _ _ [UInt8.ofNat (x / 65536 % 256).toNat] 1 1 _ hown rfl rfl (byteCells_one (x / 65536) (by omega)) rfl (by simp) hbl ?_; intro v' w5 hown3 hbl3)
      go_roundw
      case rel => exact ⟨hbl3, .inr (.inr (.inl ⟨rfl, hown3⟩))⟩
      case measure => simp [intOf]
    · go_wp2_with (at_builtin; refine wpList_app rfl _ _ rfl w _ _ [UInt8.ofNat (x / 256 % 256).toNat] 1 1 _ hown rfl rfl (byteCells_one (x / 256) (by omega)) rfl (by simp) hbl ?_; intro v' w5 hown3 hbl3)
      go_roundw
      case rel => exact ⟨hbl3, .inr (.inr (.inr (.inl ⟨rfl, hown3⟩)))⟩
      case measure => simp [intOf]
    · go_wp2_with (at_builtin; refine wpList_app rfl _ _ rfl w _ _ [UInt8.ofNat (x % 256).toNat] 1 1 _ hown rfl rfl (byteCells_one x (by omega)) rfl (by simp) hbl ?_; intro v' w5 hown3 hbl3)
      go_roundw
      case rel => exact ⟨hbl3, .inr (.inr (.inr (.inr ⟨rfl, hown3⟩)))⟩
      case measure => simp [intOf]
    · have hcv := hown.conv
      go_wp2_with fail
      go_ret
      exact ⟨by rw [HN.out]; rfl, hbl⟩
theorem valueM_succ (s : ByteArray) (k : Nat) (h : k < s.size) : valueM (s.data.toList.take (k + 1)) = valueStep (valueM (s.data.toList.take k)) s[k] := by
  unfold valueM
  rw [List.take_succ_eq_append_getElem (by simpa using h), List.foldl_append]; rfl
set_option maxHeartbeats 2000000 in
theorem value_any (s : ByteArray) (w : World) (hs : s.size ≤ 9223372036854775807) : Calls Tryd.prog 70 #[.string s] w fun e w' => e = .returned (.int .i64 (valueM s.data.toList)) ∧ w = w' := by
  go_enter Tryd.func70, Tryd.ntmps70
  go_wp2_with fail
  go_loop [3, 7] (fun x i => ∃ k : Nat, k ≤ s.size ∧ i = .int .i64 k ∧ x = .int .i64 (valueM (s.data.toList.take k))) (fun _ i => s.size - (intOf i).toNat)
  case atStart => exact ⟨0, Nat.zero_le _, rfl, rfl⟩
  case round =>
    obtain ⟨k, hk, rfl, rfl⟩ := hrel
    obtain ⟨v, hv⟩ : ∃ v, valueM (s.data.toList.take k) = v := ⟨_, rfl⟩
    by_cases hlt : k < s.size
    · rw [hv]
      have HV := Lib.hid hv
      clear hv
      go_wp2_with fail
      go_round
      case rel =>
        refine ⟨k + 1, by omega, by go_num, ?_⟩
        have hb := s[k].toNat_lt
        rw [valueM_succ s k hlt, HV.out, IntWalk.wrap64_in (s[k].toNat : Int) ⟨by omega, by omega⟩]
        rfl
      case measure => simp [intOf]; omega
    · obtain rfl : k = s.size := by omega
      have hv2 : valueM s.data.toList = v := by rw [← hv, List.take_of_length_le (by simp)]
      rw [hv]
      have HV := Lib.hid hv2
      clear hv hv2
      go_wp2_with fail
      go_ret
      exact ⟨by rw [HV.out]; rfl, rfl⟩
theorem size_any (k : Int) (w : World) : Calls Tryd.prog 65 #[.int .i64 k] w fun e w' => e = .returned (.int .i64 (sizeM k)) ∧ w = w' := by
  go_enter Tryd.func65, Tryd.ntmps65
  go_wp2_with fail
  all_goals
    go_ret
    refine ⟨?_, rfl⟩
    show Ending.returned (Value.int .i64 _) = Ending.returned (Value.int .i64 _)
    congr 2
    unfold sizeM
    simp_all
set_option maxHeartbeats 1000000 in
theorem right_any (o : OptM) (w : World) : Calls Tryd.prog 53 #[.agg #[.int .i64 o.1, .string o.2]] w fun e w' => e = .returned (.bool (rightM o)) ∧ Below w.heap.size w w' := by
  obtain ⟨z, hz⟩ : ∃ z, sizeM o.1 = z := ⟨_, rfl⟩
  have hsz := fun w => size_any o.1 w
  rw [hz] at hsz
  have HR : Hid (rightM o = (decide (z = (o.2.size : Int)) || (decide (z = -1) && decide (1 ≤ o.2.size) && decide (o.2.size ≤ 20)))) := Lib.hid (by unfold rightM; rw [hz])
  clear hz
  go_enter Tryd.func53, Tryd.ntmps53
  go_wp2_with (go_at_call 65; refine (hsz _).mono ?_; rintro e w' ⟨rfl, rfl⟩)
  all_goals
    go_ret
    refine ⟨?_, allocB (Below.refl _ _) _⟩
    rw [HR.out]
    show Ending.returned (Value.bool _) = Ending.returned (Value.bool _)
    congr 2
    symm
    rw [Bool.eq_iff_iff]
    simp only [Bool.or_eq_true, Bool.and_eq_true, decide_eq_true_eq]
    try simp
    try omega
end Go.Proofs.YtagnbdenecphcaaDoor
/-! policy: a side's methods. -/
namespace Go.Proofs.YtagnbdenecphcaaDoor
open Go.RowKit
set_option linter.unusedVariables false
/-- block p holds a side -/
def SideAt (w : World) (p : Nat) (l : LinkM) : Prop := w.heap[p]? = some (.cells (linkCells l) 103 (0, 0))
theorem SideAt.below {w w' : World} {p : Nat} {l : LinkM} (h : SideAt w p l) (hb : Below w.heap.size w w') : SideAt w' p l := below_of hb h
theorem SideAt.lt {w : World} {p : Nat} {l : LinkM} (h : SideAt w p l) : p < w.heap.size := (Array.getElem?_eq_some_iff.1 h).1
theorem SideAt.cells {w : World} {p : Nat} {l : LinkM} (h : SideAt w p l) : w.cell? ⟨p, 0, none⟩ = some (.int .i64 l.mru) ∧ w.cell? ⟨p, 1, none⟩ = some (.int .i64 l.magic) ∧ w.cell? ⟨p, 2, none⟩ = some (.int .i64 l.mrru) ∧ w.cell? ⟨p, 3, none⟩ = some (.bool l.short) ∧ w.cell? ⟨p, 4, none⟩ = some (.string l.disc) ∧ w.cell? ⟨p, 5, none⟩ = some (.int .i64 l.num) := by
  unfold SideAt at h
  simp [World.cell?, h, linkCells]
theorem SideAt.frozen {w : World} {p : Nat} {l : LinkM} (h : SideAt w p l) (i : Nat) : w.frozen? ⟨p, i, none⟩ = false := by
  unfold SideAt at h
  simp [World.frozen?, h]
/-- where the number of a kind lies -/
def fieldOff (k : Int) : Option Nat := if k = 1 then some 0 else if k = 5 then some 1 else if k = 17 then some 2 else if k = 23 then some 5 else none
theorem field_any (p : Nat) (k : Int) (w : World) : Calls Tryd.prog 63 #[.pointer (some ⟨p, 0, none⟩), .int .i64 k] w fun e w' => e = .returned (.pointer ((fieldOff k).map fun i => ⟨p, i, none⟩)) ∧ w = w' := by
  go_enter Tryd.func63, Tryd.ntmps63
  go_wp2_with fail
  all_goals
    go_ret
    refine ⟨?_, rfl⟩
    unfold fieldOff
    simp_all
theorem fieldOff_cell {w : World} {p : Nat} {l : LinkM} (h : SideAt w p l) {k : Int} {i : Nat} (hk : fieldOff k = some i) : ∃ x, fieldM l k = some x ∧ w.cell? ⟨p, i, none⟩ = some (.int .i64 x) := by
  obtain ⟨h0, h1, h2, h3, h4, h5⟩ := h.cells
  unfold fieldOff at hk
  unfold fieldM
  repeat' split at hk
  all_goals (first | cases hk | skip)
  all_goals simp_all
theorem fieldM_none {l : LinkM} {k : Int} (hk : fieldOff k = none) : fieldM l k = none := by
  unfold fieldOff at hk
  unfold fieldM
  repeat' split at hk
  all_goals (first | cases hk | skip)
  all_goals simp_all
set_option maxHeartbeats 1000000 in
theorem asks_any (p : Nat) (l : LinkM) (k : Int) (w : World) (h : SideAt w p l) : Calls Tryd.prog 56 #[.pointer (some ⟨p, 0, none⟩), .int .i64 k] w fun e w' => e = .returned (.bool (asksM l k)) ∧ w = w' := by
  obtain ⟨h0, h1, h2, h3, h4, h5⟩ := h.cells
  by_cases k18 : k = 18
  · subst k18
    go_enter Tryd.func56, Tryd.ntmps56
    go_wp2_with fail
    go_ret
    exact ⟨rfl, rfl⟩
  · by_cases k19 : k = 19
    · subst k19
      have HA : Hid (asksM l 19 = !l.disc.toList.isEmpty) := Lib.hid (by
        unfold asksM
        rw [if_neg (by decide), if_pos rfl, ba_toList]
        cases e : l.disc.data.toList <;> simp)
      clear k18
      go_enter Tryd.func56, Tryd.ntmps56
      go_wp2_with fail
      go_ret
      exact ⟨by rw [HA.out]; rfl, rfl⟩
    · have q18 : (k == 18) = false := beq_eq_false_iff_ne.2 k18
      have q19 : (k == 19) = false := beq_eq_false_iff_ne.2 k19
      cases hf : fieldOff k with
      | none =>
        have HA : Hid (asksM l k = false) := Lib.hid (by unfold asksM; rw [if_neg k18, if_neg k19, fieldM_none hf])
        have HC := fun w => field_any p k w
        rw [hf] at HC
        clear k18 k19 hf
        go_enter Tryd.func56, Tryd.ntmps56
        go_wp2_with fail
        refine (HC _).mono ?_
        rintro e w' ⟨rfl, rfl⟩
        go_wp2_with fail
        go_ret
        exact ⟨by rw [HA.out]; rfl, rfl⟩
      | some i =>
        obtain ⟨x, hx, hc⟩ := fieldOff_cell h hf
        have HA : Hid (asksM l k = (x != 0)) := Lib.hid (by unfold asksM; rw [if_neg k18, if_neg k19, hx]; rw [Bool.eq_iff_iff]; simp)
        have HC := fun w => field_any p k w
        rw [hf] at HC
        clear k18 k19 hf hx
        go_enter Tryd.func56, Tryd.ntmps56
        go_wp2_with fail
        refine (HC _).mono ?_
        rintro e w' ⟨rfl, rfl⟩
        go_wp2_with fail
        go_ret
        exact ⟨by rw [HA.out]; rfl, rfl⟩
theorem side_set {w : World} {p : Nat} {l : LinkM} (h : SideAt w p l) (i : Nat) (x : Value) (l' : LinkM) (he : (linkCells l).setIfInBounds i x = linkCells l') : SideAt (w.setCell ⟨p, i, none⟩ x) p l' := by
  have := heap_setCell_same w p i (linkCells l) 103 x h
  rw [he] at this
  exact this
theorem putF_cells (l : LinkM) (k x : Int) (i : Nat) (hk : fieldOff k = some i) : (linkCells l).setIfInBounds i (.int .i64 x) = linkCells (putF l k x) := by
  unfold fieldOff at hk
  unfold putF
  repeat' split at hk
  all_goals (first | cases hk | skip)
  all_goals simp_all [linkCells]
theorem only_set (w : World) (p i : Nat) (x : Value) : Only (· = p) w (w.setCell ⟨p, i, none⟩ x) := (Only.refl (· = p) w).set (a := ⟨p, i, none⟩) (.inl rfl) x
set_option maxHeartbeats 1000000 in
theorem clear_any (p : Nat) (l : LinkM) (k : Int) (w : World) (h : SideAt w p l) (hk : k = 18 ∨ k = 19 ∨ ∃ i, fieldOff k = some i) : Calls Tryd.prog 57 #[.pointer (some ⟨p, 0, none⟩), .int .i64 k] w fun e w' => e = .returned (.tuple #[]) ∧ SideAt w' p (clearM l k) ∧ Only (· = p) w w' := by
  obtain ⟨h0, h1, h2, h3, h4, h5⟩ := h.cells
  have f3 := h.frozen 3
  have f4 := h.frozen 4
  by_cases k18 : k = 18
  · subst k18
    clear hk
    have hs := side_set h 3 (.bool false) (clearM l 18) rfl
    go_enter Tryd.func57, Tryd.ntmps57
    go_wp2_with fail
    go_end0
    exact ⟨rfl, hs, only_set _ _ _ _⟩
  · by_cases k19 : k = 19
    · subst k19
      clear hk k18
      have hs := side_set h 4 (.string ⟨#[]⟩) (clearM l 19) rfl
      go_enter Tryd.func57, Tryd.ntmps57
      go_wp2_with fail
      go_end0
      exact ⟨rfl, hs, only_set _ _ _ _⟩
    · obtain ⟨i, hf⟩ : ∃ i, fieldOff k = some i := by
        rcases hk with hk | hk | hk
        · exact absurd hk k18
        · exact absurd hk k19
        · exact hk
      have q18 : (k == 18) = false := beq_eq_false_iff_ne.2 k18
      have q19 : (k == 19) = false := beq_eq_false_iff_ne.2 k19
      obtain ⟨x, hx, hc⟩ := fieldOff_cell h hf
      have hfi := h.frozen i
      have HC := fun w => field_any p k w
      have hs := side_set h i (.int .i64 0) (clearM l k) (by rw [putF_cells l k 0 i hf]; unfold clearM; rw [if_neg k18, if_neg k19])
      rw [hf] at HC
      clear hk k18 k19 hf hx
      go_enter Tryd.func57, Tryd.ntmps57
      go_wp2_with fail
      refine (HC _).mono ?_
      rintro e w' ⟨rfl, rfl⟩
      go_wp2_with fail
      go_end0
      exact ⟨rfl, hs, only_set _ _ _ _⟩
set_option maxRecDepth 100000 in
set_option maxHeartbeats 1000000 in
theorem set_any (p : Nat) (l : LinkM) (o : OptM) (w : World) (h : SideAt w p l) (hk : o.1 = 18 ∨ o.1 = 19 ∨ ∃ i, fieldOff o.1 = some i) (hz : o.2.size ≤ 9223372036854775807) : Calls Tryd.prog 66 #[.pointer (some ⟨p, 0, none⟩), .agg #[.int .i64 o.1, .string o.2]] w fun e w' => e = .returned (.tuple #[]) ∧ SideAt w' p (setM l o) ∧ Only (· = p) w w' := by
  obtain ⟨k, d⟩ := o
  simp only at hk hz ⊢
  have hb := (Below.refl w.heap.size w).alloc (Nat.le_refl _) (.cells #[.int .i64 k, .string d] 79)
  have ha := h.below hb
  have hO : Only (· = p) w (w.alloc (.cells #[.int .i64 k, .string d] 79)) := (Only.refl _ _).alloc _
  obtain ⟨h0, h1, h2, h3, h4, h5⟩ := ha.cells
  have f3 := ha.frozen 3
  have f4 := ha.frozen 4
  have hpl := h.lt
  by_cases k18 : k = 18
  · subst k18
    clear hk
    have hs := (side_set h 3 (.bool true) (setM l (18, d)) rfl).below ((Below.refl _ _).alloc (Nat.le_refl _) (.cells #[.int .i64 18, .string d] 79))
    go_enter Tryd.func66, Tryd.ntmps66
    go_wp2_with fail
    go_end0
    exact ⟨rfl, hs, (only_set _ _ _ _).alloc _⟩
  · by_cases k19 : k = 19
    · subst k19
      clear hk k18
      have hs := (side_set h 4 (.string d) (setM l (19, d)) rfl).below ((Below.refl _ _).alloc (Nat.le_refl _) (.cells #[.int .i64 19, .string d] 79))
      go_enter Tryd.func66, Tryd.ntmps66
      go_wp2_with fail
      go_end0
      exact ⟨rfl, hs, (only_set _ _ _ _).alloc _⟩
    · obtain ⟨i, hf⟩ : ∃ i, fieldOff k = some i := by
        rcases hk with hk | hk | hk
        · exact absurd hk k18
        · exact absurd hk k19
        · exact hk
      have q18 : (k == 18) = false := beq_eq_false_iff_ne.2 k18
      have q19 : (k == 19) = false := beq_eq_false_iff_ne.2 k19
      obtain ⟨x, hx, hc⟩ := fieldOff_cell ha hf
      have hfi := ha.frozen i
      have HC := fun w => field_any p k w
      have HV := fun w => value_any d w hz
      have hs := (side_set h i (.int .i64 (valueM d.data.toList)) (setM l (k, d)) (by rw [putF_cells l k _ i hf]; unfold setM; rw [if_neg k18, if_neg k19])).below ((Below.refl _ _).alloc (Nat.le_refl _) (.cells #[.int .i64 k, .string d] 79))
      rw [hf] at HC
      obtain ⟨v, hv⟩ : ∃ v, valueM d.data.toList = v := ⟨_, rfl⟩
      rw [hv] at hs HV
      clear hk k18 k19 hf hx hv
      go_enter Tryd.func66, Tryd.ntmps66
      go_wp2_with fail
      refine wp_stillTail 8 (by kernel_rfl) (by kernel_rfl) ?_
      simp only [List.take_succ_cons, List.take_zero, List.drop_succ_cons, List.drop_zero]
      repeat still_step
      still_call ((HC _).mono fun e w' h => ⟨h.1, h.2.symm⟩)
      repeat still_step
      still_call ((HV _).mono fun e w' h => ⟨h.1, h.2.symm⟩)
      repeat still_step
      refine wpStill_nil ?_
      go_wp2_with fail
      go_end0
      exact ⟨rfl, hs.below (Below.refl _ _).drew, ((only_set _ _ _ _).alloc _).drew⟩
end Go.Proofs.YtagnbdenecphcaaDoor
/-! Slices of options; opts.Find. -/
namespace Go.Proofs.YtagnbdenecphcaaDoor
open Go.RowKit
set_option linter.unusedVariables false
def optCells (o : OptM) : List Value := [.int .i64 o.1, .string o.2]
def optE : Elem Tryd.prog OptM where
  tS := 39
  tE := 79
  size := 2
  bytes := 24
  z := .agg #[.int .i64 0, .string ByteArray.empty]
  enc := optCells
  und := Tryd.underlying39
  info := by kernel_rfl
  zs := rfl
  len := fun _ => rfl
  one := fun a u hu => by
    simp only [optCells, List.mem_cons, List.not_mem_nil, or_false] at hu
    rcases hu with rfl | rfl <;> rfl
  pos := by decide
/-- v is a slice of options that reads as l -/
def OptsAt (w : World) (v : Value) (l : List OptM) : Prop := SeqAt optE w v l
theorem OptsAt.below {w w' : World} {v : Value} {l : List OptM} (h : OptsAt w v l) (hb : Below w.heap.size w w') : OptsAt w' v l := SeqAt.below h hb
theorem OptsAt.nil (w : World) : OptsAt w (.slice none 0 0) [] := SeqAt.nil _ _
/-- where the options lie -/
theorem OptsAt.cells {w : World} {g o n c : Nat} {l : List OptM} (h : OptsAt w (.slice (some ⟨g, o, none⟩) n c) l) : n = l.length ∧ l.length ≤ c ∧ c ≤ maxLen ∧ ∀ j (h : j < l.length), w.cell? ⟨g, o + j * 2, none⟩ = some (.int .i64 l[j].1) ∧ w.cell? ⟨g, o + j * 2 + 1, none⟩ = some (.string l[j].2) := by
  rcases h with ⟨_, h⟩ | ⟨g', o', c', h, h1, h2, _, hc⟩
  · cases h
  · cases h
    refine ⟨rfl, h1, h2, fun j hj => ⟨?_, ?_⟩⟩
    · exact hc j hj 0 (by decide)
    · exact hc j hj 1 (by decide)
theorem OptsAt.or {w : World} {v : Value} {l : List OptM} (h : OptsAt w v l) : (l = [] ∧ v = .slice none 0 0) ∨ ∃ g o c, v = .slice (some ⟨g, o, none⟩) l.length c := by
  rcases h with h | ⟨g, o, c, h, _⟩
  · exact .inl h
  · exact .inr ⟨g, o, c, h⟩
/-- append of one option that was just laid in a row of its own -/
theorem wpList_appO {ops : Array Oper} {rest : List Oper} {o : Oper} {a : Act} {w : World} {Q : Exit → Act → World → Prop} (hgd : o.guard = none) (s x : Operand)
    (ho : o.op = .call { callee := .builtin .append, args := #[s, x], argTypes := #[39, 39] })
    (W0 : World) (v : Value) (l : List OptM) (k : Int) (d : ByteArray) (c : Nat) (hown : OwnE optE w W0.heap.size v l) (hs : a.eval s = v) (B : Nat) (hx : a.eval x = .slice (some ⟨B, 0, none⟩) 1 c) (hB : B = w.heap.size)
    (hlen : (l.length + 1) * 24 ≤ 140737488355328) (hbel : Below W0.heap.size W0 w)
    (h : ∀ v' w', OwnE optE w' W0.heap.size v' (l ++ [(k, d)]) → Below W0.heap.size W0 w' → Only (fun k => v.ownBlock = some k) w w' → (v'.ownBlock = v.ownBlock ∨ ∃ k, v'.ownBlock = some k ∧ w.heap.size ≤ k) → wpList Tryd.prog ops Q rest (a.put o.dst v') w') :
    wpList Tryd.prog ops Q (o :: rest) a (w.alloc (.cells #[.int .i64 k, .string d] 79)) :=
  wpList_appE optE hgd s x ho W0 v l (k, d) c hown hs B hx hB hlen hbel (by decide) h
/-- append of all options of a slice -/
theorem wpList_appOs {ops : Array Oper} {rest : List Oper} {o : Oper} {a : Act} {w : World} {Q : Exit → Act → World → Prop} (hgd : o.guard = none) (s x : Operand)
    (ho : o.op = .call { callee := .builtin .append, args := #[s, x], argTypes := #[39, 39] })
    (W0 : World) (v v2 : Value) (l l2 : List OptM) (hown : OwnE optE w W0.heap.size v l) (hsrc : OptsAt w v2 l2) (hs : a.eval s = v) (hx : a.eval x = v2)
    (hlen : (l.length + l2.length) * 24 ≤ 140737488355328) (hbel : Below W0.heap.size W0 w)
    (h : ∀ v' w', OwnE optE w' W0.heap.size v' (l ++ l2) → Below W0.heap.size W0 w' → Only (fun k => v.ownBlock = some k) w w' → (v'.ownBlock = v.ownBlock ∨ ∃ k, v'.ownBlock = some k ∧ w.heap.size ≤ k) → wpList Tryd.prog ops Q rest (a.put o.dst v') w') :
    wpList Tryd.prog ops Q (o :: rest) a w :=
  wpList_appSeq optE hgd s x ho W0 v v2 l l2 hown hsrc hs hx hlen hbel (by decide) h
def findFrom (k : Int) (l : List OptM) : Int := match l.findIdx? (fun o => decide (o.1 = k)) with | some i => (i : Int) | none => -1
theorem findFrom_hit (k : Int) (l : List OptM) (j : Nat) (hj : j < l.length) (h : ∀ i (hi : i < j), (l[i]'(by omega)).1 ≠ k) (hx : l[j].1 = k) : findFrom k l = (j : Int) := by
  unfold findFrom
  have : l.findIdx? (fun o => decide (o.1 = k)) = some j := by
    rw [List.findIdx?_eq_some_iff_getElem]
    exact ⟨hj, by simpa using hx, fun i hi => by simpa using h i hi⟩
  rw [this]
theorem findFrom_none (k : Int) (l : List OptM) (h : ∀ i (hi : i < l.length), l[i].1 ≠ k) : findFrom k l = -1 := by
  unfold findFrom
  have : l.findIdx? (fun o => decide (o.1 = k)) = none := by
    rw [List.findIdx?_eq_none_iff]
    intro x hx
    obtain ⟨i, hi, rfl⟩ := List.mem_iff_getElem.1 hx
    simpa using h i hi
  rw [this]
theorem findFrom_any (k : Int) (l : List OptM) : decide (0 ≤ findFrom k l) = l.any fun o => decide (o.1 = k) := by
  unfold findFrom
  cases e : l.findIdx? (fun o => decide (o.1 = k)) with
  | none =>
    rw [List.findIdx?_eq_none_iff] at e
    symm
    simp only [show decide ((0 : Int) ≤ -1) = false by decide]
    rw [List.any_eq_false]
    intro x hx
    simpa using e x hx
  | some i =>
    obtain ⟨hi, hx, _⟩ := List.findIdx?_eq_some_iff_getElem.1 e
    have : decide ((0 : Int) ≤ (i : Int)) = true := by simp
    rw [this]
    symm
    rw [List.any_eq_true]
    exact ⟨l[i], List.getElem_mem hi, hx⟩
theorem find1_any (k : Int) (o : OptM) (b : Nat) (w : World) (hb : w.cell? ⟨b, 0, none⟩ = some (.int .i64 k)) :
    Calls Tryd.prog 69 #[.agg #[.int .i64 o.1, .string o.2], .pointer (some ⟨b, 0, none⟩)] w fun e w' => e = .returned (.bool (o.1 == k)) ∧ Below w.heap.size w w' := by
  have hl := block_lt_of_cell hb
  go_enter Tryd.func69, Tryd.ntmps69
  go_wp2_with fail
  go_ret
  exact ⟨rfl, allocB (Below.refl _ _) _⟩
set_option maxHeartbeats 1000000 in
theorem indexFunc_find (k : Int) (b : Nat) (g o c : Nat) (l : List OptM) (w : World) (hb : w.cell? ⟨b, 0, none⟩ = some (.int .i64 k)) (h : OptsAt w (.slice (some ⟨g, o, none⟩) l.length c) l) (hl : l.length ≤ 9223372036854775807) :
    Calls Tryd.prog 67 #[.slice (some ⟨g, o, none⟩) l.length c, .func (.func 69) #[] #[.pointer (some ⟨b, 0, none⟩)]] w fun e w' => e = .returned (.int .i64 (findFrom k l)) ∧ Below w.heap.size w w' := by
  obtain ⟨-, -, -, hc⟩ := h.cells
  obtain ⟨n, hn⟩ : ∃ n, l.length = n := ⟨_, rfl⟩
  have HN := Lib.hid hn
  have HC := Lib.hid hc
  rw [hn] at hl ⊢
  clear h hc hn
  go_enter Tryd.func67, Tryd.ntmps67
  go_wp2_with fail
  go_loopw [8] (fun i wr => ∃ j : Nat, j ≤ n ∧ i = .int .i64 j ∧ Below w.heap.size w wr ∧ ∀ i (hi : i < l.length), i < j → l[i].1 ≠ k) (fun i _ => n - (intOf i).toNat)
  case atStart => exact ⟨0, Nat.zero_le _, rfl, Below.refl _ _, fun i _ h => absurd h (Nat.not_lt_zero _)⟩
  case round =>
    obtain ⟨j, hj, rfl, hbl, hno⟩ := hrel
    have HNO := Lib.hid hno
    clear hno
    by_cases hlt : j < n
    · have hjl : j < l.length := by rw [HN.out]; exact hlt
      obtain ⟨c1, c2⟩ := HC.out j hjl
      replace c1 := (hbl.cell (block_lt_of_cell c1)).trans c1
      replace c2 := (hbl.cell (block_lt_of_cell c2)).trans c2
      have hb' := (hbl.cell (block_lt_of_cell hb)).trans hb
      have HX : Hid (l[j] = l[j]) := Lib.hid rfl
      obtain ⟨x, hx⟩ : ∃ x, l[j] = x := ⟨_, rfl⟩
      rw [hx] at c1 c2
      have HX := Lib.hid hx
      clear hx
      by_cases heq : x.1 = k
      · have hr : Hid (findFrom k l = (j : Int)) := Lib.hid (findFrom_hit k l j hjl (fun i hi => HNO.out i (by omega) hi) (by rw [HX.out]; exact heq))
        have hq : (x.1 == k) = true := by simp [heq]
        clear heq
        go_wp2_with fail
        refine (find1_any k x b _ hb').mono ?_
        rintro e w3 ⟨rfl, hb3⟩
        go_wp2_with fail
        go_ret
        exact ⟨by rw [hr.out]; rfl, seqB hbl hb3⟩
      · have hq : (x.1 == k) = false := by simp [heq]
        have HQ := Lib.hid heq
        clear heq
        go_wp2_with fail
        refine (find1_any k x b _ hb').mono ?_
        rintro e w3 ⟨rfl, hb3⟩
        go_wp2_with fail
        go_roundw
        case rel =>
          refine ⟨j + 1, by omega, by go_num, seqB hbl hb3, fun i hi hij => ?_⟩
          by_cases hjk : i = j
          · subst hjk; rw [HX.out]; exact HQ.out
          · exact HNO.out i hi (by omega)
        case measure => simp [intOf]; omega
    · obtain rfl : j = n := by omega
      have hr : Hid (findFrom k l = -1) := Lib.hid (findFrom_none k l (fun i hi => HNO.out i hi (by rw [← HN.out]; exact hi)))
      go_wp2_with fail
      go_ret
      exact ⟨by rw [hr.out]; rfl, hbl⟩
theorem indexFunc_none (k : Int) (f : Value) (c : Nat) (w : World) :
    Calls Tryd.prog 67 #[.slice none 0 c, f] w fun e w' => e = .returned (.int .i64 (-1)) ∧ w = w' := by
  go_enter Tryd.func67, Tryd.ntmps67
  go_wp2_with fail
  go_loopw [8] (fun i wr => i = .int .i64 0 ∧ w = wr) (fun i _ => 0)
  case atStart => exact ⟨rfl, rfl⟩
  case round =>
    obtain ⟨rfl, rfl⟩ := hrel
    go_wp2_with fail
    go_ret
    exact ⟨rfl, rfl⟩
set_option maxHeartbeats 1000000 in
theorem find_any (k : Int) (v : Value) (l : List OptM) (w : World) (h : OptsAt w v l) :
    Calls Tryd.prog 54 #[.int .i64 k, v] w fun e w' => e = .returned (.int .i64 (findFrom k l)) ∧ Below w.heap.size w w' := by
  have hl := SeqAt.le h
  have h' := h.below ((Below.refl _ _).alloc (Nat.le_refl _) (.cells #[.int .i64 k] 3))
  rcases h.or with ⟨rfl, rfl⟩ | ⟨g, o, c, rfl⟩
  · go_enter Tryd.func54, Tryd.ntmps54
    go_wp2_with fail
    refine (indexFunc_none k _ _ _).mono ?_
    rintro e w' ⟨rfl, rfl⟩
    go_wp2_with fail
    go_ret
    exact ⟨rfl, allocB (Below.refl _ _) _⟩
  · go_enter Tryd.func54, Tryd.ntmps54
    go_wp2_with fail
    refine (indexFunc_find k w.heap.size g o c l _ (by rw [World.cell?_alloc_new]; rfl) h' hl).mono ?_
    rintro e w' ⟨rfl, hb⟩
    go_wp2_with fail
    go_ret
    exact ⟨rfl, seqB (allocB (Below.refl _ _) _) hb⟩
end Go.Proofs.YtagnbdenecphcaaDoor
/-! policy: kinds, Ask. -/
namespace Go.Proofs.YtagnbdenecphcaaDoor
open Go.RowKit
set_option linter.unusedVariables false
theorem number_any (x : Int) (n : Nat) (w : World) (h0 : 0 ≤ x) (h1 : x ≤ 4294967295) (hn : n = 2 ∨ n = 4) : Calls Tryd.prog 64 #[.int .i64 x, .int .i64 n] w fun e w' => e = .returned (.string (bytesOf (numB x n))) ∧ Below w.heap.size w w' := by
  rcases hn with rfl | rfl
  · exact number2_any x w h0 h1
  · exact number4_any x w h0 h1
theorem kinds_any (w : World) : Calls Tryd.prog 62 #[] w fun e w' => e = .returned (.slice (some ⟨w.heap.size, 0, none⟩) 6 6) ∧ (∀ j (h : j < 6), w'.cell? ⟨w.heap.size, j, none⟩ = some (.int .i64 (kindsM.getD j 0))) ∧ Below w.heap.size w w' := by
  go_enter Tryd.func62, Tryd.ntmps62
  go_wp2_with fail
  go_ret
  refine ⟨rfl, fun j h => ?_, allocB (Below.refl _ _) _⟩
  rw [World.cell?_alloc_new]
  match j, h with
  | 0, _ => rfl
  | 1, _ => rfl
  | 2, _ => rfl
  | 3, _ => rfl
  | 4, _ => rfl
  | 5, _ => rfl
theorem kind_cases (j : Nat) (h : j < 6) : (kindsM.getD j 0 = 18 ∨ kindsM.getD j 0 = 19) ∨ ∃ i n, fieldOff (kindsM.getD j 0) = some i ∧ sizeM (kindsM.getD j 0) = ((n : Nat) : Int) ∧ (n = 2 ∨ n = 4) ∧ kindsM.getD j 0 ≠ 18 ∧ kindsM.getD j 0 ≠ 19 := by
  match j, h with
  | 0, _ => exact .inr ⟨0, 2, rfl, rfl, .inl rfl, by decide, by decide⟩
  | 1, _ => exact .inr ⟨1, 4, rfl, rfl, .inr rfl, by decide, by decide⟩
  | 2, _ => exact .inr ⟨2, 2, rfl, rfl, .inl rfl, by decide, by decide⟩
  | 3, _ => exact .inl (.inl rfl)
  | 4, _ => exact .inl (.inr rfl)
  | 5, _ => exact .inr ⟨5, 2, rfl, rfl, .inl rfl, by decide, by decide⟩
theorem mayM_bounds {l : LinkM} (h : mayM l = true) : (0 ≤ l.mru ∧ l.mru ≤ 1500) ∧ (0 ≤ l.magic ∧ l.magic ≤ 4294967295) ∧ (0 ≤ l.mrru ∧ l.mrru ≤ 1500) ∧ (0 ≤ l.num ∧ l.num ≤ 65535) ∧ l.disc.size ≤ 20 := by
  unfold mayM unitM at h
  simp only [Bool.and_eq_true, Bool.or_eq_true, decide_eq_true_eq] at h
  omega
theorem mayM_field {l : LinkM} (h : mayM l = true) {k x : Int} (hx : fieldM l k = some x) : 0 ≤ x ∧ x ≤ 4294967295 := by
  obtain ⟨h1, h2, h3, h4, _⟩ := mayM_bounds h
  unfold fieldM at hx
  repeat' split at hx
  all_goals (first | cases hx | skip)
  all_goals omega
def askTo (l : LinkM) (k : Nat) : List OptM := ((kindsM.take k).filter (asksM l)).map (optOf l)
theorem askTo_succ (l : LinkM) (k : Nat) (hk : k < 6) : askTo l (k + 1) = askTo l k ++ (if asksM l (kindsM.getD k 0) = true then [optOf l (kindsM.getD k 0)] else []) := by
  have e : kindsM.take (k + 1) = kindsM.take k ++ [kindsM.getD k 0] := by
    match k, hk with
    | 0, _ => rfl
    | 1, _ => rfl
    | 2, _ => rfl
    | 3, _ => rfl
    | 4, _ => rfl
    | 5, _ => rfl
  unfold askTo
  rw [e, List.filter_append, List.map_append]
  congr 1
  rw [List.filter_cons, List.filter_nil]
  split <;> rfl
theorem askTo_len (l : LinkM) (k : Nat) : (askTo l k).length ≤ 6 := by
  unfold askTo
  rw [List.length_map]
  refine Nat.le_trans (List.length_filter_le _ _) ?_
  rw [List.length_take]
  exact Nat.min_le_right _ _
theorem link_cells {w : World} {p : Nat} {l : LinkM} {t : TypeId} (h : w.heap[p]? = some (.cells (linkCells l) t (0, 0))) : w.cell? ⟨p, 0, none⟩ = some (.int .i64 l.mru) ∧ w.cell? ⟨p, 1, none⟩ = some (.int .i64 l.magic) ∧ w.cell? ⟨p, 2, none⟩ = some (.int .i64 l.mrru) ∧ w.cell? ⟨p, 3, none⟩ = some (.bool l.short) ∧ w.cell? ⟨p, 4, none⟩ = some (.string l.disc) ∧ w.cell? ⟨p, 5, none⟩ = some (.int .i64 l.num) := by
  simp [World.cell?, h, linkCells]
theorem optOf_field (l : LinkM) (k x : Int) (n : Nat) (hx : fieldM l k = some x) (hn : sizeM k = (n : Int)) : optOf l k = (k, bytesOf (numB x n)) := by
  unfold optOf
  rw [hx, hn]; rfl
set_option maxRecDepth 100000 in
set_option maxHeartbeats 8000000 in
theorem pask_any (l : LinkM) (w : World) (hm : mayM l = true) : Calls Tryd.prog 46 #[.agg (linkCells l)] w fun e w' => ∃ o, e = .returned (.tuple #[o, .int .i64 0]) ∧ OwnE optE w' w.heap.size o (askM l) ∧ Below w.heap.size w w' := by
  have hmay := fun w => pmay_any l w
  rw [hm] at hmay
  have HM := Lib.hid hm
  clear hm
  have hL : linkCells l = #[.int .i64 l.mru, .int .i64 l.magic, .int .i64 l.mrru, .bool l.short, .string l.disc, .int .i64 l.num] := rfl
  have HL := Lib.hid hL
  clear hL
  rw [HL.out] at hmay ⊢
  go_enter Tryd.func46, Tryd.ntmps46
  go_wp2_with fail
  refine (hmay _).mono ?_
  rintro e w1 ⟨rfl, hb1⟩
  have hh1 : w1.heap[w.heap.size]? = some (.cells (linkCells l) 23 (0, 0)) := below_of hb1 (by rw [HL.out]; exact heap_alloc_last _ _)
  obtain ⟨c0, c1, c2, c3, c4, c5⟩ := link_cells hh1
  have hB1 : Below w.heap.size w w1 := seqB (allocB (Below.refl _ _) _) hb1
  clear hb1 hmay
  go_wp2_with fail
  refine (kinds_any _).mono ?_
  rintro e w2 ⟨rfl, hk, hb2⟩
  have hB2 : Below w.heap.size w w2 := seqB (allocB hB1 _) hb2
  have hS : SideAt w2 w1.heap.size l := below_of hb2 (by rw [HL.out]; exact heap_alloc_last _ _)
  have hd : w2.cell? ⟨w.heap.size, 4, none⟩ = some (.string l.disc) := fsm_below_cell hb2 (fsm_below_cell ((Below.refl _ _).alloc (Nat.le_refl _) _) c4)
  have hsl := hS.lt
  clear hB1 hb2 hh1 c0 c1 c2 c3 c4 c5
  simp only [World.size_alloc] at hk ⊢
  have HK := Lib.hid hk
  clear hk
  go_wp2_with fail
  go_loopw [5, 18] (fun o i wr => ∃ k : Nat, k ≤ 6 ∧ i = .int .i64 k ∧ OwnE optE wr w2.heap.size o (askTo l k) ∧ Below w2.heap.size w2 wr) (fun _ i _ => 6 - (intOf i).toNat)
  case atStart => exact ⟨0, Nat.zero_le _, rfl, OwnE.nil _ _ _, Below.refl _ _⟩
  case round =>
    obtain ⟨k, hk6, rfl, hown, hbl⟩ := hrel
    have hal := askTo_len l k
    by_cases hlt : k < 6
    · have hkc := fsm_below_cell hbl (HK.out k hlt)
      have hSr := hS.below hbl
      have hdr := fsm_below_cell hbl hd
      have hsu := askTo_succ l k hlt
      have hcase := kind_cases k hlt
      obtain ⟨x, hx⟩ : ∃ x, kindsM.getD k 0 = x := ⟨_, rfl⟩
      rw [hx] at hkc hsu hcase
      obtain ⟨acc, hacc⟩ : ∃ acc, askTo l k = acc := ⟨_, rfl⟩
      rw [hacc] at hown hsu hal
      have hask := fun w h => asks_any w1.heap.size l x w h
      cases hb : asksM l x with
      | false =>
        rw [hb] at hask
        have HSU : Hid (askTo l (k + 1) = acc) := Lib.hid (by rw [hsu, hb]; simp)
        clear hsu hx hacc hb hcase
        go_wp2_with fail
        refine (hask _ hSr).mono ?_
        rintro e w3 ⟨rfl, rfl⟩
        go_wp2_with fail
        go_roundw
        case rel => exact ⟨k + 1, by omega, by go_num, by rw [HSU.out]; exact hown, hbl⟩
        case measure => simp [intOf]; omega
      | true =>
        rw [hb] at hask
        have HSU : Hid (askTo l (k + 1) = acc ++ [optOf l x]) := Lib.hid (by rw [hsu, hb]; simp)
        clear hsu hx hacc hb
        rcases hcase with hcase | ⟨i, n, hf, hsz, hn, n18, n19⟩
        · have hown3 := (hown.below ((Below.refl _ _).alloc (Nat.le_refl _) (.cells #[.int .i64 x, .string ⟨#[]⟩] 79)))
          have hbl3 : Below w2.heap.size w2 (wr.alloc (.cells #[.int .i64 x, .string ⟨#[]⟩] 79)) := allocB hbl _
          rcases hcase with rfl | rfl
          · have HO : Hid (optOf l 18 = (18, ⟨#[]⟩)) := Lib.hid rfl
            have hfld : ∀ w : World, Calls Tryd.prog 63 #[.pointer (some ⟨w1.heap.size, 0, none⟩), .int .i64 18] w fun e w' => e = .returned (.pointer none) ∧ w = w' := fun w => field_any w1.heap.size 18 w
            go_wp2_with fail
            refine (hask _ hSr).mono ?_
            rintro e w3 ⟨rfl, rfl⟩
            go_wp2_with fail
            refine (hfld _).mono ?_
            rintro e w3 ⟨rfl, rfl⟩
            go_wp2_with (at_builtin; refine wpList_appO rfl _ _ rfl w2 _ _ 18 ⟨#[]⟩ 1 hown3 rfl _ rfl (by simp) (by omega) hbl3 ?_; intro v' w5 hown5 hbl5 _ _)
            go_roundw
            case rel => exact ⟨k + 1, by omega, by go_num, by rw [HSU.out, HO.out]; exact hown5, hbl5⟩
            case measure => simp [intOf]; omega
          · have HO : Hid (optOf l 19 = (19, l.disc)) := Lib.hid rfl
            have hfld : ∀ w : World, Calls Tryd.prog 63 #[.pointer (some ⟨w1.heap.size, 0, none⟩), .int .i64 19] w fun e w' => e = .returned (.pointer none) ∧ w = w' := fun w => field_any w1.heap.size 19 w
            have hown4 := (hown.below ((Below.refl _ _).alloc (Nat.le_refl _) (.cells #[.int .i64 19, .string l.disc] 79)))
            have hbl4 : Below w2.heap.size w2 (wr.alloc (.cells #[.int .i64 19, .string l.disc] 79)) := allocB hbl _
            have hdr2 := fsm_below_cell ((Below.refl wr.heap.size wr).alloc (Nat.le_refl _) (.cells #[.int .i64 19, .string ⟨#[]⟩] 79)) hdr
            clear hown3 hbl3
            go_wp2_with fail
            refine (hask _ hSr).mono ?_
            rintro e w3 ⟨rfl, rfl⟩
            go_wp2_with fail
            refine (hfld _).mono ?_
            rintro e w3 ⟨rfl, rfl⟩
            go_wp2_with (at_builtin; refine wpList_appO rfl _ _ rfl w2 _ _ 19 l.disc 1 hown4 rfl _ rfl (by simp) (by omega) hbl4 ?_; intro v' w5 hown5 hbl5 _ _)
            go_roundw
            case rel => exact ⟨k + 1, by omega, by go_num, by rw [HSU.out, HO.out]; exact hown5, hbl5⟩
            case measure => simp [intOf]; omega
        · obtain ⟨z, hz, hzc⟩ := fieldOff_cell hSr hf
          obtain ⟨z0, z1⟩ := mayM_field HM.out hz
          have HO := Lib.hid (optOf_field l x z n hz hsz)
          have hfld := fun w => field_any w1.heap.size x w
          have hsiz := fun w => size_any x w
          have hnum := fun w => number_any z n w z0 z1 hn
          rw [hf] at hfld
          rw [hsz] at hsiz
          obtain ⟨N, hN⟩ : ∃ N, bytesOf (numB z n) = N := ⟨_, rfl⟩
          rw [hN] at hnum HO
          clear hf hsz hN hz n18 n19
          go_wp2_with fail
          refine (hask _ hSr).mono ?_
          rintro e w3 ⟨rfl, rfl⟩
          go_wp2_with fail
          refine (hfld _).mono ?_
          rintro e w3 ⟨rfl, rfl⟩
          go_wp2_with fail
          have hzc2 := fsm_below_cell ((Below.refl wr.heap.size wr).alloc (Nat.le_refl _) (.cells #[.int .i64 x, .string ⟨#[]⟩] 79)) hzc
          refine wp_stillTail 5 (by kernel_rfl) (by kernel_rfl) ?_
          simp only [List.take_succ_cons, List.take_zero, List.drop_succ_cons, List.drop_zero]
          repeat still_step
          still_call ((hsiz _).mono fun e w' h => ⟨h.1, h.2.symm⟩)
          repeat still_step
          refine wpStill_nil ?_
          go_wp2_with fail
          refine (hnum _).mono ?_
          rintro e w4 ⟨rfl, hb4⟩
          have hh4 : w4.heap[wr.heap.size]? = some (.cells #[.int .i64 x, .string ⟨#[]⟩] 79 (0, 0)) := below_of hb4 (heap_alloc_last _ _)
          have q0 : w4.cell? ⟨wr.heap.size, 0, none⟩ = some (.int .i64 x) := by simp [World.cell?, hh4]
          have q1 : w4.cell? ⟨wr.heap.size, 1, none⟩ = some (.string ⟨#[]⟩) := by simp [World.cell?, hh4]
          have q2 : w4.frozen? ⟨wr.heap.size, 1, none⟩ = false := by simp [World.frozen?, hh4]
          have hbw : Below wr.heap.size wr w4 := seqB (drewB (allocB (Below.refl _ _) _)) hb4
          have hown4 := (hown.below hbw).only (only_set w4 wr.heap.size 1 (.string N)) (fun k hk e => by have := hown.lt k hk; omega)
          have hbl4 := (seqB hbl hbw).setCell (p := ⟨wr.heap.size, 1, none⟩) hbl.size (.string N)
          clear hb4 hh4 hbw hown hbl hSr hzc hzc2 hnum hsiz hfld hask hdr
          go_wp2_with (at_builtin; refine wpList_appO rfl _ _ rfl w2 _ _ x N 1 hown4 rfl _ rfl (by simp) (by omega) hbl4 ?_; intro v' w5 hown5 hbl5 _ _)
          go_roundw
          case rel => exact ⟨k + 1, by omega, by go_num, by rw [HSU.out, HO.out]; exact hown5, hbl5⟩
          case measure => simp [intOf]; omega
    · obtain rfl : k = 6 := by omega
      have hown6 := hown.base (b' := w.heap.size) hB2.size
      have hBw := seqB hB2 hbl
      have HA : Hid (askM l = askTo l 6) := Lib.hid rfl
      clear hown
      go_wp2_with fail
      go_ret2
      exact ⟨_, rfl, by rw [HA.out]; exact hown6, hBw⟩
end Go.Proofs.YtagnbdenecphcaaDoor
