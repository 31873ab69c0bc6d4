/- Package digest: turn: walked. -/
import Derived.Test.YteigigepmoicaaaGreatDoorMd5X
namespace Go.Proofs.YteigigepmoicaaaGreatDoor
open Go.RowKit
set_option linter.unusedVariables false
set_option linter.unusedSimpArgs false
def hcell (h : MdS) (j : Nat) : Nat := if j = 0 then h.a else if j = 1 then h.b else if j = 2 then h.c else h.d
structure StAt (w : World) (p : Nat) (h : MdS) : Prop where
  c : ∀ j, j < 4 → w.cell? ⟨p, j, none⟩ = some (.int .u32 (hcell h j : Int))
  k : ∀ i, i < 64 → w.cell? ⟨p, 4 + i, none⟩ = some (.int .u32 (sinesT.getD i 0 : Int))
  f : ∀ j, j < 4 → w.frozen? ⟨p, j, none⟩ = false
theorem StAt.only {S : Nat → Prop} {w w' : World} {p : Nat} {h : MdS} (hs : StAt w p h) (ho : Only S w w') (hn : ¬ S p) : StAt w' p h :=
  ⟨fun j hj => ho.cell (hs.c j hj) hn, fun i hi => ho.cell (hs.k i hi) hn, fun j hj => (World.frozen?_of_block (ho.block p (block_lt_of_cell (hs.c 0 (by decide))) hn)).trans (hs.f j hj)⟩
def zwords : Array Value := Array.replicate 16 (.int .u32 0)
theorem zero_words (w : World) : (zeroValue 136).run Tryz.prog w = .ok (.agg zwords) w := by kernel_rfl
theorem take_getD (x : List UInt8) (i q : Nat) (h : i < x.length) : (x.take (i + 1)).getD q 0 = if q = i then x[i] else (x.take i).getD q 0 := by
  rw [List.take_succ_eq_append_getElem h, List.getD_eq_getElem?_getD, List.getD_eq_getElem?_getD, List.getElem?_append]
  have hl : (x.take i).length = i := by rw [List.length_take]; omega
  by_cases hq : q = i
  · subst hq
    rw [if_pos rfl, if_neg (by omega), hl, Nat.sub_self]
    rfl
  · rw [if_neg hq]
    by_cases h2 : q < i
    · rw [if_pos (by omega)]
    · rw [if_neg (by omega), List.getElem?_eq_none (by simp; omega), List.getElem?_eq_none (by omega)]
theorem take_zero (x : List UInt8) (i q : Nat) (h : i ≤ q) : (x.take i).getD q 0 = 0 := by
  rw [List.getD_eq_getElem?_getD, List.getElem?_eq_none (by rw [List.length_take]; omega)]
  rfl
/-- one byte more, in its word -/
theorem word_step (x : List UInt8) (i j r : Nat) (h : i < x.length) (hi : i = 4 * j + r) (hr : r < 4) : mdWord (x.take (i + 1)) j = mdWord (x.take i) j ||| (x[i].toNat * 256 ^ r) := by
  have hb := x[i].toNat_lt
  unfold mdWord
  simp only [take_getD x i _ h]
  obtain ⟨b, hbx⟩ : ∃ b, x[i] = b := ⟨_, rfl⟩
  rw [hbx] at hb ⊢
  have h0 := ((x.take i).getD (4 * j) 0).toNat_lt
  have h1 := ((x.take i).getD (4 * j + 1) 0).toNat_lt
  have h2 := ((x.take i).getD (4 * j + 2) 0).toNat_lt
  obtain rfl | rfl | rfl | rfl : r = 0 ∨ r = 1 ∨ r = 2 ∨ r = 3 := by omega
  · rw [if_pos (by omega), if_neg (by omega), if_neg (by omega), if_neg (by omega), take_zero x i (4 * j) (by omega), take_zero x i (4 * j + 1) (by omega), take_zero x i (4 * j + 2) (by omega), take_zero x i (4 * j + 3) (by omega)]
    simp
  · rw [if_neg (by omega), if_pos (by omega), if_neg (by omega), if_neg (by omega), take_zero x i (4 * j + 1) (by omega), take_zero x i (4 * j + 2) (by omega), take_zero x i (4 * j + 3) (by omega)]
    have := Nat.two_pow_add_eq_or_of_lt (i := 8) (b := ((x.take i).getD (4 * j) 0).toNat) (by omega) b.toNat
    rw [Nat.or_comm]
    rw [show b.toNat * 256 ^ 1 = 2 ^ 8 * b.toNat by omega]
    simp only [show (0 : UInt8).toNat = 0 from rfl, Nat.mul_zero, Nat.add_zero]
    rw [← this]; omega
  · rw [if_neg (by omega), if_neg (by omega), if_pos (by omega), if_neg (by omega), take_zero x i (4 * j + 2) (by omega), take_zero x i (4 * j + 3) (by omega)]
    have := Nat.two_pow_add_eq_or_of_lt (i := 16) (b := ((x.take i).getD (4 * j) 0).toNat + 256 * ((x.take i).getD (4 * j + 1) 0).toNat) (by omega) b.toNat
    rw [Nat.or_comm, show b.toNat * 256 ^ 2 = 2 ^ 16 * b.toNat by omega]
    simp only [show (0 : UInt8).toNat = 0 from rfl, Nat.mul_zero, Nat.add_zero]
    rw [← this]; omega
  · rw [if_neg (by omega), if_neg (by omega), if_neg (by omega), if_pos (by omega), take_zero x i (4 * j + 3) (by omega)]
    have := Nat.two_pow_add_eq_or_of_lt (i := 24) (b := ((x.take i).getD (4 * j) 0).toNat + 256 * ((x.take i).getD (4 * j + 1) 0).toNat + 65536 * ((x.take i).getD (4 * j + 2) 0).toNat) (by omega) b.toNat
    rw [Nat.or_comm, show b.toNat * 256 ^ 3 = 2 ^ 24 * b.toNat by omega]
    simp only [show (0 : UInt8).toNat = 0 from rfl, Nat.mul_zero, Nat.add_zero]
    rw [← this]; omega
theorem word_other (x : List UInt8) (i j r q : Nat) (h : i < x.length) (hi : i = 4 * j + r) (hr : r < 4) (hq : q ≠ j) : mdWord (x.take (i + 1)) q = mdWord (x.take i) q := by
  unfold mdWord
  simp only [take_getD x i _ h]
  rw [if_neg (by omega), if_neg (by omega), if_neg (by omega), if_neg (by omega)]
def addTo (h s : MdS) (k j : Nat) : Nat := if j < k then (hcell h j + hcell s j) % 4294967296 else hcell h j
theorem addTo_other (h s : MdS) (k q : Nat) (hq : q ≠ k) : addTo h s (k + 1) q = addTo h s k q := by
  unfold addTo
  by_cases h1 : q < k
  · rw [if_pos h1, if_pos (by omega)]
  · rw [if_neg h1, if_neg (by omega)]
theorem addTo_all (h s : MdS) (j : Nat) (hj : j < 4) : addTo h s 4 j = hcell (mdAdd h s) j := by
  unfold addTo
  rw [if_pos hj]
  match j, hj with
  | 0, _ => rfl
  | 1, _ => rfl
  | 2, _ => rfl
  | 3, _ => rfl
theorem turn_range (k : Nat) (h : k < 64) : 4 ≤ turnT k ∧ turnT k ≤ 23 := by
  have : ∀ k : Fin 64, 4 ≤ turnT k.val ∧ turnT k.val ≤ 23 := by decide +kernel
  exact this ⟨k, h⟩
theorem set_row {w : World} {B n j : Nat} {x : Int} {f f' : Nat → Int} (hc : ∀ q, q < n → w.cell? ⟨B, q, none⟩ = some (.int .u32 (f q))) (hj : j < n) (hv : f' j = x) (ho : ∀ q, q < n → q ≠ j → f' q = f q) : ∀ q, q < n → ((w.setCell ⟨B, j, none⟩ (.int .u32 x)).drew).cell? ⟨B, q, none⟩ = some (.int .u32 (f' q)) := by
  intro q hq
  show (w.setCell ⟨B, j, none⟩ (.int .u32 x)).cell? ⟨B, q, none⟩ = _
  by_cases e : q = j
  · subst e
    rw [hv]
    exact World.cell?_setCell_same _ _ _ (hc q hq)
  · rw [World.cell?_setCell_other _ _ _ _ (fun h => e (by injection h with h1 h2; exact h2.symm)), ho q hq e]
    exact hc q hq
set_option maxRecDepth 100000 in
set_option maxHeartbeats 8000000 in
theorem turn_any (p : Nat) (h : MdS) (x : ByteArray) (w : World) (hs : StAt w p h) (hok : h.ok) (hx : x.size = 64) :
    Calls Tryz.prog 88 #[.pointer (some ⟨p, 0, none⟩), .string x] w fun e w' => e = .returned (.tuple #[]) ∧ StAt w' p (mdBlock h x.data.toList) ∧ Only (· = p) w w' := by
  have hxl : Hid (x.data.toList.length = 64) := Lib.hid (by rw [len_toList]; exact hx)
  have hpl := block_lt_of_cell (hs.c 0 (by decide))
  dsimp only at hpl
  have hz := zero_words
  have hzc : ∀ j, j < 16 → (w.alloc (.cells zwords 136)).cell? ⟨w.heap.size, j, none⟩ = some (.int .u32 0) := fun j hj => by
    rw [World.cell?_alloc_new]
    simp [zwords, hj]
  have hzf : ∀ j, j < 16 → (w.alloc (.cells zwords 136)).frozen? ⟨w.heap.size, j, none⟩ = false := fun j hj => by simp [go_sem]
  have HS := Lib.hid hs
  have HX := Lib.hid hx
  clear hs hx
  go_enter Tryz.func88, Tryz.ntmps88
  go_wp2_with fail
  obtain ⟨W1, hW1⟩ : ∃ W1, w.alloc (.cells zwords 136) = W1 := ⟨_, rfl⟩
  rw [hW1] at hzc hzf ⊢
  have hB1 : Below w.heap.size w W1 := hW1 ▸ allocB (Below.refl _ _) _
  clear hz hW1
  go_loopw [5, 15] (fun u i wr => ∃ k : Nat, i = .int .i64 k ∧ k ≤ 64 ∧ (∀ j, j < 16 → wr.cell? ⟨w.heap.size, j, none⟩ = some (.int .u32 (mdWord (x.data.toList.take k) j : Int))) ∧ (∀ j, j < 16 → wr.frozen? ⟨w.heap.size, j, none⟩ = false) ∧ Only (· = w.heap.size) W1 wr) (fun _ i _ => 64 - (intOf i).toNat)
  case atStart => exact ⟨0, rfl, by decide, fun j hj => by rw [hzc j hj]; rfl, hzf, Only.refl _ _⟩
  case round =>
    obtain ⟨k, rfl, hk, hc, hf, hO⟩ := hrel
    by_cases hlt : k < 64
    · obtain ⟨j, r, hkj, hr⟩ : ∃ j r, k = 4 * j + r ∧ r < 4 := ⟨k / 4, k % 4, by omega, by omega⟩
      have hj16 : j < 16 := by omega
      have hd : (k : Int).tdiv 4 = (j : Int) := by rw [Int.tdiv_eq_ediv_of_nonneg (by omega)]; omega
      have hm : (k : Int).tmod 4 = (r : Int) := by rw [Int.tmod_eq_emod_of_nonneg (by omega)]; omega
      have hji : (j : Int) < 16 := by omega
      have hwj : IntKind.i64.wrap (j : Int) = (j : Int) := IntWalk.i64_in _ (by omega)
      have z := hc j hj16
      have zf := hf j hj16
      have hkx : k < x.size := by have := HX.out; omega
      have hkl : k < x.data.toList.length := by have := hxl.out; omega
      have HW := Lib.hid (word_step x.data.toList k j r hkl hkj hr)
      have HOT := Lib.hid (fun q => word_other x.data.toList k j r q hkl hkj hr)
      have hxb : x.data.toList[k] = x[k] := rfl
      rw [hxb] at HW
      have hw1 : mdWord (x.data.toList.take k) j < 4294967296 := mdWord_lt _ _
      obtain ⟨old, hold⟩ : ∃ o, mdWord (x.data.toList.take k) j = o := ⟨_, rfl⟩
      rw [hold] at z HW hw1
      have hb := x[k].toNat_lt
      obtain ⟨b, hbx⟩ : ∃ b, x[k].toNat = b := ⟨_, rfl⟩
      rw [hbx] at HW hb
      have HF := Lib.hid hf
      have HC := Lib.hid hc
      clear hold hkj hxb hf hc
      have hwb : IntKind.u32.wrap (b : Int) = (b : Int) := by rw [IntKind.wrap_u32]; omega
      obtain rfl | rfl | rfl | rfl : r = 0 ∨ r = 1 ∨ r = 2 ∨ r = 3 := by omega
      · have hm0 : (k : Int).tmod 4 = 0 := hm
        have hm8 : IntKind.i64.wrap (8 * 0) = 0 := by decide
        have hor : bits BinOp.or IntKind.u32 (old : Int) ((b : Int) * 2 ^ min 0 32 % 4294967296) = ((old ||| b * 256 ^ 0 : Nat) : Int) := by
          have e := u32_or_nat old (b * 256 ^ 0) hw1 (by omega)
          rw [← e, show (2 : Int) ^ min 0 32 = 1 by decide]; congr 1; omega
        clear hm
        go_wp2_with fail
        refine wp_schedS (fun w' => w'.cell? ⟨w.heap.size, j, none⟩ = some (.int .u32 (old : Int))) 14 [(0, 1), (1, 1), (2, 1), (3, 1), (4, 1), (5, 1), (6, 1), (7, 1), (8, 1), (9, 1), (10, 1), (11, 1), (12, 1), (13, 1), (14, 0)] (by kernel_rfl) (by kernel_rfl) rfl (by kernel_rfl) (by kernel_rfl) z (fun _ d _ _ _ h => by cases d <;> exact h) ?_
        simp only [schedOpsN, List.filterMap_cons, List.filterMap_nil, List.getElem?_toArray, List.getElem?_cons_zero, List.getElem?_cons_succ, Option.map_some]
        repeat (first | (refine' wpS_take _ (by rfl) (fun wS hS => ?_) ?_; rotate_left; (focus (obtain z0 := hS; go_simp; first | done | rfl)); (try simp only [Act.put, List.setIfInBounds_toArray, List.set_cons_zero, List.set_cons_succ])) | (refine' wpS_pure _ (by rfl) (fun wS => ?_) ?_; rotate_left; (focus (go_simp; first | done | rfl)); (try simp only [Act.put, List.setIfInBounds_toArray, List.set_cons_zero, List.set_cons_succ])) | (refine wpS_skip (by rfl) ?_; try simp only [Act.put, List.setIfInBounds_toArray, List.set_cons_zero, List.set_cons_succ]))
        refine wpS_last (fun K hK => ?_)
        go_wp2_with fail
        rw [hor]
        refine QRun_normal (hK.out _ _ ?_)
        clear hK K
        go_wp2_with fail
        go_roundw
        case rel => exact ⟨k + 1, by go_num, by omega, set_row (f := fun q => (mdWord (x.data.toList.take k) q : Int)) (f' := fun q => (mdWord (x.data.toList.take (k + 1)) q : Int)) HC.out hj16 (by show ((mdWord (x.data.toList.take (k + 1)) j : Nat) : Int) = _; rw [HW.out]; first | done | simp) (fun q _ hq => by show ((mdWord (x.data.toList.take (k + 1)) q : Nat) : Int) = _; rw [HOT.out q hq]), fun q hq => (World.frozen?_setCell _ _ _ _).trans (HF.out q hq), (hO.set (.inl rfl) _).drew⟩
        case measure => simp [intOf]; omega
      · have hm0 : (k : Int).tmod 4 = 1 := hm
        have hm8 : IntKind.i64.wrap (8 * 1) = 8 := by decide
        have hor : bits BinOp.or IntKind.u32 (old : Int) ((b : Int) * 2 ^ min 8 32 % 4294967296) = ((old ||| b * 256 ^ 1 : Nat) : Int) := by
          have e := u32_or_nat old (b * 256 ^ 1) hw1 (by omega)
          rw [← e, show (2 : Int) ^ min 8 32 = 256 by decide]; congr 1; omega
        clear hm
        go_wp2_with fail
        refine wp_schedS (fun w' => w'.cell? ⟨w.heap.size, j, none⟩ = some (.int .u32 (old : Int))) 14 [(0, 1), (1, 1), (2, 1), (3, 1), (4, 1), (5, 1), (6, 1), (7, 1), (8, 1), (9, 1), (10, 1), (11, 1), (12, 1), (13, 1), (14, 0)] (by kernel_rfl) (by kernel_rfl) rfl (by kernel_rfl) (by kernel_rfl) z (fun _ d _ _ _ h => by cases d <;> exact h) ?_
        simp only [schedOpsN, List.filterMap_cons, List.filterMap_nil, List.getElem?_toArray, List.getElem?_cons_zero, List.getElem?_cons_succ, Option.map_some]
        repeat (first | (refine' wpS_take _ (by rfl) (fun wS hS => ?_) ?_; rotate_left; (focus (obtain z0 := hS; go_simp; first | done | rfl)); (try simp only [Act.put, List.setIfInBounds_toArray, List.set_cons_zero, List.set_cons_succ])) | (refine' wpS_pure _ (by rfl) (fun wS => ?_) ?_; rotate_left; (focus (go_simp; first | done | rfl)); (try simp only [Act.put, List.setIfInBounds_toArray, List.set_cons_zero, List.set_cons_succ])) | (refine wpS_skip (by rfl) ?_; try simp only [Act.put, List.setIfInBounds_toArray, List.set_cons_zero, List.set_cons_succ]))
        refine wpS_last (fun K hK => ?_)
        go_wp2_with fail
        rw [hor]
        refine QRun_normal (hK.out _ _ ?_)
        clear hK K
        go_wp2_with fail
        go_roundw
        case rel => exact ⟨k + 1, by go_num, by omega, set_row (f := fun q => (mdWord (x.data.toList.take k) q : Int)) (f' := fun q => (mdWord (x.data.toList.take (k + 1)) q : Int)) HC.out hj16 (by show ((mdWord (x.data.toList.take (k + 1)) j : Nat) : Int) = _; rw [HW.out]; first | done | simp) (fun q _ hq => by show ((mdWord (x.data.toList.take (k + 1)) q : Nat) : Int) = _; rw [HOT.out q hq]), fun q hq => (World.frozen?_setCell _ _ _ _).trans (HF.out q hq), (hO.set (.inl rfl) _).drew⟩
        case measure => simp [intOf]; omega
      · have hm0 : (k : Int).tmod 4 = 2 := hm
        have hm8 : IntKind.i64.wrap (8 * 2) = 16 := by decide
        have hor : bits BinOp.or IntKind.u32 (old : Int) ((b : Int) * 2 ^ min 16 32 % 4294967296) = ((old ||| b * 256 ^ 2 : Nat) : Int) := by
          have e := u32_or_nat old (b * 256 ^ 2) hw1 (by omega)
          rw [← e, show (2 : Int) ^ min 16 32 = 65536 by decide]; congr 1; omega
        clear hm
        go_wp2_with fail
        refine wp_schedS (fun w' => w'.cell? ⟨w.heap.size, j, none⟩ = some (.int .u32 (old : Int))) 14 [(0, 1), (1, 1), (2, 1), (3, 1), (4, 1), (5, 1), (6, 1), (7, 1), (8, 1), (9, 1), (10, 1), (11, 1), (12, 1), (13, 1), (14, 0)] (by kernel_rfl) (by kernel_rfl) rfl (by kernel_rfl) (by kernel_rfl) z (fun _ d _ _ _ h => by cases d <;> exact h) ?_
        simp only [schedOpsN, List.filterMap_cons, List.filterMap_nil, List.getElem?_toArray, List.getElem?_cons_zero, List.getElem?_cons_succ, Option.map_some]
        repeat (first | (refine' wpS_take _ (by rfl) (fun wS hS => ?_) ?_; rotate_left; (focus (obtain z0 := hS; go_simp; first | done | rfl)); (try simp only [Act.put, List.setIfInBounds_toArray, List.set_cons_zero, List.set_cons_succ])) | (refine' wpS_pure _ (by rfl) (fun wS => ?_) ?_; rotate_left; (focus (go_simp; first | done | rfl)); (try simp only [Act.put, List.setIfInBounds_toArray, List.set_cons_zero, List.set_cons_succ])) | (refine wpS_skip (by rfl) ?_; try simp only [Act.put, List.setIfInBounds_toArray, List.set_cons_zero, List.set_cons_succ]))
        refine wpS_last (fun K hK => ?_)
        go_wp2_with fail
        rw [hor]
        refine QRun_normal (hK.out _ _ ?_)
        clear hK K
        go_wp2_with fail
        go_roundw
        case rel => exact ⟨k + 1, by go_num, by omega, set_row (f := fun q => (mdWord (x.data.toList.take k) q : Int)) (f' := fun q => (mdWord (x.data.toList.take (k + 1)) q : Int)) HC.out hj16 (by show ((mdWord (x.data.toList.take (k + 1)) j : Nat) : Int) = _; rw [HW.out]; first | done | simp) (fun q _ hq => by show ((mdWord (x.data.toList.take (k + 1)) q : Nat) : Int) = _; rw [HOT.out q hq]), fun q hq => (World.frozen?_setCell _ _ _ _).trans (HF.out q hq), (hO.set (.inl rfl) _).drew⟩
        case measure => simp [intOf]; omega
      · have hm0 : (k : Int).tmod 4 = 3 := hm
        have hm8 : IntKind.i64.wrap (8 * 3) = 24 := by decide
        have hor : bits BinOp.or IntKind.u32 (old : Int) ((b : Int) * 2 ^ min 24 32 % 4294967296) = ((old ||| b * 256 ^ 3 : Nat) : Int) := by
          have e := u32_or_nat old (b * 256 ^ 3) hw1 (by omega)
          rw [← e, show (2 : Int) ^ min 24 32 = 16777216 by decide]; congr 1; omega
        clear hm
        go_wp2_with fail
        refine wp_schedS (fun w' => w'.cell? ⟨w.heap.size, j, none⟩ = some (.int .u32 (old : Int))) 14 [(0, 1), (1, 1), (2, 1), (3, 1), (4, 1), (5, 1), (6, 1), (7, 1), (8, 1), (9, 1), (10, 1), (11, 1), (12, 1), (13, 1), (14, 0)] (by kernel_rfl) (by kernel_rfl) rfl (by kernel_rfl) (by kernel_rfl) z (fun _ d _ _ _ h => by cases d <;> exact h) ?_
        simp only [schedOpsN, List.filterMap_cons, List.filterMap_nil, List.getElem?_toArray, List.getElem?_cons_zero, List.getElem?_cons_succ, Option.map_some]
        repeat (first | (refine' wpS_take _ (by rfl) (fun wS hS => ?_) ?_; rotate_left; (focus (obtain z0 := hS; go_simp; first | done | rfl)); (try simp only [Act.put, List.setIfInBounds_toArray, List.set_cons_zero, List.set_cons_succ])) | (refine' wpS_pure _ (by rfl) (fun wS => ?_) ?_; rotate_left; (focus (go_simp; first | done | rfl)); (try simp only [Act.put, List.setIfInBounds_toArray, List.set_cons_zero, List.set_cons_succ])) | (refine wpS_skip (by rfl) ?_; try simp only [Act.put, List.setIfInBounds_toArray, List.set_cons_zero, List.set_cons_succ]))
        refine wpS_last (fun K hK => ?_)
        go_wp2_with fail
        rw [hor]
        refine QRun_normal (hK.out _ _ ?_)
        clear hK K
        go_wp2_with fail
        go_roundw
        case rel => exact ⟨k + 1, by go_num, by omega, set_row (f := fun q => (mdWord (x.data.toList.take k) q : Int)) (f' := fun q => (mdWord (x.data.toList.take (k + 1)) q : Int)) HC.out hj16 (by show ((mdWord (x.data.toList.take (k + 1)) j : Nat) : Int) = _; rw [HW.out]; first | done | simp) (fun q _ hq => by show ((mdWord (x.data.toList.take (k + 1)) q : Nat) : Int) = _; rw [HOT.out q hq]), fun q hq => (World.frozen?_setCell _ _ _ _).trans (HF.out q hq), (hO.set (.inl rfl) _).drew⟩
        case measure => simp [intOf]; omega
    · --END1
      obtain rfl : k = 64 := by omega
      have hO1 : Only (· = w.heap.size) w wr := (Only.ofBelow hB1).trans hO
      have hsr : StAt wr p h := HS.out.only hO1 (by omega)
      have k0 : wr.cell? ⟨p, 0, none⟩ = some (.int .u32 (h.a : Int)) := hsr.c 0 (by decide)
      have k1 : wr.cell? ⟨p, 1, none⟩ = some (.int .u32 (h.b : Int)) := hsr.c 1 (by decide)
      have k2 : wr.cell? ⟨p, 2, none⟩ = some (.int .u32 (h.c : Int)) := hsr.c 2 (by decide)
      have k3 : wr.cell? ⟨p, 3, none⟩ = some (.int .u32 (h.d : Int)) := hsr.c 3 (by decide)
      have hxt : x.data.toList.take 64 = x.data.toList := List.take_of_length_le (by have := hxl.out; omega)
      rw [hxt] at hc
      have HC := Lib.hid hc
      have HSR := Lib.hid hsr
      clear hxt hc hf hO hB1 hzc hzf hsr
      go_wp2_with fail
      refine wp_schedL (fun w' => w'.cell? ⟨p, 0, none⟩ = some (.int .u32 (h.a : Int)) ∧ w'.cell? ⟨p, 1, none⟩ = some (.int .u32 (h.b : Int)) ∧ w'.cell? ⟨p, 2, none⟩ = some (.int .u32 (h.c : Int)) ∧ w'.cell? ⟨p, 3, none⟩ = some (.int .u32 (h.d : Int))) [(0, true), (1, true), (2, true), (3, true), (4, true), (5, true), (6, true), (7, true), (8, true), (9, true), (10, true), (11, true), (12, true), (13, true), (14, true), (15, true), (16, true), (17, true), (18, true), (19, true), (20, true), (21, true), (22, true), (23, true)] (by kernel_rfl) (by kernel_rfl) rfl (by kernel_rfl) (by kernel_rfl) ⟨k0, k1, k2, k3⟩ (fun _ d _ _ _ h => by cases d <;> exact h) ?_
      simp only [schedOps, List.filterMap_cons, List.filterMap_nil, List.getElem?_toArray, List.getElem?_cons_zero, List.getElem?_cons_succ, Option.map_some]
      repeat (first | (refine' wpSched_take _ (by rfl) (fun wS hS => ?_) ?_; rotate_left; (focus (obtain ⟨j0, j1, j2, j3⟩ := hS; go_simp; first | done | rfl)); (try simp only [Act.put, List.setIfInBounds_toArray, List.set_cons_zero, List.set_cons_succ])) | (refine wpSched_skip (by rfl) ?_; try simp only [Act.put, List.setIfInBounds_toArray, List.set_cons_zero, List.set_cons_succ]))
      refine wpSched_done ?_
      clear k0 k1 k2 k3
      go_wp2_with fail
      obtain ⟨W2, hW2⟩ : ∃ W2, wr.drew = W2 := ⟨_, rfl⟩
      have HC2 : Hid (∀ j, j < 16 → W2.cell? ⟨w.heap.size, j, none⟩ = some (.int .u32 (mdWord x.data.toList j : Int))) := hW2 ▸ HC
      have HS2 : Hid (StAt W2 p h) := hW2 ▸ Lib.hid (HSR.out.only (Only.refl (fun _ => False) wr).drew (fun h => h))
      have hO2 : Only (· = w.heap.size) w W2 := hW2 ▸ hO1.drew
      rw [hW2]
      clear hW2 HC HSR hO1 HS
      go_loopw [6, 7, 8, 9, 53] (fun va vb vc vd i wr => ∃ (k : Nat) (s : MdS), i = .int .i64 k ∧ k ≤ 64 ∧ va = .int .u32 (s.a : Int) ∧ vb = .int .u32 (s.b : Int) ∧ vc = .int .u32 (s.c : Int) ∧ vd = .int .u32 (s.d : Int) ∧ Hid (s = mdRounds (mdWords x.data.toList) h k) ∧ Below W2.heap.size W2 wr) (fun _ _ _ _ i _ => 64 - (intOf i).toNat)
      case atStart => exact ⟨0, h, rfl, by decide, rfl, rfl, rfl, rfl, Lib.hid rfl, Below.refl _ _⟩
      case round =>
        obtain ⟨k, s, rfl, hk, rfl, rfl, rfl, rfl, HSM, hbl⟩ := hrel
        by_cases hlt : k < 64
        · have hsok : s.ok := by rw [HSM.out]; exact mdRounds_ok _ _ hok k
          obtain ⟨sa, sb, sc, sd⟩ := s
          obtain ⟨q1, q2, q3, q4⟩ := hsok
          dsimp only at q1 q2 q3 q4 ⊢
          have hmx := fun w => mix_any k sb sc sd w hlt q2 q3 q4
          have hgl : mixG k < 16 := by unfold mixG; split; (omega); split; (omega); split <;> omega
          have hfl := mixF_lt k sb sc sd q2 q3 q4
          have z1 := (hbl.cell (p := ⟨p, 4 + k, none⟩) (by have := hO2.size; show p < _; omega)).trans (HS2.out.k k hlt)
          have z2 := (hbl.cell (p := ⟨w.heap.size, mixG k, none⟩) (show w.heap.size < W2.heap.size from block_lt_of_cell (a := ⟨w.heap.size, 0, none⟩) (HC2.out 0 (by decide)))).trans (HC2.out (mixG k) hgl)
          obtain ⟨f, hf⟩ : ∃ f, mixF k sb sc sd = f := ⟨_, rfl⟩
          obtain ⟨g, hg⟩ : ∃ g, mixG k = g := ⟨_, rfl⟩
          obtain ⟨z, hz⟩ : ∃ z, sinesT.getD k 0 = z := ⟨_, rfl⟩
          rw [hf, hg] at hmx
          rw [hf] at hfl
          rw [hz] at z1
          rw [hg] at z2 hgl
          obtain ⟨y, hy⟩ : ∃ y, mdWord x.data.toList g = y := ⟨_, rfl⟩
          rw [hy] at z2
          have hgi : (g : Int) < 16 := by omega
          have hki : (k : Int) < 64 := by omega
          have HEQ : Hid (mdRounds (mdWords x.data.toList) h (k + 1) = ⟨sd, (sb + rolN ((sa + f + z + y) % 4294967296) (turnT k)) % 4294967296, sb, sc⟩) := Lib.hid (by
            rw [mdRounds_succ, ← HSM.out]
            unfold mdRound
            dsimp only
            rw [hf, hg, hz]
            have : (mdWords x.data.toList).getD g 0 = y := by
              rw [← hy]; unfold mdWords
              rw [List.getD_eq_getElem?_getD, List.getElem?_map, List.getElem?_range (by omega)]; rfl
            rw [this])
          clear hf hg hz hy hgl
          go_wp2_with fail
          refine (hmx _).mono ?_
          rintro e w' ⟨rfl, rfl⟩
          go_wp2_with fail
          refine wp_schedL (fun w' => w'.cell? ⟨p, 4 + k, none⟩ = some (.int .u32 (z : Int)) ∧ w'.cell? ⟨w.heap.size, g, none⟩ = some (.int .u32 (y : Int))) [(0, true), (1, true), (2, true), (3, true), (4, true), (5, true), (6, true), (7, true), (8, true), (9, true), (10, true), (11, true), (12, true), (13, true), (14, true), (15, true), (16, true), (17, true), (18, true), (19, false), (20, false), (21, true), (22, true), (23, true), (24, true), (25, true)] (by kernel_rfl) (by kernel_rfl) rfl (by kernel_rfl) (by kernel_rfl) ⟨z1, z2⟩ (fun _ d _ _ _ h => by cases d <;> exact h) ?_
          simp only [schedOps, List.filterMap_cons, List.filterMap_nil, List.getElem?_toArray, List.getElem?_cons_zero, List.getElem?_cons_succ, Option.map_some]
          repeat (first | (refine' wpSched_take _ (by rfl) (fun wS hS => ?_) ?_; rotate_left; (focus (obtain ⟨j0, j1⟩ := hS; go_simp; first | done | rfl)); (try simp only [Act.put, List.setIfInBounds_toArray, List.set_cons_zero, List.set_cons_succ])) | (refine wpSched_skip (by rfl) ?_; try simp only [Act.put, List.setIfInBounds_toArray, List.set_cons_zero, List.set_cons_succ]))
          refine wpSched_run (fun K hK => ?_)
          go_wp2_with (go_at_call 104; refine (dturns_any k _ hlt).mono ?_; rintro e w' ⟨rfl, rfl⟩)
          refine QRun_normal (hK.out _ _ ⟨z1, z2⟩ ?_)
          clear hK K
          repeat (first | (refine' wpSched_take _ (by rfl) (fun wS hS => ?_) ?_; rotate_left; (focus (obtain ⟨j0, j1⟩ := hS; go_simp; first | done | rfl)); (try simp only [Act.put, List.setIfInBounds_toArray, List.set_cons_zero, List.set_cons_succ])) | (refine wpSched_skip (by rfl) ?_; try simp only [Act.put, List.setIfInBounds_toArray, List.set_cons_zero, List.set_cons_succ]))
          refine wpSched_run (fun K hK => ?_)
          go_wp2_with fail
          have hsum : ((((sa : Int) + (f : Int)) % 4294967296 + (z : Int)) % 4294967296 + (y : Int)) % 4294967296 = (((sa + f + z + y) % 4294967296 : Nat) : Int) := by omega
          rw [hsum]
          obtain ⟨X, hX⟩ : ∃ X, (sa + f + z + y) % 4294967296 = X := ⟨_, rfl⟩
          have hXl : X < 4294967296 := by rw [← hX]; exact Nat.mod_lt _ (by decide)
          rw [hX] at HEQ ⊢
          have htr := turn_range k hlt
          refine (rol_any X (turnT k) _ hXl htr.1 htr.2).mono ?_
          rintro e w' ⟨rfl, rfl⟩
          clear hsum hX htr
          go_wp2_with fail
          refine QRun_normal (hK.out _ _ ⟨z1, z2⟩ ?_)
          clear hK K
          repeat (first | (refine' wpSched_take _ (by rfl) (fun wS hS => ?_) ?_; rotate_left; (focus (obtain ⟨j0, j1⟩ := hS; go_simp; first | done | rfl)); (try simp only [Act.put, List.setIfInBounds_toArray, List.set_cons_zero, List.set_cons_succ])) | (refine wpSched_skip (by rfl) ?_; try simp only [Act.put, List.setIfInBounds_toArray, List.set_cons_zero, List.set_cons_succ]))
          refine wpSched_done ?_
          clear z1 z2
          go_wp2_with fail
          refine ⟨?_, ?measure⟩
          iterate 41 apply Exists.intro
          refine ⟨?rel, rfl⟩
          case rel => exact ⟨k + 1, ⟨sd, (sb + rolN X (turnT k)) % 4294967296, sb, sc⟩, by go_num, by omega, rfl, congrArg (Value.int .u32) (by show _ = (((sb + rolN X (turnT k)) % 4294967296 : Nat) : Int); rw [IntKind.wrap_u32]; omega), rfl, rfl, Lib.hid HEQ.out.symm, hbl.drew⟩
          case measure => simp [intOf]; omega
        · obtain rfl : k = 64 := by omega
          have hsok : s.ok := by rw [HSM.out]; exact mdRounds_ok _ _ hok 64
          have HS3 : Hid (StAt wr p h) := Lib.hid (HS2.out.only (S := fun _ => False) (Only.ofBelow hbl) (fun h => h))
          have hO3 : Only (· = w.heap.size) w wr := hO2.then hbl
          have hO4 : Only (· = p) w wr := Only.ofBelow (hO3.below (Nat.le_refl _) (fun k e => by omega))
          have HEN : Hid (mdBlock h x.data.toList = mdAdd h s) := Lib.hid (by unfold mdBlock; rw [← HSM.out])
          have HOKS := Lib.hid hsok
          obtain ⟨sa, sb, sc, sd⟩ := s
          obtain ⟨q1, q2, q3, q4⟩ := hsok
          dsimp only at q1 q2 q3 q4 ⊢
          have i0 : ∀ w, (Instr.index 118 (.agg #[.int .u32 (sa : Int), .int .u32 (sb : Int), .int .u32 (sc : Int), .int .u32 (sd : Int)]) (.int .i64 0)).run Tryz.prog w = .ok (.int .u32 (sa : Int)) w := fun w => by kernel_rfl
          have i1 : ∀ w, (Instr.index 118 (.agg #[.int .u32 (sa : Int), .int .u32 (sb : Int), .int .u32 (sc : Int), .int .u32 (sd : Int)]) (.int .i64 1)).run Tryz.prog w = .ok (.int .u32 (sb : Int)) w := fun w => by kernel_rfl
          have i2 : ∀ w, (Instr.index 118 (.agg #[.int .u32 (sa : Int), .int .u32 (sb : Int), .int .u32 (sc : Int), .int .u32 (sd : Int)]) (.int .i64 2)).run Tryz.prog w = .ok (.int .u32 (sc : Int)) w := fun w => by kernel_rfl
          have i3 : ∀ w, (Instr.index 118 (.agg #[.int .u32 (sa : Int), .int .u32 (sb : Int), .int .u32 (sc : Int), .int .u32 (sd : Int)]) (.int .i64 3)).run Tryz.prog w = .ok (.int .u32 (sd : Int)) w := fun w => by kernel_rfl
          clear hbl HSM hO2 hO3 HS2 HC2
          go_wp2_with fail
          go_loopw [13, 14, 92] (fun u v i wx => ∃ k : Nat, i = .int .i64 k ∧ k ≤ 4 ∧ (∀ j, j < 4 → wx.cell? ⟨p, j, none⟩ = some (.int .u32 (addTo h ⟨sa, sb, sc, sd⟩ k j : Int))) ∧ (∀ j, j < 4 → wx.frozen? ⟨p, j, none⟩ = false) ∧ (∀ q, q < 64 → wx.cell? ⟨p, 4 + q, none⟩ = some (.int .u32 (sinesT.getD q 0 : Int))) ∧ Only (· = p) w wx) (fun _ _ i _ => 4 - (intOf i).toNat)
          case atStart => exact ⟨0, rfl, by decide, fun j hj => by rw [HS3.out.c j hj]; unfold addTo; rw [if_neg (by omega)], HS3.out.f, HS3.out.k, hO4⟩
          case round =>
            obtain ⟨k, rfl, hk4, hc, hf, hsn, hO⟩ := hrel
            have HC := Lib.hid hc
            have HF := Lib.hid hf
            have HSN := Lib.hid hsn
            have c0 : wr.cell? ⟨p, k, none⟩ = some (.int .u32 (addTo h ⟨sa, sb, sc, sd⟩ k k : Int)) ∨ k = 4 := by
              rcases Nat.lt_or_ge k 4 with h4 | h4
              · exact .inl (hc k h4)
              · exact .inr (by omega)
            clear hc hf hsn HS3 hO4
            obtain rfl | rfl | rfl | rfl | rfl : k = 0 ∨ k = 1 ∨ k = 2 ∨ k = 3 ∨ k = 4 := by omega
            · have z : wr.cell? ⟨p, 0, none⟩ = some (.int .u32 (h.a : Int)) := by
                rcases c0 with c0 | c0
                · exact c0
                · cases c0
              have zf := HF.out 0 (by decide)
              have hs1 : IntKind.u32.wrap ((h.a : Int) + (sa : Int)) = (((h.a + sa) % 4294967296 : Nat) : Int) := by rw [IntKind.wrap_u32]; omega
              have hs2 : ((h.a : Int) + (sa : Int)) % 4294967296 = (((h.a + sa) % 4294967296 : Nat) : Int) := by omega
              have HS1 := Lib.hid hs1
              have HS2 := Lib.hid hs2
              clear c0 hs1 hs2
              go_wp2_with fail
              refine wp_schedS (fun w' => w'.cell? ⟨p, 0, none⟩ = some (.int .u32 (h.a : Int))) 11 [(0, 1), (1, 1), (2, 1), (3, 1), (4, 1), (5, 1), (6, 1), (7, 1), (8, 2), (9, 2), (10, 2), (11, 0)] (by kernel_rfl) (by kernel_rfl) rfl (by kernel_rfl) (by kernel_rfl) z (fun _ d _ _ _ h => by cases d <;> exact h) ?_
              simp only [schedOpsN, List.filterMap_cons, List.filterMap_nil, List.getElem?_toArray, List.getElem?_cons_zero, List.getElem?_cons_succ, Option.map_some]
              repeat (first | (refine' wpS_take _ (by rfl) (fun wS hS => ?_) ?_; rotate_left; (focus (obtain z0 := hS; go_simp; first | done | rfl)); (try simp only [Act.put, List.setIfInBounds_toArray, List.set_cons_zero, List.set_cons_succ])) | (refine' wpS_pure _ (by rfl) (fun wS => ?_) ?_; rotate_left; (focus (go_simp; first | done | rfl)); (try simp only [Act.put, List.setIfInBounds_toArray, List.set_cons_zero, List.set_cons_succ])) | (refine wpS_skip (by rfl) ?_; try simp only [Act.put, List.setIfInBounds_toArray, List.set_cons_zero, List.set_cons_succ]))
              refine wpS_last (fun K hK => ?_)
              go_wp2_with fail
              first | rw [HS2.out] | rw [HS1.out]
              refine QRun_normal (hK.out _ _ ?_)
              clear hK K
              go_wp2_with fail
              go_roundw
              case rel => exact ⟨0 + 1, by go_num, by decide, set_row (n := 4) (f := fun q => (addTo h ⟨sa, sb, sc, sd⟩ 0 q : Int)) (f' := fun q => (addTo h ⟨sa, sb, sc, sd⟩ (0 + 1) q : Int)) HC.out (by decide) rfl (fun q _ hq => by show ((addTo _ _ _ q : Nat) : Int) = _; rw [addTo_other _ _ _ _ hq]), fun q hq => (World.frozen?_setCell _ _ _ _).trans (HF.out q hq), fun q hq => (World.cell?_setCell_other _ _ _ _ (fun e => by injection e with e1 e2; omega)).trans (HSN.out q hq), (hO.set (.inl rfl) _).drew⟩
              case measure => simp [intOf]
            · have z : wr.cell? ⟨p, 1, none⟩ = some (.int .u32 (h.b : Int)) := by
                rcases c0 with c0 | c0
                · exact c0
                · cases c0
              have zf := HF.out 1 (by decide)
              have hs1 : IntKind.u32.wrap ((h.b : Int) + (sb : Int)) = (((h.b + sb) % 4294967296 : Nat) : Int) := by rw [IntKind.wrap_u32]; omega
              have hs2 : ((h.b : Int) + (sb : Int)) % 4294967296 = (((h.b + sb) % 4294967296 : Nat) : Int) := by omega
              have HS1 := Lib.hid hs1
              have HS2 := Lib.hid hs2
              clear c0 hs1 hs2
              go_wp2_with fail
              refine wp_schedS (fun w' => w'.cell? ⟨p, 1, none⟩ = some (.int .u32 (h.b : Int))) 11 [(0, 1), (1, 1), (2, 1), (3, 1), (4, 1), (5, 1), (6, 1), (7, 1), (8, 2), (9, 2), (10, 2), (11, 0)] (by kernel_rfl) (by kernel_rfl) rfl (by kernel_rfl) (by kernel_rfl) z (fun _ d _ _ _ h => by cases d <;> exact h) ?_
              simp only [schedOpsN, List.filterMap_cons, List.filterMap_nil, List.getElem?_toArray, List.getElem?_cons_zero, List.getElem?_cons_succ, Option.map_some]
              repeat (first | (refine' wpS_take _ (by rfl) (fun wS hS => ?_) ?_; rotate_left; (focus (obtain z0 := hS; go_simp; first | done | rfl)); (try simp only [Act.put, List.setIfInBounds_toArray, List.set_cons_zero, List.set_cons_succ])) | (refine' wpS_pure _ (by rfl) (fun wS => ?_) ?_; rotate_left; (focus (go_simp; first | done | rfl)); (try simp only [Act.put, List.setIfInBounds_toArray, List.set_cons_zero, List.set_cons_succ])) | (refine wpS_skip (by rfl) ?_; try simp only [Act.put, List.setIfInBounds_toArray, List.set_cons_zero, List.set_cons_succ]))
              refine wpS_last (fun K hK => ?_)
              go_wp2_with fail
              first | rw [HS2.out] | rw [HS1.out]
              refine QRun_normal (hK.out _ _ ?_)
              clear hK K
              go_wp2_with fail
              go_roundw
              case rel => exact ⟨1 + 1, by go_num, by decide, set_row (n := 4) (f := fun q => (addTo h ⟨sa, sb, sc, sd⟩ 1 q : Int)) (f' := fun q => (addTo h ⟨sa, sb, sc, sd⟩ (1 + 1) q : Int)) HC.out (by decide) rfl (fun q _ hq => by show ((addTo _ _ _ q : Nat) : Int) = _; rw [addTo_other _ _ _ _ hq]), fun q hq => (World.frozen?_setCell _ _ _ _).trans (HF.out q hq), fun q hq => (World.cell?_setCell_other _ _ _ _ (fun e => by injection e with e1 e2; omega)).trans (HSN.out q hq), (hO.set (.inl rfl) _).drew⟩
              case measure => simp [intOf]
            · have z : wr.cell? ⟨p, 2, none⟩ = some (.int .u32 (h.c : Int)) := by
                rcases c0 with c0 | c0
                · exact c0
                · cases c0
              have zf := HF.out 2 (by decide)
              have hs1 : IntKind.u32.wrap ((h.c : Int) + (sc : Int)) = (((h.c + sc) % 4294967296 : Nat) : Int) := by rw [IntKind.wrap_u32]; omega
              have hs2 : ((h.c : Int) + (sc : Int)) % 4294967296 = (((h.c + sc) % 4294967296 : Nat) : Int) := by omega
              have HS1 := Lib.hid hs1
              have HS2 := Lib.hid hs2
              clear c0 hs1 hs2
              go_wp2_with fail
              refine wp_schedS (fun w' => w'.cell? ⟨p, 2, none⟩ = some (.int .u32 (h.c : Int))) 11 [(0, 1), (1, 1), (2, 1), (3, 1), (4, 1), (5, 1), (6, 1), (7, 1), (8, 2), (9, 2), (10, 2), (11, 0)] (by kernel_rfl) (by kernel_rfl) rfl (by kernel_rfl) (by kernel_rfl) z (fun _ d _ _ _ h => by cases d <;> exact h) ?_
              simp only [schedOpsN, List.filterMap_cons, List.filterMap_nil, List.getElem?_toArray, List.getElem?_cons_zero, List.getElem?_cons_succ, Option.map_some]
              repeat (first | (refine' wpS_take _ (by rfl) (fun wS hS => ?_) ?_; rotate_left; (focus (obtain z0 := hS; go_simp; first | done | rfl)); (try simp only [Act.put, List.setIfInBounds_toArray, List.set_cons_zero, List.set_cons_succ])) | (refine' wpS_pure _ (by rfl) (fun wS => ?_) ?_; rotate_left; (focus (go_simp; first | done | rfl)); (try simp only [Act.put, List.setIfInBounds_toArray, List.set_cons_zero, List.set_cons_succ])) | (refine wpS_skip (by rfl) ?_; try simp only [Act.put, List.setIfInBounds_toArray, List.set_cons_zero, List.set_cons_succ]))
              refine wpS_last (fun K hK => ?_)
              go_wp2_with fail
              first | rw [HS2.out] | rw [HS1.out]
              refine QRun_normal (hK.out _ _ ?_)
              clear hK K
              go_wp2_with fail
              go_roundw
              case rel => exact ⟨2 + 1, by go_num, by decide, set_row (n := 4) (f := fun q => (addTo h ⟨sa, sb, sc, sd⟩ 2 q : Int)) (f' := fun q => (addTo h ⟨sa, sb, sc, sd⟩ (2 + 1) q : Int)) HC.out (by decide) rfl (fun q _ hq => by show ((addTo _ _ _ q : Nat) : Int) = _; rw [addTo_other _ _ _ _ hq]), fun q hq => (World.frozen?_setCell _ _ _ _).trans (HF.out q hq), fun q hq => (World.cell?_setCell_other _ _ _ _ (fun e => by injection e with e1 e2; omega)).trans (HSN.out q hq), (hO.set (.inl rfl) _).drew⟩
              case measure => simp [intOf]
            · have z : wr.cell? ⟨p, 3, none⟩ = some (.int .u32 (h.d : Int)) := by
                rcases c0 with c0 | c0
                · exact c0
                · cases c0
              have zf := HF.out 3 (by decide)
              have hs1 : IntKind.u32.wrap ((h.d : Int) + (sd : Int)) = (((h.d + sd) % 4294967296 : Nat) : Int) := by rw [IntKind.wrap_u32]; omega
              have hs2 : ((h.d : Int) + (sd : Int)) % 4294967296 = (((h.d + sd) % 4294967296 : Nat) : Int) := by omega
              have HS1 := Lib.hid hs1
              have HS2 := Lib.hid hs2
              clear c0 hs1 hs2
              go_wp2_with fail
              refine wp_schedS (fun w' => w'.cell? ⟨p, 3, none⟩ = some (.int .u32 (h.d : Int))) 11 [(0, 1), (1, 1), (2, 1), (3, 1), (4, 1), (5, 1), (6, 1), (7, 1), (8, 2), (9, 2), (10, 2), (11, 0)] (by kernel_rfl) (by kernel_rfl) rfl (by kernel_rfl) (by kernel_rfl) z (fun _ d _ _ _ h => by cases d <;> exact h) ?_
              simp only [schedOpsN, List.filterMap_cons, List.filterMap_nil, List.getElem?_toArray, List.getElem?_cons_zero, List.getElem?_cons_succ, Option.map_some]
              repeat (first | (refine' wpS_take _ (by rfl) (fun wS hS => ?_) ?_; rotate_left; (focus (obtain z0 := hS; go_simp; first | done | rfl)); (try simp only [Act.put, List.setIfInBounds_toArray, List.set_cons_zero, List.set_cons_succ])) | (refine' wpS_pure _ (by rfl) (fun wS => ?_) ?_; rotate_left; (focus (go_simp; first | done | rfl)); (try simp only [Act.put, List.setIfInBounds_toArray, List.set_cons_zero, List.set_cons_succ])) | (refine wpS_skip (by rfl) ?_; try simp only [Act.put, List.setIfInBounds_toArray, List.set_cons_zero, List.set_cons_succ]))
              refine wpS_last (fun K hK => ?_)
              go_wp2_with fail
              first | rw [HS2.out] | rw [HS1.out]
              refine QRun_normal (hK.out _ _ ?_)
              clear hK K
              go_wp2_with fail
              go_roundw
              case rel => exact ⟨3 + 1, by go_num, by decide, set_row (n := 4) (f := fun q => (addTo h ⟨sa, sb, sc, sd⟩ 3 q : Int)) (f' := fun q => (addTo h ⟨sa, sb, sc, sd⟩ (3 + 1) q : Int)) HC.out (by decide) rfl (fun q _ hq => by show ((addTo _ _ _ q : Nat) : Int) = _; rw [addTo_other _ _ _ _ hq]), fun q hq => (World.frozen?_setCell _ _ _ _).trans (HF.out q hq), fun q hq => (World.cell?_setCell_other _ _ _ _ (fun e => by injection e with e1 e2; omega)).trans (HSN.out q hq), (hO.set (.inl rfl) _).drew⟩
              case measure => simp [intOf]
            · go_wp2_with fail
              go_end0
              refine ⟨rfl, ⟨fun j hj => ?_, HSN.out, HF.out⟩, hO⟩
              rw [HC.out j hj, HEN.out, addTo_all h ⟨sa, sb, sc, sd⟩ j hj]
end Go.Proofs.YteigigepmoicaaaGreatDoor
