/- The reference's MD5: block: walked. -/
import Derived.Test.YteigigepmoicaaaGreatDoorMd5R
namespace Go.Proofs.YteigigepmoicaaaGreatDoor
open Go.RowKit
set_option linter.unusedVariables false
set_option linter.unusedSimpArgs false
/-- the state's four words -/
structure HAt (w : World) (p : Nat) (h : MdS) : Prop where
  c : ∀ j, j < 4 → w.cell? ⟨p, j, none⟩ = some (.int .u32 (hcell h j : Int))
  f : ∀ j, j < 4 → w.frozen? ⟨p, j, none⟩ = false
theorem HAt.only {S : Nat → Prop} {w w' : World} {p : Nat} {h : MdS} (hs : HAt w p h) (ho : Only S w w') (hn : ¬ S p) : HAt w' p h :=
  ⟨fun j hj => ho.cell (hs.c j hj) hn, fun j hj => (World.frozen?_of_block (ho.block p (block_lt_of_cell (hs.c 0 (by decide))) hn)).trans (hs.f j hj)⟩
theorem word4 (a b c d : Nat) (ha : a < 256) (hb : b < 256) (hc : c < 256) (hd : d < 256) : bits BinOp.or IntKind.u32 (bits BinOp.or IntKind.u32 (bits BinOp.or IntKind.u32 (a : Int) ((b : Int) * 256)) ((c : Int) * 65536)) ((d : Int) * 16777216) = ((a + 256 * b + 65536 * c + 16777216 * d : Nat) : Int) := by
  have e1 : (b : Int) * 256 = ((2 ^ 8 * b : Nat) : Int) := by omega
  have e2 : (c : Int) * 65536 = ((2 ^ 16 * c : Nat) : Int) := by omega
  have e3 : (d : Int) * 16777216 = ((2 ^ 24 * d : Nat) : Int) := by omega
  rw [e1, e2, e3, u32_or_nat a _ (by omega) (by omega)]
  have f1 := Nat.two_pow_add_eq_or_of_lt (i := 8) (b := a) (by omega) b
  rw [Nat.or_comm, ← f1, u32_or_nat _ _ (by omega) (by omega)]
  have f2 := Nat.two_pow_add_eq_or_of_lt (i := 16) (b := 2 ^ 8 * b + a) (by omega) c
  rw [Nat.or_comm, ← f2, u32_or_nat _ _ (by omega) (by omega)]
  have f3 := Nat.two_pow_add_eq_or_of_lt (i := 24) (b := 2 ^ 16 * c + (2 ^ 8 * b + a)) (by omega) d
  rw [Nat.or_comm, ← f3]
  omega
theorem not32r {x : Nat} (h : x < 4294967296) : bits BinOp.xor IntKind.u32 (x : Int) 4294967295 = ((4294967295 ^^^ x : Nat) : Int) := by
  rw [Nat.xor_comm]
  exact u32_xor_nat x 4294967295 h (by decide)
theorem mix0r (b c d : Nat) (hb : b < 4294967296) (hc : c < 4294967296) (hd : d < 4294967296) : bits BinOp.or IntKind.u32 (bits BinOp.and IntKind.u32 (b : Int) c) (bits BinOp.and IntKind.u32 (bits BinOp.xor IntKind.u32 (b : Int) 4294967295) d) = (((b &&& c) ||| ((4294967295 ^^^ b) &&& d) : Nat) : Int) := by
  rw [not32r hb, u32_and_nat b c hb hc, u32_and_nat _ d (not_lt32 hb) hd, u32_or_nat _ _ (and_lt32 hb) (and_lt32 (not_lt32 hb))]
theorem mix3r (b c d : Nat) (hb : b < 4294967296) (hc : c < 4294967296) (hd : d < 4294967296) : bits BinOp.xor IntKind.u32 (c : Int) (bits BinOp.or IntKind.u32 (b : Int) (bits BinOp.xor IntKind.u32 (d : Int) 4294967295)) = ((c ^^^ (b ||| (4294967295 ^^^ d)) : Nat) : Int) := by
  rw [not32r hd, u32_or_nat b _ hb (not_lt32 hd), u32_xor_nat c _ hc (or_lt32 hb (not_lt32 hd))]
def wordTo (x : List UInt8) (k q : Nat) : Nat := if q < k then mdWord x q else 0
theorem wordTo_other (x : List UInt8) (k q : Nat) (hq : q ≠ k) : wordTo x (k + 1) q = wordTo x k q := by
  unfold wordTo
  by_cases h1 : q < k
  · rw [if_pos h1, if_pos (by omega)]
  · rw [if_neg h1, if_neg (by omega)]
theorem set_row' {w : World} {B n j : Nat} {x : Int} {f f' : Nat → Int} (hc : ∀ q, q < n → w.cell? ⟨B, q, none⟩ = some (.int .u32 (f q))) (hj : j < n) (hv : f' j = x) (ho : ∀ q, q < n → q ≠ j → f' q = f q) : ∀ q, q < n → (w.drew.setCell ⟨B, j, none⟩ (.int .u32 x)).cell? ⟨B, q, none⟩ = some (.int .u32 (f' q)) := by
  intro q hq
  by_cases e : q = j
  · subst e
    rw [hv]
    exact World.cell?_setCell_same _ _ _ (hc q hq)
  · rw [World.cell?_setCell_other _ _ _ _ (fun h => e (by injection h with h1 h2; exact h2.symm)), ho q hq e]
    exact hc q hq
theorem set4 {w : World} {p a b c d : Nat} (A0 A1 A2 A3 : Nat) (c0 : w.cell? ⟨p, 0, none⟩ = some (.int .u32 (a : Int))) (c1 : w.cell? ⟨p, 1, none⟩ = some (.int .u32 (b : Int))) (c2 : w.cell? ⟨p, 2, none⟩ = some (.int .u32 (c : Int))) (c3 : w.cell? ⟨p, 3, none⟩ = some (.int .u32 (d : Int)))
    (f0 : w.frozen? ⟨p, 0, none⟩ = false) (f1 : w.frozen? ⟨p, 1, none⟩ = false) (f2 : w.frozen? ⟨p, 2, none⟩ = false) (f3 : w.frozen? ⟨p, 3, none⟩ = false) :
    HAt ((((w.setCell ⟨p, 0, none⟩ (.int .u32 A0)).setCell ⟨p, 1, none⟩ (.int .u32 A1)).setCell ⟨p, 2, none⟩ (.int .u32 A2)).setCell ⟨p, 3, none⟩ (.int .u32 A3)) p ⟨A0, A1, A2, A3⟩ := by
  have ne : ∀ i j : Nat, i ≠ j → (⟨p, i, none⟩ : Addr) ≠ ⟨p, j, none⟩ := fun i j h e => by injection e with e1 e2; exact h e2
  have S := fun (w : World) (i : Nat) (v x : Value) (h : w.cell? ⟨p, i, none⟩ = some v) => World.cell?_setCell_same w ⟨p, i, none⟩ x h
  have O := fun (w : World) (i j : Nat) (x : Value) (h : i ≠ j) => World.cell?_setCell_other w ⟨p, i, none⟩ ⟨p, j, none⟩ x (ne i j h)
  refine ⟨fun j hj => ?_, fun j hj => ?_⟩
  · obtain rfl | rfl | rfl | rfl : j = 0 ∨ j = 1 ∨ j = 2 ∨ j = 3 := by omega
    · rw [O _ 3 0 _ (by decide), O _ 2 0 _ (by decide), O _ 1 0 _ (by decide)]
      exact S _ 0 _ _ c0
    · rw [O _ 3 1 _ (by decide), O _ 2 1 _ (by decide)]
      exact S _ 1 _ _ ((O _ 0 1 _ (by decide)).trans c1)
    · rw [O _ 3 2 _ (by decide)]
      exact S _ 2 _ _ ((O _ 1 2 _ (by decide)).trans ((O _ 0 2 _ (by decide)).trans c2))
    · exact S _ 3 _ _ ((O _ 2 3 _ (by decide)).trans ((O _ 1 3 _ (by decide)).trans ((O _ 0 3 _ (by decide)).trans c3)))
  · rw [World.frozen?_setCell, World.frozen?_setCell, World.frozen?_setCell, World.frozen?_setCell]
    obtain rfl | rfl | rfl | rfl : j = 0 ∨ j = 1 ∨ j = 2 ∨ j = 3 := by omega
    · exact f0
    · exact f1
    · exact f2
    · exact f3
def zrow16 : Array Value := madeCells (Value.int .u32 0).cells 16
theorem make16 (w : World) : (Instr.makeSlice 74 (.int .i64 16) (.int .i64 16)).run Tryz.prog w = .ok (.slice (some ⟨w.heap.size, 0, none⟩) 16 16) (w.alloc (.cells zrow16 73)) := by kernel_rfl
set_option maxRecDepth 100000 in
set_option maxHeartbeats 8000000 in
theorem rblock_any (p : Nat) (h : MdS) (gb o cb : Nat) (x : List UInt8) (gk : Nat) (w : World) (hh : HAt w p h) (hok : h.ok)
    (hb : ∀ j, j < 64 → w.cell? ⟨gb, o + j, none⟩ = some (.int .u8 ((x.getD j 0).toNat : Int))) (hk : ∀ i, i < 64 → w.cell? ⟨gk, i, none⟩ = some (.int .u32 (sinesT.getD i 0 : Int))) :
    Calls Tryz.prog 38 #[.slice (some ⟨p, 0, none⟩) 4 4, .slice (some ⟨gb, o, none⟩) 64 cb, .slice (some ⟨gk, 0, none⟩) 64 64] w fun e w' => e = .returned (.tuple #[]) ∧ HAt w' p (mdBlock h x) ∧ Only (· = p) w w' := by
  have hpl := block_lt_of_cell (hh.c 0 (by decide))
  have hgb := block_lt_of_cell (hb 0 (by decide))
  have hgk := block_lt_of_cell (hk 0 (by decide))
  dsimp only at hpl hgb hgk
  have hmk := make16
  have hzc : ∀ j, j < 16 → (w.alloc (.cells zrow16 73)).cell? ⟨w.heap.size, j, none⟩ = some (.int .u32 0) := fun j hj => by
    rw [World.cell?_alloc_new]
    have hl : (List.range 16).map (fun j => zrow16[j]?) = (List.range 16).map (fun j => some (Value.int .u32 0)) := by kernel_rfl
    have h := congrArg (fun l => l[j]?) hl
    simp only [List.getElem?_map, List.getElem?_range hj, Option.map_some] at h
    exact Option.some.inj h
  have hzf : ∀ j, j < 16 → (w.alloc (.cells zrow16 73)).frozen? ⟨w.heap.size, j, none⟩ = false := fun j hj => by simp [go_sem]
  have HH := Lib.hid hh
  have HB := Lib.hid hb
  have HK := Lib.hid hk
  clear hh hb hk
  go_enter Tryz.func38, Tryz.ntmps38
  go_wp2_with fail
  obtain ⟨W1, hW1⟩ : ∃ W1, w.alloc (.cells zrow16 73) = W1 := ⟨_, rfl⟩
  rw [hW1] at hzc hzf ⊢
  have hB1 : Below w.heap.size w W1 := hW1 ▸ allocB (Below.refl _ _) _
  obtain ⟨M, hM⟩ : ∃ M, w.heap.size = M := ⟨_, rfl⟩
  have hM1 : M < W1.heap.size := by rw [← hW1, ← hM]; simp
  rw [hM] at hzc hzf hB1 hpl hgb hgk ⊢
  clear hmk hW1
  go_loopw [7] (fun i wr => ∃ k : Nat, i = .int .i64 k ∧ k ≤ 16 ∧ (∀ q, q < 16 → wr.cell? ⟨M, q, none⟩ = some (.int .u32 (wordTo x k q : Int))) ∧ (∀ q, q < 16 → wr.frozen? ⟨M, q, none⟩ = false) ∧ Only (· = M) W1 wr) (fun i _ => 16 - (intOf i).toNat)
  case atStart => exact ⟨0, rfl, by decide, fun j hj => by rw [hzc j hj]; rfl, hzf, Only.refl _ _⟩
  case round =>
    obtain ⟨k, rfl, hk16, hc, hf, hO⟩ := hrel
    by_cases hlt : k < 16
    · have gcell : ∀ j, j < 64 → wr.cell? ⟨gb, o + j, none⟩ = some (.int .u8 ((x.getD j 0).toNat : Int)) := fun j hj => ((hO.cell ((hB1.cell (p := ⟨gb, o + j, none⟩) hgb).trans (HB.out j hj)) (by show ¬ gb = M; omega)))
      obtain ⟨t, ht⟩ : ∃ t, 4 * k = t := ⟨_, rfl⟩
      have c0 := gcell t (by omega)
      have c1 := gcell (t + 1) (by omega)
      have c2 := gcell (t + 2) (by omega)
      have c3 := gcell (t + 3) (by omega)
      have HWD : Hid (wordTo x (k + 1) k = (x.getD t 0).toNat + 256 * (x.getD (t + 1) 0).toNat + 65536 * (x.getD (t + 2) 0).toNat + 16777216 * (x.getD (t + 3) 0).toNat) := Lib.hid (by
        unfold wordTo mdWord
        rw [if_pos (by omega), ht])
      have u0 := (x.getD t 0).toNat_lt
      have u1 := (x.getD (t + 1) 0).toNat_lt
      have u2 := (x.getD (t + 2) 0).toNat_lt
      have u3 := (x.getD (t + 3) 0).toNat_lt
      obtain ⟨b0, e0⟩ : ∃ b, (x.getD t 0).toNat = b := ⟨_, rfl⟩
      obtain ⟨b1, e1⟩ : ∃ b, (x.getD (t + 1) 0).toNat = b := ⟨_, rfl⟩
      obtain ⟨b2, e2⟩ : ∃ b, (x.getD (t + 2) 0).toNat = b := ⟨_, rfl⟩
      obtain ⟨b3, e3⟩ : ∃ b, (x.getD (t + 3) 0).toNat = b := ⟨_, rfl⟩
      rw [e0] at c0 u0 HWD
      rw [e1] at c1 u1 HWD
      rw [e2] at c2 u2 HWD
      rw [e3] at c3 u3 HWD
      have hti : 4 * (k : Int) = (t : Int) := by omega
      have ht60 : t ≤ 60 := by omega
      have ti0 : (t : Int) < 64 := by omega
      have ti1 : (t : Int) + 1 < 64 := by omega
      have ti2 : (t : Int) + 2 < 64 := by omega
      have ti3 : (t : Int) + 3 < 64 := by omega
      have tn2 : ((t : Int) + 2).toNat = t + 2 := by omega
      have tn3 : ((t : Int) + 3).toNat = t + 3 := by omega
      have wb0 : IntKind.u32.wrap (b0 : Int) = (b0 : Int) := by rw [IntKind.wrap_u32]; omega
      have wb1 : IntKind.u32.wrap (b1 : Int) = (b1 : Int) := by rw [IntKind.wrap_u32]; omega
      have wb2 : IntKind.u32.wrap (b2 : Int) = (b2 : Int) := by rw [IntKind.wrap_u32]; omega
      have wb3 : IntKind.u32.wrap (b3 : Int) = (b3 : Int) := by rw [IntKind.wrap_u32]; omega
      have wm1 : IntKind.u32.wrap ((b1 : Int) * 256) = (b1 : Int) * 256 := by rw [IntKind.wrap_u32]; omega
      have wm2 : IntKind.u32.wrap ((b2 : Int) * 65536) = (b2 : Int) * 65536 := by rw [IntKind.wrap_u32]; omega
      have wm3 : IntKind.u32.wrap ((b3 : Int) * 16777216) = (b3 : Int) * 16777216 := by rw [IntKind.wrap_u32]; omega
      have tw0 : IntKind.i64.wrap (t : Int) = (t : Int) := IntWalk.i64_in _ (by omega)
      have tw1 : IntKind.i64.wrap ((t : Int) + 1) = (t : Int) + 1 := IntWalk.i64_in _ (by omega)
      have tw2 : IntKind.i64.wrap ((t : Int) + 2) = (t : Int) + 2 := IntWalk.i64_in _ (by omega)
      have tw3 : IntKind.i64.wrap ((t : Int) + 3) = (t : Int) + 3 := IntWalk.i64_in _ (by omega)
      have hki : (k : Int) < 16 := by omega
      have h4 := word4 b0 b1 b2 b3 u0 u1 u2 u3
      have H4 := Lib.hid h4
      have hfk := hf k hlt
      have hck := hc k hlt
      have HF := Lib.hid hf
      have HC := Lib.hid hc
      have HT := Lib.hid ht
      clear h4 e0 e1 e2 e3 gcell ht hf hc hzc hzf
      go_wp2_with fail
      refine wp_schedL (fun w' => w'.cell? ⟨gb, o + t, none⟩ = some (.int .u8 (b0 : Int)) ∧ w'.cell? ⟨gb, o + (t + 1), none⟩ = some (.int .u8 (b1 : Int)) ∧ w'.cell? ⟨gb, o + (t + 2), none⟩ = some (.int .u8 (b2 : Int)) ∧ w'.cell? ⟨gb, o + (t + 3), none⟩ = some (.int .u8 (b3 : Int))) [(0, true), (1, true), (2, true), (3, true), (4, true), (5, true), (6, true), (7, true), (8, true), (9, true), (10, true), (11, true), (12, true), (13, true), (14, true), (15, true), (16, true), (17, true), (18, true), (19, true), (20, true), (21, true), (22, true), (23, true), (24, true), (25, true), (26, true), (27, true), (28, true), (29, true), (30, true), (31, true), (32, true), (33, true), (34, true), (35, true), (36, false)] (by kernel_rfl) (by kernel_rfl) rfl (by kernel_rfl) (by kernel_rfl) ⟨c0, c1, c2, c3⟩ (fun _ d _ _ _ h => by cases d <;> exact h) ?_
      simp only [schedOps, List.filterMap_cons, List.filterMap_nil, List.getElem?_toArray, List.getElem?_cons_zero, List.getElem?_cons_succ, Option.map_some]
      repeat (first | (refine' wpSched_take _ (by rfl) (fun wS hS => ?_) ?_; rotate_left; (focus (obtain ⟨j0, j1, j2, j3⟩ := hS; go_simp; first | done | rfl)); (try simp only [Act.put, List.setIfInBounds_toArray, List.set_cons_zero, List.set_cons_succ])) | (refine wpSched_skip (by rfl) ?_; try simp only [Act.put, List.setIfInBounds_toArray, List.set_cons_zero, List.set_cons_succ]))
      refine wpSched_run (fun K hK => ?_)
      go_wp2_with fail
      rw [H4.out, ← HWD.out]
      refine QRun_normal (hK.out _ _ ⟨?_, ?_, ?_, ?_⟩ ?_)
      · exact (World.cell?_setCell_other _ _ _ _ (fun e => by injection e with e1 e2; omega)).trans c0
      · exact (World.cell?_setCell_other _ _ _ _ (fun e => by injection e with e1 e2; omega)).trans c1
      · exact (World.cell?_setCell_other _ _ _ _ (fun e => by injection e with e1 e2; omega)).trans c2
      · exact (World.cell?_setCell_other _ _ _ _ (fun e => by injection e with e1 e2; omega)).trans c3
      clear hK K
      refine wpSched_done ?_
      go_wp2_with fail
      go_roundw
      case rel => exact ⟨k + 1, by go_num, by omega, set_row' (f := fun q => (wordTo x k q : Int)) (f' := fun q => (wordTo x (k + 1) q : Int)) HC.out hlt rfl (fun q _ hq => by show ((wordTo _ _ _ : Nat) : Int) = _; rw [wordTo_other _ _ _ hq]), fun q hq => (World.frozen?_setCell _ _ _ _).trans (HF.out q hq), hO.drew.set (.inl rfl) _⟩
      case measure => simp [intOf]; omega
    · obtain rfl : k = 16 := by omega
      have hB1' : Below w.heap.size w W1 := by rw [hM]; exact hB1
      have hO1 : Only (· = M) w wr := (Only.ofBelow hB1').trans hO
      have hhr : HAt wr p h := HH.out.only hO1 (by omega)
      have k0 : wr.cell? ⟨p, 0, none⟩ = some (.int .u32 (h.a : Int)) := hhr.c 0 (by decide)
      have k1 : wr.cell? ⟨p, 1, none⟩ = some (.int .u32 (h.b : Int)) := hhr.c 1 (by decide)
      have k2 : wr.cell? ⟨p, 2, none⟩ = some (.int .u32 (h.c : Int)) := hhr.c 2 (by decide)
      have k3 : wr.cell? ⟨p, 3, none⟩ = some (.int .u32 (h.d : Int)) := hhr.c 3 (by decide)
      have HMW : Hid (∀ q, q < 16 → wr.cell? ⟨M, q, none⟩ = some (.int .u32 (mdWord x q : Int))) := Lib.hid (fun q hq => by rw [hc q hq]; unfold wordTo; rw [if_pos hq])
      have HKW : Hid (∀ i, i < 64 → wr.cell? ⟨gk, i, none⟩ = some (.int .u32 (sinesT.getD i 0 : Int))) := Lib.hid (fun i hi => hO1.cell (HK.out i hi) (by show ¬ gk = M; omega))
      have HHR := Lib.hid hhr
      have HO1 := Lib.hid hO1
      clear hc hf hO hB1 hB1' hhr hzc hzf HB HK HH hO1 hgb
      go_wp2_with fail
      refine wp_schedL (fun w' => w'.cell? ⟨p, 0, none⟩ = some (.int .u32 (h.a : Int)) ∧ w'.cell? ⟨p, 1, none⟩ = some (.int .u32 (h.b : Int)) ∧ w'.cell? ⟨p, 2, none⟩ = some (.int .u32 (h.c : Int)) ∧ w'.cell? ⟨p, 3, none⟩ = some (.int .u32 (h.d : Int))) [(0, true), (1, true), (2, true), (3, true), (4, true), (5, true), (6, true), (7, true), (8, true), (9, true), (10, true), (11, true), (12, true), (13, true), (14, true), (15, true)] (by kernel_rfl) (by kernel_rfl) rfl (by kernel_rfl) (by kernel_rfl) ⟨k0, k1, k2, k3⟩ (fun _ d _ _ _ h => by cases d <;> exact h) ?_
      simp only [schedOps, List.filterMap_cons, List.filterMap_nil, List.getElem?_toArray, List.getElem?_cons_zero, List.getElem?_cons_succ, Option.map_some]
      repeat (first | (refine' wpSched_take _ (by rfl) (fun wS hS => ?_) ?_; rotate_left; (focus (obtain ⟨j0, j1, j2, j3⟩ := hS; go_simp; first | done | rfl)); (try simp only [Act.put, List.setIfInBounds_toArray, List.set_cons_zero, List.set_cons_succ])) | (refine wpSched_skip (by rfl) ?_; try simp only [Act.put, List.setIfInBounds_toArray, List.set_cons_zero, List.set_cons_succ]))
      refine wpSched_done ?_
      clear k0 k1 k2 k3
      go_wp2_with fail
      obtain ⟨W2, hW2⟩ : ∃ W2, wr.drew = W2 := ⟨_, rfl⟩
      have HM2 : Hid (∀ q, q < 16 → W2.cell? ⟨M, q, none⟩ = some (.int .u32 (mdWord x q : Int))) := hW2 ▸ HMW
      have HK2 : Hid (∀ i, i < 64 → W2.cell? ⟨gk, i, none⟩ = some (.int .u32 (sinesT.getD i 0 : Int))) := hW2 ▸ HKW
      have HH2 : Hid (HAt W2 p h) := hW2 ▸ Lib.hid (HHR.out.only (Only.refl (fun _ => False) wr).drew (fun h => h))
      have HO2 : Hid (Only (· = M) w W2) := hW2 ▸ Lib.hid HO1.out.drew
      rw [hW2]
      clear hW2 HMW HKW HHR HO1
      go_loopw [8, 9, 10, 11, 12] (fun va vb vc vd i wr => ∃ (k : Nat) (s : MdS), i = .int .i64 k ∧ k ≤ 64 ∧ va = .int .u32 (s.a : Int) ∧ vb = .int .u32 (s.b : Int) ∧ vc = .int .u32 (s.c : Int) ∧ vd = .int .u32 (s.d : Int) ∧ Hid (s = mdRounds (mdWords x) h k) ∧ Below W2.heap.size W2 wr) (fun _ _ _ _ i _ => 64 - (intOf i).toNat)
      case atStart => exact ⟨0, h, rfl, by decide, rfl, rfl, rfl, rfl, Lib.hid rfl, Below.refl _ _⟩
      case round =>
        obtain ⟨k, s, rfl, hk, rfl, rfl, rfl, rfl, HSM, hbl⟩ := hrel
        by_cases hlt : k < 64
        · have hsok : s.ok := by rw [HSM.out]; exact mdRounds_ok _ _ hok k
          obtain ⟨sa, sb, sc, sd⟩ := s
          obtain ⟨q1, q2, q3, q4⟩ := hsok
          dsimp only at q1 q2 q3 q4 ⊢
          have hgl : mixG k < 16 := by unfold mixG; split; (omega); split; (omega); split <;> omega
          have hfl := mixF_lt k sb sc sd q2 q3 q4
          have z1 := (hbl.cell (p := ⟨gk, k, none⟩) (block_lt_of_cell (HK2.out k hlt))).trans (HK2.out k hlt)
          have z2 := (hbl.cell (p := ⟨M, mixG k, none⟩) (block_lt_of_cell (HM2.out (mixG k) hgl))).trans (HM2.out (mixG k) hgl)
          obtain ⟨f, hf⟩ : ∃ f, mixF k sb sc sd = f := ⟨_, rfl⟩
          obtain ⟨g, hg⟩ : ∃ g, mixG k = g := ⟨_, rfl⟩
          obtain ⟨z, hz⟩ : ∃ z, sinesT.getD k 0 = z := ⟨_, rfl⟩
          rw [hz] at z1
          rw [hg] at z2 hgl
          rw [hf] at hfl
          obtain ⟨y, hy⟩ : ∃ y, mdWord x g = y := ⟨_, rfl⟩
          rw [hy] at z2
          obtain ⟨X, hX⟩ : ∃ X, (sa + f + z + y) % 4294967296 = X := ⟨_, rfl⟩
          obtain ⟨T, hT⟩ : ∃ T, turnT k = T := ⟨_, rfl⟩
          have HEQ : Hid (mdRounds (mdWords x) h (k + 1) = ⟨sd, (sb + rolN X T) % 4294967296, sb, sc⟩) := Lib.hid (by
            rw [mdRounds_succ, ← HSM.out]
            unfold mdRound
            dsimp only
            rw [hf, hg, hz]
            have : (mdWords x).getD g 0 = y := by
              rw [← hy]; unfold mdWords
              rw [List.getD_eq_getElem?_getD, List.getElem?_map, List.getElem?_range (by omega)]; rfl
            rw [this, hX, hT])
          have hXl : X < 4294967296 := by rw [← hX]; exact Nat.mod_lt _ (by decide)
          have htr := turn_range k hlt
          rw [hT] at htr
          have htn := fun w => rturns_any k w hlt
          rw [hT] at htn
          have hgi : (g : Int) < 16 := by omega
          have hki : (k : Int) < 64 := by omega
          obtain ⟨S1, hS1⟩ : ∃ S, (f + sa) % 4294967296 = S := ⟨_, rfl⟩
          obtain ⟨S2, hS2⟩ : ∃ S, (S1 + z) % 4294967296 = S := ⟨_, rfl⟩
          have s1 : IntKind.u32.wrap ((f : Int) + (sa : Int)) = (S1 : Int) := by rw [IntKind.wrap_u32]; omega
          have s2 : IntKind.u32.wrap ((S1 : Int) + (z : Int)) = (S2 : Int) := by rw [IntKind.wrap_u32]; omega
          have s3 : IntKind.u32.wrap ((S2 : Int) + (y : Int)) = (X : Int) := by rw [IntKind.wrap_u32]; omega
          have HROL := Lib.hid (rol_int X T hXl htr.1 htr.2)
          have HS4 : Hid (IntKind.u32.wrap ((sb : Int) + (rolN X T : Int)) = (((sb + rolN X T) % 4294967296 : Nat) : Int)) := Lib.hid (by rw [IntKind.wrap_u32]; omega)
          have HXW : Hid (IntKind.u32.wrap ((X : Int) * 2 ^ T) = (X : Int) * 2 ^ T % 4294967296) := Lib.hid (IntKind.wrap_u32 _)
          obtain ⟨R, hR⟩ : ∃ R, 32 - T = R := ⟨_, rfl⟩
          have hRi : 32 - (T : Int) = (R : Int) := by omega
          have hRw : IntKind.i64.wrap (R : Int) = (R : Int) := IntWalk.i64_in _ (by omega)
          have hR0 : ¬ (R : Int) < 0 := by omega
          have hT0 : ¬ (T : Int) < 0 := by omega
          rw [hR] at HROL
          have hdv : (k : Int).tdiv 16 = ((k / 16 : Nat) : Int) := by rw [Int.tdiv_eq_ediv_of_nonneg (by omega)]; omega
          obtain ⟨q, hq⟩ : ∃ q, k / 16 = q := ⟨_, rfl⟩
          rw [hq] at hdv
          have HF := Lib.hid hf
          have HG := Lib.hid hg
          have HQ := Lib.hid hq
          have m0 := mix0r sb sc sd q2 q3 q4
          have m1 := mix0r sd sb sc q4 q2 q3
          have m2 := mix2 sb sc sd q2 q3 q4
          have m3 := mix3r sb sc sd q2 q3 q4
          have M0 := Lib.hid m0
          have M1 := Lib.hid m1
          have M2 := Lib.hid m2
          have M3 := Lib.hid m3
          have hq4 : q < 4 := by omega
          clear hf hg hz hy hX hT hS1 hS2 hR hq m0 m1 m2 m3
          obtain rfl | rfl | rfl | rfl : q = 0 ∨ q = 1 ∨ q = 2 ∨ q = 3 := by omega
          · have ef : f = (sb &&& sc) ||| ((4294967295 ^^^ sb) &&& sd) := by
              rw [← HF.out]; unfold mixF; have := HQ.out; rw [if_pos (by omega)]
            have eg : (k : Int) = (g : Int) := by
              rw [← HG.out]; unfold mixG; have := HQ.out; rw [if_pos (by omega)]
            have EF := Lib.hid ef
            have EG := Lib.hid eg
            clear ef eg
            go_wp2_with fail
            rw [M0.out, ← EF.out]
            obtain rfl : k = g := by have := EG.out; omega
            refine wp_schedL (fun w' => w'.cell? ⟨gk, k, none⟩ = some (.int .u32 (z : Int)) ∧ w'.cell? ⟨M, k, none⟩ = some (.int .u32 (y : Int))) [(0, true), (1, true), (2, true), (3, true), (4, true), (5, true), (6, true), (7, true), (8, true), (9, true), (10, true), (11, true), (12, true), (13, true)] (by kernel_rfl) (by kernel_rfl) rfl (by kernel_rfl) (by kernel_rfl) ⟨z1, z2⟩ (fun _ d _ _ _ h => by cases d <;> exact h) ?_
            simp only [schedOps, List.filterMap_cons, List.filterMap_nil, List.getElem?_toArray, List.getElem?_cons_zero, List.getElem?_cons_succ, Option.map_some]
            repeat (first | (refine' wpSched_take _ (by rfl) (fun wS hS => ?_) ?_; rotate_left; (focus (obtain ⟨j0, j1⟩ := hS; go_simp; first | done | rfl)); (try simp only [Act.put, List.setIfInBounds_toArray, List.set_cons_zero, List.set_cons_succ])) | (refine wpSched_skip (by rfl) ?_; try simp only [Act.put, List.setIfInBounds_toArray, List.set_cons_zero, List.set_cons_succ]))
            refine wpSched_done ?_
            go_wp2_with (go_at_call 59; refine (htn _).mono ?_; rintro e w2 ⟨rfl, hb2⟩)
            refine wp_schedL (fun w' => True) [(0, true), (1, true), (2, true), (3, true), (4, true), (5, true), (6, true), (7, true), (8, true), (9, true), (10, true)] (by kernel_rfl) (by kernel_rfl) rfl (by kernel_rfl) (by kernel_rfl) trivial (fun _ d _ _ _ h => by cases d <;> exact h) ?_
            simp only [schedOps, List.filterMap_cons, List.filterMap_nil, List.getElem?_toArray, List.getElem?_cons_zero, List.getElem?_cons_succ, Option.map_some]
            repeat (first | (refine' wpSched_take _ (by rfl) (fun wS hS => ?_) ?_; rotate_left; (focus (obtain _ := hS; go_simp; first | done | rfl)); (try simp only [Act.put, List.setIfInBounds_toArray, List.set_cons_zero, List.set_cons_succ])) | (refine wpSched_skip (by rfl) ?_; try simp only [Act.put, List.setIfInBounds_toArray, List.set_cons_zero, List.set_cons_succ]))
            refine wpSched_done ?_
            rw [HXW.out, HROL.out, HS4.out]
            go_wp2_with fail
            refine ⟨?_, ?measure⟩
            iterate 87 apply Exists.intro
            refine ⟨?rel, rfl⟩
            case rel => exact ⟨k + 1, ⟨sd, (sb + rolN X T) % 4294967296, sb, sc⟩, by go_num, by omega, rfl, rfl, rfl, rfl, Lib.hid HEQ.out.symm, (seqB hbl.drew hb2).drew⟩
            case measure => simp [intOf]; omega
          · have ef : f = (sd &&& sb) ||| ((4294967295 ^^^ sd) &&& sc) := by
              rw [← HF.out]; unfold mixF; have := HQ.out; rw [if_neg (by omega)]; rw [if_pos (by omega)]
            have eg : (5 * (k : Int) + 1) % 16 = (g : Int) := by
              rw [← HG.out]; unfold mixG; have := HQ.out; rw [if_neg (by omega)]; rw [if_pos (by omega)]; omega
            have EF := Lib.hid ef
            have EG := Lib.hid eg
            clear ef eg
            go_wp2_with fail
            rw [M1.out, ← EF.out, EG.out]
            refine wp_schedL (fun w' => w'.cell? ⟨gk, k, none⟩ = some (.int .u32 (z : Int)) ∧ w'.cell? ⟨M, g, none⟩ = some (.int .u32 (y : Int))) [(0, true), (1, true), (2, true), (3, true), (4, true), (5, true), (6, true), (7, true), (8, true), (9, true), (10, true), (11, true), (12, true), (13, true)] (by kernel_rfl) (by kernel_rfl) rfl (by kernel_rfl) (by kernel_rfl) ⟨z1, z2⟩ (fun _ d _ _ _ h => by cases d <;> exact h) ?_
            simp only [schedOps, List.filterMap_cons, List.filterMap_nil, List.getElem?_toArray, List.getElem?_cons_zero, List.getElem?_cons_succ, Option.map_some]
            repeat (first | (refine' wpSched_take _ (by rfl) (fun wS hS => ?_) ?_; rotate_left; (focus (obtain ⟨j0, j1⟩ := hS; go_simp; first | done | rfl)); (try simp only [Act.put, List.setIfInBounds_toArray, List.set_cons_zero, List.set_cons_succ])) | (refine wpSched_skip (by rfl) ?_; try simp only [Act.put, List.setIfInBounds_toArray, List.set_cons_zero, List.set_cons_succ]))
            refine wpSched_done ?_
            go_wp2_with (go_at_call 59; refine (htn _).mono ?_; rintro e w2 ⟨rfl, hb2⟩)
            refine wp_schedL (fun w' => True) [(0, true), (1, true), (2, true), (3, true), (4, true), (5, true), (6, true), (7, true), (8, true), (9, true), (10, true)] (by kernel_rfl) (by kernel_rfl) rfl (by kernel_rfl) (by kernel_rfl) trivial (fun _ d _ _ _ h => by cases d <;> exact h) ?_
            simp only [schedOps, List.filterMap_cons, List.filterMap_nil, List.getElem?_toArray, List.getElem?_cons_zero, List.getElem?_cons_succ, Option.map_some]
            repeat (first | (refine' wpSched_take _ (by rfl) (fun wS hS => ?_) ?_; rotate_left; (focus (obtain _ := hS; go_simp; first | done | rfl)); (try simp only [Act.put, List.setIfInBounds_toArray, List.set_cons_zero, List.set_cons_succ])) | (refine wpSched_skip (by rfl) ?_; try simp only [Act.put, List.setIfInBounds_toArray, List.set_cons_zero, List.set_cons_succ]))
            refine wpSched_done ?_
            rw [HXW.out, HROL.out, HS4.out]
            go_wp2_with fail
            refine ⟨?_, ?measure⟩
            iterate 87 apply Exists.intro
            refine ⟨?rel, rfl⟩
            case rel => exact ⟨k + 1, ⟨sd, (sb + rolN X T) % 4294967296, sb, sc⟩, by go_num, by omega, rfl, rfl, rfl, rfl, Lib.hid HEQ.out.symm, (seqB hbl.drew hb2).drew⟩
            case measure => simp [intOf]; omega
          · have ef : f = (sb ^^^ sc) ^^^ sd := by
              rw [← HF.out]; unfold mixF; have := HQ.out; rw [if_neg (by omega)]; rw [if_neg (by omega)]; rw [if_pos (by omega)]
            have eg : (3 * (k : Int) + 5) % 16 = (g : Int) := by
              rw [← HG.out]; unfold mixG; have := HQ.out; rw [if_neg (by omega)]; rw [if_neg (by omega)]; rw [if_pos (by omega)]; omega
            have EF := Lib.hid ef
            have EG := Lib.hid eg
            clear ef eg
            go_wp2_with fail
            rw [M2.out, ← EF.out, EG.out]
            refine wp_schedL (fun w' => w'.cell? ⟨gk, k, none⟩ = some (.int .u32 (z : Int)) ∧ w'.cell? ⟨M, g, none⟩ = some (.int .u32 (y : Int))) [(0, true), (1, true), (2, true), (3, true), (4, true), (5, true), (6, true), (7, true), (8, true), (9, true), (10, true), (11, true), (12, true), (13, true)] (by kernel_rfl) (by kernel_rfl) rfl (by kernel_rfl) (by kernel_rfl) ⟨z1, z2⟩ (fun _ d _ _ _ h => by cases d <;> exact h) ?_
            simp only [schedOps, List.filterMap_cons, List.filterMap_nil, List.getElem?_toArray, List.getElem?_cons_zero, List.getElem?_cons_succ, Option.map_some]
            repeat (first | (refine' wpSched_take _ (by rfl) (fun wS hS => ?_) ?_; rotate_left; (focus (obtain ⟨j0, j1⟩ := hS; go_simp; first | done | rfl)); (try simp only [Act.put, List.setIfInBounds_toArray, List.set_cons_zero, List.set_cons_succ])) | (refine wpSched_skip (by rfl) ?_; try simp only [Act.put, List.setIfInBounds_toArray, List.set_cons_zero, List.set_cons_succ]))
            refine wpSched_done ?_
            go_wp2_with (go_at_call 59; refine (htn _).mono ?_; rintro e w2 ⟨rfl, hb2⟩)
            refine wp_schedL (fun w' => True) [(0, true), (1, true), (2, true), (3, true), (4, true), (5, true), (6, true), (7, true), (8, true), (9, true), (10, true)] (by kernel_rfl) (by kernel_rfl) rfl (by kernel_rfl) (by kernel_rfl) trivial (fun _ d _ _ _ h => by cases d <;> exact h) ?_
            simp only [schedOps, List.filterMap_cons, List.filterMap_nil, List.getElem?_toArray, List.getElem?_cons_zero, List.getElem?_cons_succ, Option.map_some]
            repeat (first | (refine' wpSched_take _ (by rfl) (fun wS hS => ?_) ?_; rotate_left; (focus (obtain _ := hS; go_simp; first | done | rfl)); (try simp only [Act.put, List.setIfInBounds_toArray, List.set_cons_zero, List.set_cons_succ])) | (refine wpSched_skip (by rfl) ?_; try simp only [Act.put, List.setIfInBounds_toArray, List.set_cons_zero, List.set_cons_succ]))
            refine wpSched_done ?_
            rw [HXW.out, HROL.out, HS4.out]
            go_wp2_with fail
            refine ⟨?_, ?measure⟩
            iterate 87 apply Exists.intro
            refine ⟨?rel, rfl⟩
            case rel => exact ⟨k + 1, ⟨sd, (sb + rolN X T) % 4294967296, sb, sc⟩, by go_num, by omega, rfl, rfl, rfl, rfl, Lib.hid HEQ.out.symm, (seqB hbl.drew hb2).drew⟩
            case measure => simp [intOf]; omega
          · have ef : f = sc ^^^ (sb ||| (4294967295 ^^^ sd)) := by
              rw [← HF.out]; unfold mixF; have := HQ.out; rw [if_neg (by omega)]; rw [if_neg (by omega)]; rw [if_neg (by omega)]
            have eg : 7 * (k : Int) % 16 = (g : Int) := by
              rw [← HG.out]; unfold mixG; have := HQ.out; rw [if_neg (by omega)]; rw [if_neg (by omega)]; rw [if_neg (by omega)]; omega
            have EF := Lib.hid ef
            have EG := Lib.hid eg
            clear ef eg
            go_wp2_with fail
            rw [M3.out, ← EF.out, EG.out]
            refine wp_schedL (fun w' => w'.cell? ⟨gk, k, none⟩ = some (.int .u32 (z : Int)) ∧ w'.cell? ⟨M, g, none⟩ = some (.int .u32 (y : Int))) [(0, true), (1, true), (2, true), (3, true), (4, true), (5, true), (6, true), (7, true), (8, true), (9, true), (10, true), (11, true), (12, true), (13, true)] (by kernel_rfl) (by kernel_rfl) rfl (by kernel_rfl) (by kernel_rfl) ⟨z1, z2⟩ (fun _ d _ _ _ h => by cases d <;> exact h) ?_
            simp only [schedOps, List.filterMap_cons, List.filterMap_nil, List.getElem?_toArray, List.getElem?_cons_zero, List.getElem?_cons_succ, Option.map_some]
            repeat (first | (refine' wpSched_take _ (by rfl) (fun wS hS => ?_) ?_; rotate_left; (focus (obtain ⟨j0, j1⟩ := hS; go_simp; first | done | rfl)); (try simp only [Act.put, List.setIfInBounds_toArray, List.set_cons_zero, List.set_cons_succ])) | (refine wpSched_skip (by rfl) ?_; try simp only [Act.put, List.setIfInBounds_toArray, List.set_cons_zero, List.set_cons_succ]))
            refine wpSched_done ?_
            go_wp2_with (go_at_call 59; refine (htn _).mono ?_; rintro e w2 ⟨rfl, hb2⟩)
            refine wp_schedL (fun w' => True) [(0, true), (1, true), (2, true), (3, true), (4, true), (5, true), (6, true), (7, true), (8, true), (9, true), (10, true)] (by kernel_rfl) (by kernel_rfl) rfl (by kernel_rfl) (by kernel_rfl) trivial (fun _ d _ _ _ h => by cases d <;> exact h) ?_
            simp only [schedOps, List.filterMap_cons, List.filterMap_nil, List.getElem?_toArray, List.getElem?_cons_zero, List.getElem?_cons_succ, Option.map_some]
            repeat (first | (refine' wpSched_take _ (by rfl) (fun wS hS => ?_) ?_; rotate_left; (focus (obtain _ := hS; go_simp; first | done | rfl)); (try simp only [Act.put, List.setIfInBounds_toArray, List.set_cons_zero, List.set_cons_succ])) | (refine wpSched_skip (by rfl) ?_; try simp only [Act.put, List.setIfInBounds_toArray, List.set_cons_zero, List.set_cons_succ]))
            refine wpSched_done ?_
            rw [HXW.out, HROL.out, HS4.out]
            go_wp2_with fail
            refine ⟨?_, ?measure⟩
            iterate 87 apply Exists.intro
            refine ⟨?rel, rfl⟩
            case rel => exact ⟨k + 1, ⟨sd, (sb + rolN X T) % 4294967296, sb, sc⟩, by go_num, by omega, rfl, rfl, rfl, rfl, Lib.hid HEQ.out.symm, (seqB hbl.drew hb2).drew⟩
            case measure => simp [intOf]; omega
        · obtain rfl : k = 64 := by omega
          have hsok : s.ok := by rw [HSM.out]; exact mdRounds_ok _ _ hok 64
          have hHr : HAt wr p h := HH2.out.only (S := fun _ => False) (Only.ofBelow hbl) (fun h => h)
          have hO3 : Only (· = M) w wr := HO2.out.then hbl
          have HO4 : Hid (Only (· = p) w wr) := Lib.hid (Only.ofBelow (hO3.below (Nat.le_refl _) (fun k e => by omega)))
          have HEN : Hid (mdBlock h x = mdAdd h s) := Lib.hid (by unfold mdBlock; rw [← HSM.out])
          obtain ⟨sa, sb, sc, sd⟩ := s
          obtain ⟨ha, hb, hc, hd⟩ := h
          have c0 : wr.cell? ⟨p, 0, none⟩ = some (.int .u32 (ha : Int)) := hHr.c 0 (by decide)
          have c1 : wr.cell? ⟨p, 1, none⟩ = some (.int .u32 (hb : Int)) := hHr.c 1 (by decide)
          have c2 : wr.cell? ⟨p, 2, none⟩ = some (.int .u32 (hc : Int)) := hHr.c 2 (by decide)
          have c3 : wr.cell? ⟨p, 3, none⟩ = some (.int .u32 (hd : Int)) := hHr.c 3 (by decide)
          have f0 := hHr.f 0 (by decide)
          have f1 := hHr.f 1 (by decide)
          have f2 := hHr.f 2 (by decide)
          have f3 := hHr.f 3 (by decide)
          obtain ⟨A0, hA0⟩ : ∃ A, (ha + sa) % 4294967296 = A := ⟨_, rfl⟩
          obtain ⟨A1, hA1⟩ : ∃ A, (hb + sb) % 4294967296 = A := ⟨_, rfl⟩
          obtain ⟨A2, hA2⟩ : ∃ A, (hc + sc) % 4294967296 = A := ⟨_, rfl⟩
          obtain ⟨A3, hA3⟩ : ∃ A, (hd + sd) % 4294967296 = A := ⟨_, rfl⟩
          have a0 : ((ha : Int) + (sa : Int)) % 4294967296 = (A0 : Int) := by omega
          have a1 : ((hb : Int) + (sb : Int)) % 4294967296 = (A1 : Int) := by omega
          have a2 : ((hc : Int) + (sc : Int)) % 4294967296 = (A2 : Int) := by omega
          have a3 : ((hd : Int) + (sd : Int)) % 4294967296 = (A3 : Int) := by omega
          have HAD : Hid (mdAdd ⟨ha, hb, hc, hd⟩ ⟨sa, sb, sc, sd⟩ = ⟨A0, A1, A2, A3⟩) := Lib.hid (by unfold mdAdd; rw [← hA0, ← hA1, ← hA2, ← hA3])
          have HF0 := Lib.hid (And.intro f0 (And.intro f1 (And.intro f2 f3)))
          have HC0 := Lib.hid (And.intro c0 (And.intro c1 (And.intro c2 c3)))
          clear hA0 hA1 hA2 hA3 hHr hO3 HSM hsok
          go_wp2_with fail
          go_end0
          refine ⟨rfl, ?_, (((HO4.out.set (.inl rfl) _).set (.inl rfl) _).set (.inl rfl) _).set (.inl rfl) _⟩
          rw [HEN.out, HAD.out]
          exact set4 A0 A1 A2 A3 HC0.out.1 HC0.out.2.1 HC0.out.2.2.1 HC0.out.2.2.2 HF0.out.1 HF0.out.2.1 HF0.out.2.2.1 HF0.out.2.2.2
end Go.Proofs.YteigigepmoicaaaGreatDoor
