/- The reference's automaton: row, action, Step. The reference's automaton: action, Step. -/
import Derived.Test.YtagnbdenecphcaaGreatDoorMg1
/-! The reference's automaton: row, action, Step. -/
namespace Go.Proofs.YtagnbdenecphcaaGreatDoor
open Go.RowKit
set_option linter.unusedVariables false
def rowCells (v : Nat) : Array Value := ((tableT.getD v []).map fun c => Value.string (bytesOf c)).toArray
theorem rowCells_all : (List.range 160).map (fun i => (rowCells (i / 10))[i % 10]?) = (List.range 160).map (fun i => some (Value.string (bytesOf (cellT (i / 10) (i % 10))))) := by kernel_rfl
theorem rowCells_at (v s : Nat) (hv : v < 16) (hs : s < 10) : (rowCells v)[s]? = some (.string (bytesOf (cellT v s))) := by
  have h := congrArg (·[v * 10 + s]?) rowCells_all
  simp only [List.getElem?_map, List.getElem?_range (show v * 10 + s < 160 by omega), Option.map_some] at h
  have e1 : (v * 10 + s) / 10 = v := by omega
  have e2 : (v * 10 + s) % 10 = s := by omega
  rw [e1, e2] at h
  exact Option.some.inj h
set_option maxRecDepth 100000 in
set_option maxHeartbeats 4000000 in
theorem rrow_in (v : Nat) (w : World) (hv : v < 16) : Calls Tryz.prog 65 #[.int .i64 v] w fun e w' => e = .returned (.slice (some ⟨w.heap.size, 0, none⟩) 10 10) ∧ w' = w.alloc (.cells (rowCells v) 9) := by
  have hc : v = 0 ∨ v = 1 ∨ v = 2 ∨ v = 3 ∨ v = 4 ∨ v = 5 ∨ v = 6 ∨ v = 7 ∨ v = 8 ∨ v = 9 ∨ v = 10 ∨ v = 11 ∨ v = 12 ∨ v = 13 ∨ v = 14 ∨ v = 15 := by omega
  rcases hc with rfl | rfl | rfl | rfl | rfl | rfl | rfl | rfl | rfl | rfl | rfl | rfl | rfl | rfl | rfl | rfl
  all_goals
    clear hv
    go_enter Tryz.func65, Tryz.ntmps65
    go_wp2_with fail
    go_ret
    exact ⟨rfl, rfl⟩
set_option maxHeartbeats 4000000 in
theorem rrow_out (v : Int) (w : World) (hv : v < 0 ∨ 16 ≤ v) : Calls Tryz.prog 65 #[.int .i64 v] w fun e w' => e = .returned (.slice none 0 0) ∧ w' = w := by
  rcases hv with h | h
  all_goals
    go_enter Tryz.func65, Tryz.ntmps65
    go_wp2_with fail
    go_ret
    exact ⟨rfl, rfl⟩
/-- an action's number -/
def actNum (l : List UInt8) : Int := match (List.range 13).find? (fun i => nameAt (i + 1) == l) with | some i => (i : Int) + 1 | none => 0
theorem actNum_hit (l : List UInt8) (k : Nat) (hk : k < 13) (h : ∀ i, i < k → nameAt (i + 1) ≠ l) (hx : nameAt (k + 1) = l) : actNum l = (k : Int) + 1 := by
  unfold actNum
  have : (List.range 13).find? (fun i => nameAt (i + 1) == l) = some k := by
    rw [List.find?_range_eq_some]
    refine ⟨by simpa using hx, List.mem_range.2 hk, fun j hj => ?_⟩
    simpa using h j hj
  rw [this]
theorem actNum_none (l : List UInt8) (h : ∀ i, i < 13 → nameAt (i + 1) ≠ l) : actNum l = 0 := by
  unfold actNum
  have : (List.range 13).find? (fun i => nameAt (i + 1) == l) = none := by
    rw [List.find?_range_eq_none]
    intro i hi
    simpa using h i hi
  rw [this]
end Go.Proofs.YtagnbdenecphcaaGreatDoor
/-! The reference's automaton: action, Step. -/
namespace Go.Proofs.YtagnbdenecphcaaGreatDoor
open Go.RowKit
set_option linter.unusedVariables false
set_option maxRecDepth 100000 in
set_option maxHeartbeats 4000000 in
theorem raction_any (x : ByteArray) (w : World) : Calls Tryz.prog 66 #[.string x] w fun e w' => e = .returned (.int .i64 (actNum x.data.toList)) ∧ Below w.heap.size w w' := by
  go_enter Tryz.func66, Tryz.ntmps66
  go_wp2_with fail
  have hcell : ∀ j, j < 13 → (w.alloc (.cells #[.string ⟨#[116, 108, 117]⟩, .string ⟨#[116, 108, 100]⟩, .string ⟨#[116, 108, 115]⟩, .string ⟨#[116, 108, 102]⟩, .string ⟨#[105, 114, 99]⟩, .string ⟨#[122, 114, 99]⟩, .string ⟨#[115, 99, 114]⟩, .string ⟨#[115, 99, 97]⟩, .string ⟨#[115, 99, 110]⟩, .string ⟨#[115, 116, 114]⟩, .string ⟨#[115, 116, 97]⟩, .string ⟨#[115, 99, 106]⟩, .string ⟨#[115, 101, 114]⟩] 9)).cell? ⟨w.heap.size, j, none⟩ = some (.string (bytesOf (nameAt (j + 1)))) := by
    intro j hj
    rw [World.cell?_alloc_new]
    match j, hj with
    | 0, _ => rfl
    | 1, _ => rfl
    | 2, _ => rfl
    | 3, _ => rfl
    | 4, _ => rfl
    | 5, _ => rfl
    | 6, _ => rfl
    | 7, _ => rfl
    | 8, _ => rfl
    | 9, _ => rfl
    | 10, _ => rfl
    | 11, _ => rfl
    | 12, _ => rfl
  have hB : Below w.heap.size w (w.alloc (.cells #[.string ⟨#[116, 108, 117]⟩, .string ⟨#[116, 108, 100]⟩, .string ⟨#[116, 108, 115]⟩, .string ⟨#[116, 108, 102]⟩, .string ⟨#[105, 114, 99]⟩, .string ⟨#[122, 114, 99]⟩, .string ⟨#[115, 99, 114]⟩, .string ⟨#[115, 99, 97]⟩, .string ⟨#[115, 99, 110]⟩, .string ⟨#[115, 116, 114]⟩, .string ⟨#[115, 116, 97]⟩, .string ⟨#[115, 99, 106]⟩, .string ⟨#[115, 101, 114]⟩] 9)) := allocB (Below.refl _ _) _
  obtain ⟨W2, hW2⟩ : ∃ W2, (w.alloc (.cells #[.string ⟨#[116, 108, 117]⟩, .string ⟨#[116, 108, 100]⟩, .string ⟨#[116, 108, 115]⟩, .string ⟨#[116, 108, 102]⟩, .string ⟨#[105, 114, 99]⟩, .string ⟨#[122, 114, 99]⟩, .string ⟨#[115, 99, 114]⟩, .string ⟨#[115, 99, 97]⟩, .string ⟨#[115, 99, 110]⟩, .string ⟨#[115, 116, 114]⟩, .string ⟨#[115, 116, 97]⟩, .string ⟨#[115, 99, 106]⟩, .string ⟨#[115, 101, 114]⟩] 9)) = W2 := ⟨_, rfl⟩
  rw [hW2] at hcell hB ⊢
  clear hW2
  have HC := Lib.hid hcell
  clear hcell
  go_loop [4] (fun i => ∃ k : Nat, k ≤ 13 ∧ i = .int .i64 k ∧ ∀ j, j < k → nameAt (j + 1) ≠ x.data.toList) (fun i => 13 - (intOf i).toNat)
  case atStart => exact ⟨0, Nat.zero_le _, rfl, fun j hj => absurd hj (Nat.not_lt_zero _)⟩
  case round =>
    obtain ⟨k, hk, rfl, hno⟩ := hrel
    have HN := Lib.hid hno
    clear hno
    by_cases hlt : k < 13
    · have hx := HC.out k hlt
      by_cases heq : nameAt (k + 1) = x.data.toList
      · have hq : ((bytesOf (nameAt (k + 1))).toList == x.toList) = true := ba_beq_true heq
        have hr : Hid (actNum x.data.toList = (k : Int) + 1) := Lib.hid (actNum_hit _ k hlt HN.out heq)
        clear heq
        go_wp2_with fail
        go_ret
        exact ⟨by rw [hr.out]; rfl, hB⟩
      · have hq : ((bytesOf (nameAt (k + 1))).toList == x.toList) = false := ba_beq_false heq
        have HQ := Lib.hid heq
        clear heq
        go_wp2_with fail
        go_round
        case rel =>
          refine ⟨k + 1, by omega, by go_num, fun j hj => ?_⟩
          by_cases hjk : j = k
          · subst hjk; exact HQ.out
          · exact HN.out j (by omega)
        case measure => simp [intOf]; omega
    · obtain rfl : k = 13 := by omega
      have hr : Hid (actNum x.data.toList = 0) := Lib.hid (actNum_none _ HN.out)
      go_wp2_with fail
      go_ret
      exact ⟨by rw [hr.out]; rfl, hB⟩
/-- the actions of the first pieces of a cell -/
def factsTo (c : List UInt8) (k : Nat) : List Int := (List.range k).map fun i => actNum ((c.drop (4 * i)).take 3)
theorem factsTo_succ (c : List UInt8) (k : Nat) : factsTo c (k + 1) = factsTo c k ++ [actNum ((c.drop (4 * k)).take 3)] := by
  unfold factsTo; rw [List.range_succ, List.map_append]; rfl
theorem factsTo_len (c : List UInt8) (k : Nat) : (factsTo c k).length = k := by simp [factsTo]
def refCell (c : List UInt8) : Int × List Int × Int :=
  if c = [45] then (0, [], 1001) else ((((c.getD (c.length - 1) 0).toNat : Int) - 48) % 256, factsTo c (c.length / 4), 0)
theorem ref_cells : (List.range 16).all (fun v => (List.range 10).all fun s => decide (refCell (cellT v s) = cellSays (cellT v s))) = true := by decide +kernel
theorem ref_cell (v s : Nat) (hv : v < 16) (hs : s < 10) : refCell (cellT v s) = cellSays (cellT v s) := by
  simpa using List.all_eq_true.1 (List.all_eq_true.1 ref_cells v (List.mem_range.2 hv)) s (List.mem_range.2 hs)
set_option maxRecDepth 100000 in
set_option maxHeartbeats 4000000 in
theorem rstep_any (s v : Int) (w : World) :
    Calls Tryz.prog 40 #[.int .i64 s, .int .i64 v] w fun e w' => ∃ o, e = .returned (.tuple #[.int .i64 (stepSays s v).1, o, .int .i64 (stepSays s v).2.2]) ∧ OwnI w' w.heap.size o (stepSays s v).2.1 ∧ Below w.heap.size w w' := by
  have hnil := fun (w : World) (a : Option Addr) (n c : Nat) => Lib.run_eql_slice_nil (P := Tryz.prog) w 116 9 a n c 0 0 Tryz.underlying116
  by_cases hv : v < 0 ∨ 16 ≤ v
  · have E : Hid (stepSays s v = (0, [], 1000)) := Lib.hid (by unfold stepSays; rw [if_pos (by omega)])
    go_enter Tryz.func40, Tryz.ntmps40
    go_wp2_with fail
    refine (rrow_out v _ hv).mono ?_
    rintro e w' ⟨rfl, rfl⟩
    go_wp2_with fail
    go_ret3
    exact ⟨.slice none 0 0, by rw [E.out]; rfl, by rw [E.out]; exact OwnI.nil _ _, Below.refl _ _⟩
  · obtain ⟨vn, rfl⟩ : ∃ vn : Nat, v = vn := ⟨v.toNat, by omega⟩
    have hv16 : vn < 16 := by omega
    clear hv
    by_cases hs : s < 0 ∨ 10 ≤ s
    · have E : Hid (stepSays s vn = (0, [], 1000)) := Lib.hid (by unfold stepSays; rw [if_pos (by omega)])
      rcases hs with h | h
      all_goals
        go_enter Tryz.func40, Tryz.ntmps40
        go_wp2_with fail
        refine (rrow_in vn _ hv16).mono ?_
        rintro e w' ⟨rfl, rfl⟩
        go_wp2_with fail
        go_ret3
        exact ⟨.slice none 0 0, by rw [E.out]; rfl, by rw [E.out]; exact OwnI.nil _ _, (Below.refl _ _).alloc (Nat.le_refl _) _⟩
    · obtain ⟨sn, rfl⟩ : ∃ sn : Nat, s = sn := ⟨s.toNat, by omega⟩
      have hs10 : sn < 10 := by omega
      have e : stepSays (sn : Int) (vn : Int) = refCell (cellT vn sn) := by unfold stepSays; rw [if_neg (by omega), ref_cell vn sn hv16 hs10]; rfl
      rw [e]
      have hc : (w.alloc (.cells (rowCells vn) 9)).cell? ⟨w.heap.size, sn, none⟩ = some (.string (bytesOf (cellT vn sn))) := by
        rw [World.cell?_alloc_new]; exact rowCells_at vn sn hv16 hs10
      have hg := cell_good vn sn hv16 hs10
      obtain ⟨c, hcc⟩ : ∃ c, cellT vn sn = c := ⟨_, rfl⟩
      rw [hcc] at hc hg ⊢
      clear hs e hcc
      unfold cellGood at hg
      simp only [Bool.and_eq_true, decide_eq_true_eq] at hg
      obtain ⟨⟨g1, g2⟩, -⟩ := hg
      obtain ⟨C, hC⟩ : ∃ C, bytesOf c = C := ⟨_, rfl⟩
      have hCl : C.data.toList = c := by rw [← hC]; rfl
      have hCz : C.size = c.length := by rw [← hC, bytesOf_size]
      rw [hC] at hc
      by_cases h0 : c = [45]
      · have E : Hid (refCell c = (0, [], 1001)) := Lib.hid (by unfold refCell; rw [if_pos h0])
        have q : C.toList = [45] := by rw [ba_toList, hCl, h0]
        clear h0 hCl hC hCz g1 g2
        go_enter Tryz.func40, Tryz.ntmps40
        go_wp2_with fail
        refine (rrow_in vn _ hv16).mono ?_
        rintro e w' ⟨rfl, rfl⟩
        go_wp2_with fail
        go_ret3
        exact ⟨.slice none 0 0, by rw [E.out]; rfl, by rw [E.out]; exact OwnI.nil _ _, (Below.refl _ _).alloc (Nat.le_refl _) _⟩
      · have q : (C.toList == [45]) = false := by rw [ba_toList, hCl]; exact beq_eq_false_iff_ne.2 h0
        have hz1 : 1 ≤ C.size := by omega
        have hz2 : C.size ≤ 40 := by omega
        have E : Hid (refCell c = ((((c.getD (c.length - 1) 0).toNat : Int) - 48) % 256, factsTo c (c.length / 4), 0)) := Lib.hid (by unfold refCell; rw [if_neg h0])
        have HCl := Lib.hid hCl
        have HCz := Lib.hid hCz
        clear h0 hCl hC hCz g1 g2
        go_enter Tryz.func40, Tryz.ntmps40
        go_wp2_with fail
        refine (rrow_in vn _ hv16).mono ?_
        rintro e w' ⟨rfl, rfl⟩
        go_wp2_with fail
        have hB2 : Below w.heap.size w (w.alloc (.cells (rowCells vn) 9)) := allocB (Below.refl _ _) _
        obtain ⟨W2, hW2⟩ : ∃ W2, w.alloc (.cells (rowCells vn) 9) = W2 := ⟨_, rfl⟩
        rw [hW2] at hB2 ⊢
        clear hW2 hc
        go_loopw [9, 10] (fun o i wr => ∃ k : Nat, 4 * k ≤ C.size ∧ i = .int .i64 ((4 * k : Nat) : Int) ∧ OwnI wr W2.heap.size o (factsTo c k) ∧ Below W2.heap.size W2 wr) (fun _ i _ => C.size - (intOf i).toNat)
        case atStart => exact ⟨0, Nat.zero_le _, rfl, OwnI.nil _ _, Below.refl _ _⟩
        case round =>
          obtain ⟨k, hk, rfl, hown, hbl⟩ := hrel
          by_cases hlt : 4 * k + 3 < C.size
          · have hal := factsTo_len c k
            have HS : Hid (factsTo c (k + 1) = factsTo c k ++ [actNum (List.take 3 (List.drop (4 * k) C.data.toList))]) := Lib.hid (by
              rw [factsTo_succ, HCl.out])
            have hal' : (factsTo c k).length ≤ 10 := by omega
            have hi4 : 4 * (k + 1) = 4 * k + 4 := by omega
            have HI := Lib.hid hi4
            obtain ⟨acc, hacc⟩ : ∃ acc, factsTo c k = acc := ⟨_, rfl⟩
            rw [hacc] at hown HS hal'
            obtain ⟨i0, hi0⟩ : ∃ i0, 4 * k = i0 := ⟨_, rfl⟩
            rw [hi0] at HS hlt HI hk ⊢
            clear hacc hal hi4 hi0
            go_wp2_with fail
            refine (raction_any _ _).mono ?_
            rintro e w3 ⟨rfl, hb3⟩
            replace hown := hown.below hb3
            replace hbl := seqB hbl hb3
            go_wp2_with (at_builtin; refine wpList_appI rfl _ _ rfl W2 _ _ _ 1 hown rfl rfl (by omega) hbl ?_; intro v' w5 hown3 hbl3)
            go_roundw
            case rel => exact ⟨k + 1, by rw [HI.out]; omega, by rw [HI.out]; go_num, by rw [HS.out]; exact hown3, hbl3⟩
            case measure => simp [intOf]; omega
          · have hkn : c.length / 4 = k := by rw [← HCz.out]; omega
            have hown' := hown.base (b' := w.heap.size) hB2.size
            rw [← hkn] at hown'
            have hBw : Below w.heap.size w wr := seqB hB2 hbl
            clear hown hkn
            go_wp2_with fail
            go_ret3
            refine ⟨_, ?_, by rw [E.out]; exact hown', hBw⟩
            have hgd : C.data.toList.getD (C.size - 1) 0 = C[C.size - 1] := by
              rw [List.getD_eq_getElem?_getD, List.getElem?_eq_getElem (by simpa using (by omega : C.size - 1 < C.size))]; rfl
            rw [E.out, ← HCz.out, ← HCl.out, hgd]
            rfl
end Go.Proofs.YtagnbdenecphcaaGreatDoor
