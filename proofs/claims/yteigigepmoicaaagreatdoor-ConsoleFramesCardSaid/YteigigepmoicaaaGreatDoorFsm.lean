/- The automaton's Step. -/
import Derived.Test.YteigigepmoicaaaGreatDoorFsmTab
import Derived.Test.YteigigepmoicaaaGreatDoorInts
namespace Go.Proofs.YteigigepmoicaaaGreatDoor
open Go.RowKit
set_option linter.unusedVariables false
theorem fsm_below_cell {W w' : World} (h : Below W.heap.size W w') {a : Addr} {v : Value} (hc : W.cell? a = some v) : w'.cell? a = some v := (h.cell (block_lt_of_cell hc)).trans hc
theorem MaxLenIs.below {w w' : World} {m : Int} (h : MaxLenIs w m) (hb : Below w.heap.size w w') : MaxLenIs w' m := fsm_below_cell hb h
def namesT : List (List UInt8) := [[], [116, 108, 117], [116, 108, 100], [116, 108, 115], [116, 108, 102], [105, 114, 99], [122, 114, 99], [115, 99, 114], [115, 99, 97], [115, 99, 110], [115, 116, 114], [115, 116, 97], [115, 99, 106], [115, 101, 114]]
def nameAt (j : Nat) : List UInt8 := namesT.getD j []
/-- a row of texts that was just laid -/
theorem texts_new (w : World) (l : List ByteArray) (cells : Array Value) (hc : cells = (l.map Value.string).toArray) (c : Nat) : TextsAt (w.alloc (.cells cells 9)) (.slice (some ⟨w.heap.size, 0, none⟩) l.length c) l := by
  subst hc
  refine .inr ⟨w.heap.size, 0, c, rfl, fun j hj => ?_⟩
  rw [World.cell?_alloc_new]; simp [hj]
set_option maxRecDepth 100000 in
theorem names_any (w : World) : Calls Tryz.prog 101 #[] w fun e w' => ∃ g, e = .returned (.slice (some ⟨g, 0, none⟩) 14 14) ∧ (∀ j (h : j < 14), w'.cell? ⟨g, j, none⟩ = some (.string (bytesOf (nameAt j)))) ∧ (∃ cs fz, w'.heap[g]? = some (.cells cs 9 fz)) ∧ Below w.heap.size w w' := by
  go_enter Tryz.func101, Tryz.ntmps101
  go_wp2_with fail
  go_ret
  refine ⟨_, rfl, fun j h => ?_, ⟨_, _, heap_alloc_last w _⟩, (Below.refl _ _).alloc (Nat.le_refl _) _⟩
  rw [World.cell?_alloc_new]
  match j, h with
  | 0, _ => rfl
  | 1, _ => rfl
  | 2, _ => rfl
  | 3, _ => rfl
  | 4, _ => rfl
  | 5, _ => rfl
  | 6, _ => rfl
  | 7, _ => rfl
  | 8, _ => rfl
  | 9, _ => rfl
  | 10, _ => rfl
  | 11, _ => rfl
  | 12, _ => rfl
  | 13, _ => rfl
/-- the numbers of a name, ahead of the j-th -/
def numsTo (w : List UInt8) (j : Nat) : List Int := ((List.range j).filter fun k => nameAt k == w).map Int.ofNat
theorem numsTo_succ (w : List UInt8) (j : Nat) : numsTo w (j + 1) = numsTo w j ++ (if nameAt j == w then [(j : Int)] else []) := by
  unfold numsTo
  rw [List.range_succ, List.filter_append, List.map_append]
  congr 1
  rw [List.filter_cons, List.filter_nil]
  split <;> rfl
theorem numsTo_len (w : List UInt8) (j : Nat) : (numsTo w j).length ≤ j := by
  unfold numsTo
  rw [List.length_map]
  exact Nat.le_trans (List.length_filter_le _ _) (by simp)
/-- the pieces of a text at commas -/
def pieces (a : List UInt8) : List (List UInt8) := (Lib.splitB (bytesOf [44]) 0 (Lib.countB (bytesOf a) (bytesOf [44])) (bytesOf a)).map (·.data.toList)
def digit (l : List UInt8) : Int := (((l.getD 0 0).toNat : Int) - 48) % 256
/-- what a cell of the table says -/
def cellSays (c : List UInt8) : Int × List Int × Int :=
  if c = [45] then (0, [], 1001) else
  if (Lib.cut c [47]).2.2 = false then (digit c, [], 0) else
  (digit (Lib.cut c [47]).2.1, (pieces (Lib.cut c [47]).1).flatMap (numsTo · 14), 0)
def stepSays (s v : Int) : Int × List Int × Int :=
  if s < 0 ∨ 10 ≤ s ∨ v < 0 ∨ 16 ≤ v then (0, [], 1000) else cellSays (cellT v.toNat s.toNat)
def cellGood (c : List UInt8) : Bool := decide (1 ≤ c.length) && decide (c.length ≤ 40) && (!(Lib.cut c [47]).2.2 || (decide (1 ≤ (Lib.cut c [47]).2.1.length) && decide ((Lib.cut c [47]).1.length ≤ 40) && decide ((Lib.cut c [47]).2.1.length ≤ 40)))
theorem cells_good : (List.range 16).all (fun v => (List.range 10).all fun s => cellGood (cellT v s)) = true := by decide +kernel
theorem cell_good (v s : Nat) (hv : v < 16) (hs : s < 10) : cellGood (cellT v s) = true :=
  List.all_eq_true.1 (List.all_eq_true.1 cells_good v (List.mem_range.2 hv)) s (List.mem_range.2 hs)
theorem u8_sub48 (c : UInt8) : IntKind.u8.wrap ((c.toNat : Int) - 48) = ((c.toNat : Int) - 48) % 256 := by rw [IntKind.wrap_u8]
theorem fsm_below_drewN {B : Nat} {a w : World} (h : Below B a w) (n : Nat) : Below B a (w.drewN n) := h.trans ⟨rfl, rfl, rfl, Nat.le_refl _, fun _ _ => rfl⟩
theorem digit_at (C : ByteArray) (h : 0 < C.size) : digit C.data.toList = ((C[0].toNat : Int) - 48) % 256 := by
  unfold digit
  rw [List.getD_eq_getElem?_getD, List.getElem?_eq_getElem (by simpa using h)]; rfl
set_option maxRecDepth 100000 in
set_option maxHeartbeats 4000000 in
theorem tstep_any (g : Nat) (s v : Int) (ml : Int) (w : World) (ht : TableAt w g) (hm : MaxLenIs w ml) :
    Calls Tryz.prog 85 #[.pointer (some ⟨g, 0, none⟩), .int .i64 s, .int .i64 v] w fun e w' => ∃ o, e = .returned (.tuple #[.int .i64 (stepSays s v).1, o, .int .i64 (stepSays s v).2.2]) ∧ OwnI w' w.heap.size o (stepSays s v).2.1 ∧ Below w.heap.size w w' := by
  by_cases hr : s < 0 ∨ 10 ≤ s ∨ v < 0 ∨ 16 ≤ v
  · have e : stepSays s v = (0, [], 1000) := by unfold stepSays; rw [if_pos hr]
    have E := Lib.hid e
    clear e
    go_enter Tryz.func85, Tryz.ntmps85
    go_wp2_with fail
    all_goals
      go_ret3
      exact ⟨.slice none 0 0, by rw [E.out]; rfl, by rw [E.out]; exact OwnI.nil _ _, Below.refl _ _⟩
  · obtain ⟨sn, rfl⟩ : ∃ sn : Nat, s = sn := ⟨s.toNat, by omega⟩
    obtain ⟨vn, rfl⟩ : ∃ vn : Nat, v = vn := ⟨v.toNat, by omega⟩
    have hs10 : sn < 10 := by omega
    have hv16 : vn < 16 := by omega
    have e : stepSays (sn : Int) (vn : Int) = cellSays (cellT vn sn) := by unfold stepSays; rw [if_neg hr]; rfl
    rw [e]
    have hc := ht vn sn hv16 hs10
    have hg := cell_good vn sn hv16 hs10
    obtain ⟨c, hcc⟩ : ∃ c, cellT vn sn = c := ⟨_, rfl⟩
    rw [hcc] at hc hg ⊢
    clear hr e hcc ht
    obtain ⟨C, hC⟩ : ∃ C, bytesOf c = C := ⟨_, rfl⟩
    have hCl : C.data.toList = c := by rw [← hC]; rfl
    have hCz : C.size = c.length := by rw [← hC, bytesOf_size]
    rw [hC] at hc
    by_cases h0 : c = [45]
    · have E : Hid (cellSays c = (0, [], 1001)) := by unfold cellSays; rw [if_pos h0]; exact rfl
      have q : C.toList = [45] := by rw [ba_toList, hCl, h0]
      clear h0 hg hCl hC hCz
      go_enter Tryz.func85, Tryz.ntmps85
      go_wp2_with fail
      go_ret3
      exact ⟨.slice none 0 0, by rw [E.out]; rfl, by rw [E.out]; exact OwnI.nil _ _, Below.refl _ _⟩
    · have q : (C.toList == [45]) = false := by rw [ba_toList, hCl]; exact beq_eq_false_iff_ne.2 h0
      unfold cellGood at hg
      simp only [Bool.and_eq_true, decide_eq_true_eq, Bool.or_eq_true, Bool.not_eq_true'] at hg
      obtain ⟨⟨g1, g2⟩, g3⟩ := hg
      have hz1 : 1 ≤ C.size := by omega
      have hz2 : C.size < 4294967281 := by omega
      by_cases hf : (Lib.cut c [47]).2.2 = false
      · have E : Hid (cellSays c = (digit c, [], 0)) := by unfold cellSays; rw [if_neg h0, if_pos hf]; exact rfl
        have HF := Lib.hid hf
        have HCl := Lib.hid hCl
        clear h0 hC hCz hf g3 g1 g2 hCl
        go_enter Tryz.func85, Tryz.ntmps85
        go_wp2_with fail
        refine (cut_any C (bytesOf [47]) ml _ hz2 hm).mono ?_
        rintro e w1 ⟨rfl, nq, rfl⟩
        rw [HCl.out, bytesOf_toList, HF.out]
        go_wp2_with fail
        go_ret3
        exact ⟨.slice none 0 0, by rw [E.out, ← HCl.out, digit_at C (by omega)]; rfl, by rw [E.out]; exact OwnI.nil _ _, fsm_below_drewN (Below.refl _ _) _⟩
      · have E : Hid (cellSays c = (digit (Lib.cut c [47]).2.1, (pieces (Lib.cut c [47]).1).flatMap (numsTo · 14), 0)) := by unfold cellSays; rw [if_neg h0, if_neg hf]; exact rfl
        have HF : Hid ((Lib.cut c [47]).2.2 = true) := Lib.hid (by simpa using hf)
        have HCl := Lib.hid hCl
        have g3' : (1 ≤ (Lib.cut c [47]).2.1.length ∧ (Lib.cut c [47]).1.length ≤ 40) ∧ (Lib.cut c [47]).2.1.length ≤ 40 := by
          rcases g3 with h | h
          · exact absurd h hf
          · exact h
        obtain ⟨a, ha⟩ : ∃ a, (Lib.cut c [47]).1 = a := ⟨_, rfl⟩
        obtain ⟨b, hb⟩ : ∃ b, (Lib.cut c [47]).2.1 = b := ⟨_, rfl⟩
        rw [ha, hb] at g3' E
        have Ha := Lib.hid ha
        have Hb := Lib.hid hb
        clear h0 hC hCz hf g3 g1 g2 hCl ha hb
        obtain ⟨A, hA⟩ : ∃ A : ByteArray, (⟨a.toArray⟩ : ByteArray) = A := ⟨_, rfl⟩
        obtain ⟨B, hB⟩ : ∃ B : ByteArray, (⟨b.toArray⟩ : ByteArray) = B := ⟨_, rfl⟩
        have hAb : bytesOf a = A := hA
        have hBl : B.data.toList = b := by rw [← hB]
        have hBz : 1 ≤ B.size := by rw [← hB]; simpa [ByteArray.size] using g3'.1.1
        have hAz : A.size < 4294967281 := by rw [← hAb, bytesOf_size]; omega
        obtain ⟨L, hL⟩ : ∃ L, Lib.splitB (bytesOf [44]) 0 (Lib.countB A (bytesOf [44])) A = L := ⟨_, rfl⟩
        have hLp : L.map (·.data.toList) = pieces a := by rw [← hL, ← hAb]; rfl
        have hLn : L.length = Lib.countB A (bytesOf [44]) + 1 := by rw [← hL]; exact Lib.splitB_all _ (by decide) _ _ A rfl
        have hLle := Lib.countB_le (bytesOf [44]) (by decide) A.size A (Nat.le_refl _)
        have hAz2 : A.size ≤ 40 := by rw [← hAb, bytesOf_size]; omega
        obtain ⟨n, hn⟩ : ∃ n, Lib.countB A (bytesOf [44]) = n := ⟨_, rfl⟩
        have hsp := fun w hm => splitAt_any A 44 ml w hAz hm
        rw [hL, hn] at hsp
        rw [hn] at hLn hLle
        have HA := Lib.hid hA
        have HB := Lib.hid hB
        have HLp := Lib.hid hLp
        have HLn := Lib.hid hLn
        have HBl := Lib.hid hBl
        clear hA hB hAb hL hn hLp hLn hBl g3'
        go_enter Tryz.func85, Tryz.ntmps85
        go_wp2_with fail
        refine (cut_any C (bytesOf [47]) ml _ hz2 hm).mono ?_
        rintro e w1 ⟨rfl, nq, rfl⟩
        rw [HCl.out, bytesOf_toList, HF.out, Ha.out, Hb.out, HA.out, HB.out]
        go_wp2_with fail
        refine (hsp _ (by exact hm)).mono ?_
        rintro e w2 ⟨rfl, rfl⟩
        have hcell : ∀ j (h : j < L.length), ((w.drewN nq).alloc (.cells (textsRow L) 9)).cell? ⟨w.heap.size, j, none⟩ = some (.string L[j]) := by
          intro j h
          have : (w.drewN nq).heap.size = w.heap.size := rfl
          rw [← this, World.cell?_alloc_new]; simp [textsRow, h]
        have hB2 : Below w.heap.size w ((w.drewN nq).alloc (.cells (textsRow L) 9)) := allocB (fsm_below_drewN (Below.refl _ _) _) _
        go_wp2_with fail
        obtain ⟨W2, hW2⟩ : ∃ W2, (w.drewN nq).alloc (.cells (textsRow L) 9) = W2 := ⟨_, rfl⟩
        rw [hW2] at hcell hB2 ⊢
        clear hW2
        go_loopw [13, 56] (fun o i wr => ∃ k : Nat, k ≤ n + 1 ∧ i = .int .i64 k ∧ OwnI wr W2.heap.size o ((L.take k).flatMap fun x => numsTo x.data.toList 14) ∧ Below W2.heap.size W2 wr) (fun _ i _ => n + 1 - (intOf i).toNat)
        case atStart => exact ⟨0, Nat.zero_le _, rfl, OwnI.nil _ _, Below.refl _ _⟩
        case round =>
          obtain ⟨k, hk, rfl, hown, hbl⟩ := hrel
          by_cases hlt : k < n + 1
          · have hx := fsm_below_cell hbl (hcell k (by rw [HLn.out]; exact hlt))
            have htk : L.take (k + 1) = L.take k ++ [L[k]'(by rw [HLn.out]; exact hlt)] := List.take_succ_eq_append_getElem _
            obtain ⟨x, hxx⟩ : ∃ x, L[k]'(by rw [HLn.out]; exact hlt) = x := ⟨_, rfl⟩
            rw [hxx] at hx htk
            have hsn : Hid (((L.take (k + 1)).flatMap fun x => numsTo x.data.toList 14) = ((L.take k).flatMap fun x => numsTo x.data.toList 14) ++ numsTo x.data.toList 14) := Lib.hid (by rw [htk, List.flatMap_append]; simp)
            clear htk hxx
            have hal : ((L.take k).flatMap fun x => numsTo x.data.toList 14).length ≤ 14 * k := by
              have : ∀ l : List ByteArray, (l.flatMap fun x => numsTo x.data.toList 14).length ≤ 14 * l.length := by
                intro l
                induction l with
                | nil => simp
                | cons y l ih => rw [List.flatMap_cons, List.length_append, List.length_cons]; have := numsTo_len y.data.toList 14; omega
              have h := this (L.take k)
              rw [List.length_take] at h
              omega
            obtain ⟨acc, hacc⟩ : ∃ acc, ((L.take k).flatMap fun x => numsTo x.data.toList 14) = acc := ⟨_, rfl⟩
            rw [hacc] at hown hsn hal
            clear hacc
            go_wp2_with fail
            refine (names_any _).mono ?_
            rintro e w3 ⟨gn, rfl, hnm, hnh, hb3⟩
            replace hx := fsm_below_cell hb3 hx
            replace hown := hown.below hb3
            replace hbl := seqB hbl hb3
            clear hb3
            go_wp2_with fail
            go_loopw [13, 62] (fun o i wz => ∃ j : Nat, j ≤ 14 ∧ i = .int .i64 j ∧ OwnI wz W2.heap.size o (acc ++ numsTo x.data.toList j) ∧ Below W2.heap.size W2 wz ∧ (∀ j (h : j < 14), wz.cell? ⟨gn, j, none⟩ = some (.string (bytesOf (nameAt j)))) ∧ ∃ cs fz, wz.heap[gn]? = some (.cells cs 9 fz)) (fun _ i _ => 14 - (intOf i).toNat)
            case atStart => exact ⟨0, Nat.zero_le _, rfl, by simpa [numsTo] using hown, hbl, hnm, hnh⟩
            case round =>
              obtain ⟨j, hj, rfl, hown2, hbl2, hnm2, cs2, fz2, hnh2⟩ := hrel
              by_cases hj14 : j < 14
              · have hnj := hnm2 j hj14
                have hns := numsTo_succ x.data.toList j
                have hnl := numsTo_len x.data.toList j
                by_cases heq : nameAt j = x.data.toList
                · have hq : ((bytesOf (nameAt j)).toList == x.toList) = true := ba_beq_true heq
                  have Hns : Hid (acc ++ numsTo x.data.toList (j + 1) = acc ++ numsTo x.data.toList j ++ [(j : Int)]) := Lib.hid (by rw [hns, heq]; simp)
                  clear hns heq hnj
                  go_wp2_with (at_builtin; refine wpList_appI2 rfl _ _ rfl W2 _ _ (j : Int) 1 hown2 rfl rfl (by rw [List.length_append]; omega) hbl2 ?_; intro v' w5 hown3 hbl3 hkeep)
                  have hk5 := hkeep gn cs2 _ fz2 hnh2 (by decide)
                  refine ⟨⟨j + 1, by omega, by go_num, by rw [Hns.out]; exact hown3, hbl3, ?_, cs2, fz2, hk5.trans hnh2⟩, by simp [intOf]; omega⟩
                  intro j' hj'
                  rw [World.cell?_of_block (a := ⟨gn, j', none⟩) hk5]
                  exact hnm2 j' hj'
                · have hq : ((bytesOf (nameAt j)).toList == x.toList) = false := ba_beq_false heq
                  have Hns : Hid (acc ++ numsTo x.data.toList (j + 1) = acc ++ numsTo x.data.toList j) := Lib.hid (by rw [hns, if_neg (by simpa using heq)]; simp)
                  clear hns heq hnj
                  go_wp2_with fail
                  go_roundw
                  case rel => exact ⟨j + 1, by omega, by go_num, by rw [Hns.out]; exact hown2, hbl2, hnm2, cs2, fz2, hnh2⟩
                  case measure => simp [intOf]; omega
              · obtain rfl : j = 14 := by omega
                go_wp2_with fail
                go_roundw
                case rel => exact ⟨k + 1, by omega, by go_num, by rw [hsn.out]; exact hown2, hbl2⟩
                case measure => simp [intOf]; omega
          · obtain rfl : k = n + 1 := by omega
            have hLL : L.take (n + 1) = L := List.take_of_length_le (by rw [HLn.out]; exact Nat.le_refl _)
            have hfin := hown
            rw [hLL, show (L.flatMap fun x => numsTo x.data.toList 14) = (pieces a).flatMap (numsTo · 14) by rw [← HLp.out, List.flatMap_map]] at hfin
            replace hfin := hfin.base (b' := w.heap.size) hB2.size
            have hBw : Below w.heap.size w wr := seqB hB2 hbl
            clear hown hLL hcell
            go_wp2_with fail
            go_ret3
            exact ⟨_, by rw [E.out, ← HBl.out, digit_at B (by omega)]; rfl, by rw [E.out]; exact hfin, hBw⟩
end Go.Proofs.YteigigepmoicaaaGreatDoor
