/- The console's Run: walked. -/
import Derived.Test.YteigigepmoicaaaGreatDoorCon17
namespace Go.Proofs.YteigigepmoicaaaGreatDoor
open Go.RowKit Go.Crc
set_option linter.unusedVariables false
set_option linter.unusedSimpArgs false
theorem runlong_any (s : ByteArray) (w : World) (hs : 65536 < s.size) :
    Calls Tryz.prog 11 #[.string s] w fun e w' => e = .returned (.tuple #[.string ⟨#[]⟩, .int .i64 2801]) ∧ Below w.heap.size w w' := by
  have h1 : (65536 : Int) < s.size := by omega
  go_enter Tryz.func11, Tryz.ntmps11
  go_wp2_with fail
  go_ret2
  exact ⟨rfl, Below.refl _ _⟩
theorem flat_snoc (ls : List (List UInt8)) (k : Nat) (h : k < ls.length) : (ls.take (k + 1)).flatMap oneM = (ls.take k).flatMap oneM ++ oneM ls[k] := by
  rw [List.take_succ_eq_append_getElem h, List.flatMap_append]
  simp
theorem cut10_cat (P : List UInt8) : bytesOf P ++ (⟨#[10]⟩ : ByteArray) = bytesOf (P ++ [10]) := by
  rw [show (⟨#[10]⟩ : ByteArray) = bytesOf [10] from rfl, bytesOf_append]
set_option maxRecDepth 100000 in
set_option maxHeartbeats 4000000 in
theorem run_any (s : ByteArray) (ml : Int) (w : World) (hs : s.size ≤ 65536) (ht : TabW w) (hm : MaxLenIs w ml) :
    Calls Tryz.prog 11 #[.string s] w fun e w' => e = .returned (.tuple #[.string (bytesOf (runM s.data.toList)), .int .i64 0]) ∧ Below w.heap.size w w' := by
  have h1 : ¬ (65536 : Int) < s.size := by omega
  have hls : s.data.toList.length = s.size := len_toList s
  have HR : Hid (runM s.data.toList = (cutN 10 s.data.toList).flatMap oneM) := Lib.hid rfl
  have hsp := fun w hm => lsplit_any s ml w hs hm
  have hcs := cutN_size 10 s.data.toList
  have hcn := cutN_count 10 s.data.toList
  obtain ⟨ls, hL⟩ : ∃ ls, cutN 10 s.data.toList = ls := ⟨_, rfl⟩
  rw [hL] at hsp hcs hcn HR
  clear hL
  obtain ⟨R, hR⟩ : ∃ R, runM s.data.toList = R := ⟨_, rfl⟩
  rw [hR] at HR ⊢
  clear hR
  replace hcs : ∀ p ∈ ls, p.length ≤ 65536 := fun p hp => by have := hcs p hp; omega
  replace hcn : ls.length ≤ 65537 := by omega
  go_enter Tryz.func11, Tryz.ntmps11
  go_wp2_with fail
  refine (commands_any _).mono ?_
  rintro e w1 ⟨rfl, hall, hb1⟩
  obtain ⟨b, hbq⟩ : ∃ b, w.heap.size = b := ⟨_, rfl⟩
  rw [hbq] at hall ⊢
  obtain ⟨B, hB⟩ : ∃ B, w1.heap.size = B := ⟨_, rfl⟩
  have hnew := BuildF.new w1
  have hB2 := allocB hb1 (Obj.cells #[.pointer none, .slice none 0 0] 52)
  have hB2' := allocB (Below.refl _ w1) (Obj.cells #[.pointer none, .slice none 0 0] 52)
  have hsz : (w1.alloc (Obj.cells #[.pointer none, .slice none 0 0] 52)).heap.size = w1.heap.size + 1 := Array.size_push _
  obtain ⟨S, hS⟩ : ∃ S, w1.heap.size + 1 = S := ⟨_, rfl⟩
  rw [hS] at hsz
  have hsp2 := hsp _ (hm.below hB2)
  rw [hsz] at hsp2
  go_wp2_with fail
  refine hsp2.mono ?_
  rintro e w3 ⟨rfl, hw3⟩
  have hrow : w3.heap[S]? = some (.cells (textsRow (ls.map bytesOf)) 9 (0, 0)) := by
    rw [hw3, ← hsz]; exact (MapKept.heap_alloc _ _).1
  have hbf : BuildF B B [] w3 := by
    rw [← hB, hw3]
    exact hnew.below (Below.refl _ _ |>.alloc (Nat.le_refl _) _)
  have hBw : Below w1.heap.size w1 w3 := by
    rw [hw3]
    exact allocB hB2' _
  have hne : S ≠ B := by omega
  clear hw3 hsp2 hsz hsp hnew hB2 hB2' hS
  go_wp2_with fail
  go_loopw [16] (fun i wr => ∃ k : Nat, k ≤ ls.length ∧ i = .int .i64 k ∧ wr.heap[S]? = some (.cells (textsRow (ls.map bytesOf)) 9 (0, 0)) ∧ BuildF B B ((ls.take k).flatMap oneM) wr ∧ Below w1.heap.size w1 wr) (fun i _ => ls.length - (intOf i).toNat)
  case atStart => exact ⟨0, Nat.zero_le _, rfl, hrow, by rw [List.take_zero]; exact hbf, hBw⟩
  case round =>
    clear hrow hbf hBw
    obtain ⟨k, hk, rfl, hrow, hbf, hbw⟩ := hrel
    have hBr : B ≤ wr.heap.size := by rw [← hB]; exact hbw.size
    have hW := hb1.trans (hbw.mono hb1.size)
    by_cases hlt : k < ls.length
    · obtain ⟨x, hx⟩ : ∃ x, ls[k] = x := ⟨_, rfl⟩
      have hxs : x.length ≤ 65536 := by rw [← hx]; exact hcs _ (List.getElem_mem _)
      have hcell : wr.cell? ⟨S, k, none⟩ = some (.string (bytesOf x)) := by
        simp [World.cell?, hrow, textsRow, hlt, hx]
      have hff := fun w => ffunc_any x w hxs
      have hsn := flat_snoc ls k hlt
      have hone : oneM x = if skipB (wordsM x) then [] else lineM (wordsM x) ++ [10] := rfl
      have hwss : ∀ y ∈ wordsM x, y.length ≤ 65536 ∧ y ≠ [] := fun y hy => ⟨by have := wordsC_size x [] y hy; simp at this; omega, wordsC_ne x [] y hy⟩
      have hwsn := wordsC_count x []
      rw [show wordsC x [] = wordsM x from rfl] at hwsn
      have hacc : ((ls.take k).flatMap oneM).length ≤ 1000001 * 65537 := by
        have h1 := flat_len oneM 1000001 (ls.take k) (fun y hy => one_len y (hcs y (List.mem_of_mem_take hy)))
        rw [List.length_take] at h1
        have h3 : 1000001 * (min k ls.length) ≤ 1000001 * 65537 := Nat.mul_le_mul_left _ (by omega)
        omega
      obtain ⟨acc, ha⟩ : ∃ acc, (ls.take k).flatMap oneM = acc := ⟨_, rfl⟩
      obtain ⟨ws, hws⟩ : ∃ ws, wordsM x = ws := ⟨_, rfl⟩
      rw [hx, ha] at hsn
      rw [ha] at hbf hacc
      rw [hws] at hff hone hwss hwsn
      have HS := Lib.hid hsn
      have HO := Lib.hid hone
      clear hx hsn ha hws hone
      cases ws with
      | nil =>
        have HO2 : Hid (oneM x = []) := Lib.hid (by rw [HO.out]; rfl)
        clear HO
        go_wp2_with fail
        refine (hff _).mono ?_
        rintro e w4 ⟨A, rfl, hcells, hb4⟩
        go_wp2_with fail
        go_roundw
        case rel =>
          refine ⟨k + 1, by omega, by go_num, (hb4.block _ (Array.getElem?_eq_some_iff.1 hrow).1).trans hrow, ?_, seqB hbw hb4⟩
          rw [HS.out, HO2.out, List.append_nil]
          exact hbf.below hb4
        case measure => simp [intOf]; omega
      | cons w0 r =>
        obtain ⟨hw0, hwne⟩ := hwss w0 (by simp)
        obtain ⟨c, t, rfl⟩ : ∃ c t, w0 = c :: t := by
          cases w0 with
          | nil => exact absurd rfl hwne
          | cons c t => exact ⟨c, t, rfl⟩
        clear hw0 hwne
        obtain ⟨X, hX⟩ : ∃ X, bytesOf (c :: t) = X := ⟨_, rfl⟩
        have hXs : 0 < X.size := by rw [← hX, bytesOf_size]; simp
        have hX0 : X[0] = c := by subst hX; rfl
        by_cases h35 : c = 35
        · have HO2 : Hid (oneM x = []) := Lib.hid (by rw [HO.out, h35]; rfl)
          have hcmp : ((X[0].toNat : Int) != 35) = false := by rw [hX0, h35]; rfl
          clear HO hX0 h35
          go_wp2_with fail
          refine (hff _).mono ?_
          rintro e w4 ⟨A, rfl, hcells, hb4⟩
          have c0 := hcells 0 (by simp)
          rw [List.getElem_cons_zero, hX] at c0
          clear hcells
          go_wp2_with fail
          go_roundw
          case rel =>
            refine ⟨k + 1, by omega, by go_num, (hb4.block _ (Array.getElem?_eq_some_iff.1 hrow).1).trans hrow, ?_, seqB hbw hb4⟩
            rw [HS.out, HO2.out, List.append_nil]
            exact hbf.below hb4
          case measure => simp [intOf]; omega
        · have hL : (lineM ((c :: t) :: r)).length ≤ 1000000 := line_len _ (fun y hy => (hwss y hy).1)
          have hline := fun A w hall hc ht hm => line_any b A ((c :: t) :: r) ml w hall (by simp) hc (fun y hy => (hwss y hy).1) (by omega) ht hm
          have HO2 : Hid (oneM x = lineM ((c :: t) :: r) ++ [10]) := Lib.hid (by rw [HO.out, if_neg (by simp [skipB, h35])])
          obtain ⟨P, hP⟩ : ∃ P, lineM ((c :: t) :: r) = P := ⟨_, rfl⟩
          rw [hP] at hL hline HO2
          have hcat := cut10_cat P
          have hsz : ¬ 9223372036854775807 < (bytesOf P).size + 1 := by rw [bytesOf_size]; omega
          have hcmp : ((X[0].toNat : Int) != 35) = true := by
            rw [hX0, bne_iff_ne]
            intro e
            exact h35 (UInt8.toNat_inj.1 (by have : c.toNat = 35 := by omega
                                             rw [this]; rfl))
          clear HO hX0 h35 hP
          go_wp2_with fail
          refine (hff _).mono ?_
          rintro e w4 ⟨A, rfl, hcells, hb4⟩
          have c0 := hcells 0 (by simp)
          rw [List.getElem_cons_zero, hX] at c0
          have hW4 := hW.trans (hb4.mono hW.size)
          have hall4 := hall.below (seqB hbw hb4)
          go_wp2_with fail
          refine (hline A w4 hall4 hcells (ht.below hW4) (hm.below hW4)).mono ?_
          rintro e w5 ⟨rfl, hb5⟩
          have hb45 := seqB hb4 hb5
          have hrow5 := (hb45.block _ (Array.getElem?_eq_some_iff.1 hrow).1).trans hrow
          have hbf5 := hbf.below hb45
          have hbw5 := seqB hbw hb45
          go_wp2_with fail
          refine (writeStringF B B acc (P ++ [10]) _ hbf5 (by rw [List.length_append]; simp only [List.length_cons, List.length_nil]; omega) (by rw [← hB]; exact hbw5.size)).mono ?_
          rintro e w6 ⟨rfl, hbf6, hb6, hk6⟩
          have hrow6 := hk6 S _ hrow5 (by simpa using hne) (fun cc fz hh => by cases hh)
          go_wp2_with fail
          go_roundw
          case rel =>
            refine ⟨k + 1, by omega, by go_num, hrow6, ?_, hbw5.trans (by rw [hB]; exact hb6)⟩
            rw [HS.out, HO2.out]
            exact hbf6
          case measure => simp [intOf]; omega
    · obtain rfl : k = ls.length := by omega
      go_wp2_with fail
      refine (builderStringF B B _ _ hbf hBr).mono ?_
      rintro e w4 ⟨rfl, hb4⟩
      go_wp2_with fail
      go_ret2
      exact ⟨by rw [HR.out]; rfl, hbq ▸ (hW.trans (hb4.mono (by rw [← hB]; exact hb1.size)))⟩
end Go.Proofs.YteigigepmoicaaaGreatDoor
