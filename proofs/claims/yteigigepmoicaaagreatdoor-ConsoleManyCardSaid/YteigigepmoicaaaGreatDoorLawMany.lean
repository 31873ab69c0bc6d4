/- ConsoleMany walked. -/
import Derived.Test.YteigigepmoicaaaGreatDoorCon19
namespace Go.Proofs.YteigigepmoicaaaGreatDoor
open Go.RowKit Go.Crc
set_option linter.unusedVariables false
set_option linter.unusedSimpArgs false
def manyS : List (List UInt8) := [[102, 99, 115, 32, 48, 48], [109, 100, 53, 32, 45], [102, 115, 109, 32, 54, 32, 54], [102, 114, 111, 98], [35, 32, 99], [100, 101, 108, 97, 121, 32, 50, 32, 51, 32, 52, 48, 32, 49], [116, 97, 114, 103, 101, 116, 32, 57, 48, 48, 32, 50, 53, 54, 32, 49, 32, 54], [117, 110, 102, 114, 97, 109, 101, 32, 48, 48]]
theorem many_len : ∀ j (h : j < 8), (manyS[j]'h).length ≤ 20 := by decide
theorem lead_line (S x : List UInt8) (h : LeadM S) : LeadM (S ++ x ++ [10]) ∧ runM (S ++ x ++ [10]) = runM S ++ runM x :=
  ⟨lead_lf _, by rw [run_end, h]⟩
def IntsCome (w : World) (pa : Option Addr) (len : Nat) (zs : List Int) : Prop := ∀ j, j < len → ∃ g o, pa = some ⟨g, o, none⟩ ∧ w.cell? ⟨g, o + j, none⟩ = some (.int .i64 (zs.getD j 0))
theorem intsCome_of_row {w : World} {a : Option Addr} {len cap : Nat} {zs : List Int} (h : IsRow .i64 w a len cap zs) : IntsCome w a len zs := by
  intro j hj
  rcases h with ⟨rfl, rfl, rfl, rfl⟩ | ⟨x, rfl, hlc, hcm, hz, hcell, hwz⟩
  · omega
  obtain ⟨b, off, spot⟩ := x
  have hc := hcell j (by omega)
  obtain rfl : spot = none := by
    have := World.cell?_spot (hcell 0 (by omega))
    simpa [Addr.add] using this
  have hadd : (⟨b, off, none⟩ : Addr).add j = ⟨b, off + j, none⟩ := by unfold Addr.add; split <;> simp_all
  rw [hadd] at hc
  exact ⟨b, off, rfl, hc⟩
theorem many_cell (w : World) (t : TypeId) (fz : Nat × Nat) (B : Nat) (h : w.heap[B]? = some (.cells ((manyS.map bytesOf).map Value.string).toArray t fz)) (j : Nat) (hj : j < 8) : w.cell? ⟨B, j, none⟩ = some (.string (bytesOf (manyS[j]'hj))) := by
  have hj' : j < manyS.length := hj
  simp [World.cell?, h, hj']
  rfl
theorem many_cat (S x : List UInt8) (hS : S.length ≤ 2000) (hx : x.length ≤ 20) : ¬ 9223372036854775807 < (bytesOf S).size + (bytesOf x).size ∧ ¬ 9223372036854775807 < (bytesOf S).size + (bytesOf x).size + 1 ∧ bytesOf S ++ bytesOf x ++ (⟨#[10]⟩ : ByteArray) = bytesOf (S ++ x ++ [10]) := by
  refine ⟨by rw [bytesOf_size, bytesOf_size]; omega, by rw [bytesOf_size, bytesOf_size]; omega, ?_⟩
  rw [bytesOf_append, cut10_cat]
set_option maxRecDepth 100000 in
set_option maxHeartbeats 4000000 in
theorem many_walk (a0 : Option Addr) (len0 cap0 : Nat) (z0 : List Int) (ml : Int) (w : World) (h0 : IsRow .i64 w a0 len0 cap0 z0) (ht : TabW w) (hm : MaxLenIs w ml) :
    Calls Tryz.prog 10 #[.slice a0 len0 cap0] w fun e w' => e = .returned (.bool true) ∧ Below w.heap.size w w' := by
  have haw := fun w ht hm => awake28_any ml w ht hm
  have hin := intsCome_of_row h0
  clear h0
  go_enter Tryz.func10, Tryz.ntmps10
  go_wp2_with fail
  refine (haw _ ht hm).mono ?_
  rintro e w1 ⟨rfl, hb1⟩
  go_wp2_with fail
  obtain ⟨W, hW⟩ : ∃ W, w1.alloc (.cells ((manyS.map bytesOf).map Value.string).toArray 9) = W := ⟨_, rfl⟩
  have hbW : Below w.heap.size w W := by rw [← hW]; exact allocB hb1 _
  have hrow : W.heap[w1.heap.size]? = some (.cells ((manyS.map bytesOf).map Value.string).toArray 9 (0, 0)) := by rw [← hW]; exact (MapKept.heap_alloc _ _).1
  simp only [manyS, List.map_cons, List.map_nil, bytesOf] at hW
  rw [hW]
  obtain ⟨B, hB⟩ : ∃ B, w1.heap.size = B := ⟨_, rfl⟩
  rw [hB] at hrow ⊢
  clear hW hb1
  go_loopw [4, 5, 6] (fun v4 v5 i wr => ∃ (k : Nat) (S : List UInt8), i = .int .i64 k ∧ k ≤ 30 ∧ k ≤ len0 ∧ v4 = .string (bytesOf S) ∧ v5 = .string (bytesOf (runM S)) ∧ Hid (LeadM S) ∧ S.length ≤ 21 * k ∧ Below W.heap.size W wr) (fun _ _ i _ => 30 - (intOf i).toNat)
  case atStart => exact ⟨0, [], rfl, by omega, by omega, rfl, rfl, Lib.hid lead_nil, by simp, Below.refl _ _⟩
  case round =>
    obtain ⟨k, S, rfl, hk30, hkl, rfl, rfl, HLd, hSl, hbr⟩ := hrel
    have hBr := seqB hbW hbr
    by_cases hlt : k < len0
    · by_cases hlt30 : k < 30
      · obtain ⟨g, o, rfl, hcell⟩ := hin k hlt
        have hc := fsm_below_cell hBr hcell
        obtain ⟨z, hz⟩ : ∃ z, z0.getD k 0 = z := ⟨_, rfl⟩
        rw [hz] at hc
        clear hcell hz
        obtain ⟨j, hj8, hj⟩ : ∃ j : Nat, j < 8 ∧ (IntKind.u64.wrap z).tmod 8 = (j : Int) := by
          have h1 : 0 ≤ IntKind.u64.wrap z := by rw [IntKind.wrap_u64]; omega
          refine ⟨((IntKind.u64.wrap z).tmod 8).toNat, ?_, ?_⟩
          · rw [Int.tmod_eq_emod_of_nonneg h1]; omega
          · rw [Int.tmod_eq_emod_of_nonneg h1]; omega
        have hcj := fsm_below_cell hbr (many_cell W _ _ B hrow j hj8)
        have hxl := many_len j hj8
        obtain ⟨x, hx⟩ : ∃ x, manyS[j]'hj8 = x := ⟨_, rfl⟩
        rw [hx] at hcj hxl
        clear hx
        have hS2 : S.length ≤ 2000 := by omega
        have hk30i : (k : Int) < 30 := by omega
        obtain ⟨q1, q2, q3⟩ := many_cat S x hS2 hxl
        have hrx := fun w ht hm => run_any (bytesOf x) ml w (by rw [bytesOf_size]; omega) ht hm
        rw [show (bytesOf x).data.toList = x from rfl] at hrx
        have hR1 := run_len S (by omega)
        have hR2 := run_len x (by omega)
        obtain ⟨hl1, hl2⟩ := lead_line S x HLd.out
        obtain ⟨R, hR⟩ : ∃ R, runM S = R := ⟨_, rfl⟩
        obtain ⟨X, hX⟩ : ∃ X, runM x = X := ⟨_, rfl⟩
        rw [hR] at hR1 ⊢
        rw [hX] at hR2 hrx
        rw [hR, hX] at hl2
        have HL1 := Lib.hid hl1
        have HL2 := Lib.hid hl2
        have q4 : ¬ 9223372036854775807 < (bytesOf R).size + (bytesOf X).size := by rw [bytesOf_size, bytesOf_size]; omega
        have q5 : bytesOf R ++ bytesOf X = bytesOf (R ++ X) := bytesOf_append _ _
        clear hR hX hl1 hl2
        go_wp2_with fail
        refine (hrx _ (ht.below hBr) (hm.below hBr)).mono ?_
        rintro e w2 ⟨rfl, hb2⟩
        go_wp2_with (go_at_call 12; refine (num_any _ _).mono ?_; rintro e w' ⟨rfl, rfl⟩)
        go_roundw
        case rel =>
          refine ⟨k + 1, S ++ x ++ [10], by go_num, by omega, by omega, by rw [List.append_assoc], by rw [HL2.out], HL1, by rw [List.length_append, List.length_append]; simp only [List.length_cons, List.length_nil]; omega, seqB hbr hb2⟩
        case measure => simp [intOf]; omega
      · have hk30i : ¬ (k : Int) < 30 := by omega
        have hrS := fun w ht hm => run_any (bytesOf S) ml w (by rw [bytesOf_size]; omega) ht hm
        rw [show (bytesOf S).data.toList = S from rfl] at hrS
        obtain ⟨R, hR⟩ : ∃ R, runM S = R := ⟨_, rfl⟩
        rw [hR] at hrS ⊢
        have hself : ((bytesOf R).toList == (bytesOf R).toList) = true := beq_self_eq_true _
        clear hR
        go_wp2_with fail
        refine (hrS _ (ht.below hBr) (hm.below hBr)).mono ?_
        rintro e w2 ⟨rfl, hb2⟩
        go_wp2_with (go_at_call 12; refine (num_any _ _).mono ?_; rintro e w' ⟨rfl, rfl⟩)
        go_ret
        exact ⟨rfl, seqB hBr hb2⟩
    · have hrS := fun w ht hm => run_any (bytesOf S) ml w (by rw [bytesOf_size]; omega) ht hm
      rw [show (bytesOf S).data.toList = S from rfl] at hrS
      obtain ⟨R, hR⟩ : ∃ R, runM S = R := ⟨_, rfl⟩
      rw [hR] at hrS ⊢
      have hself : ((bytesOf R).toList == (bytesOf R).toList) = true := beq_self_eq_true _
      clear hR
      go_wp2_with fail
      refine (hrS _ (ht.below hBr) (hm.below hBr)).mono ?_
      rintro e w2 ⟨rfl, hb2⟩
      go_wp2_with (go_at_call 12; refine (num_any _ _).mono ?_; rintro e w' ⟨rfl, rfl⟩)
      go_ret
      exact ⟨rfl, seqB hBr hb2⟩
end Go.Proofs.YteigigepmoicaaaGreatDoor
