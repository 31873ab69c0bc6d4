/- ConsoleCounts walked. -/
import Derived.Test.YteigigepmoicaaaGreatDoorCon19
import Derived.Test.YteigigepmoicaaaGreatDoorCon20
import Derived.Test.YteigigepmoicaaaGreatDoorCon21
namespace Go.Proofs.YteigigepmoicaaaGreatDoor
open Go.RowKit Go.Crc
set_option linter.unusedVariables false
set_option linter.unusedSimpArgs false
/-- every element that there is can be read -/
def IntsIn (w : World) (pa : Option Addr) (l : List Int) : Prop := ∀ j (h : j < l.length), ∃ g o, pa = some ⟨g, o, none⟩ ∧ w.cell? ⟨g, o + j, none⟩ = some (.int .i64 l[j])
theorem intsIn_of {w : World} {base : Nat} {v : Value} {l : List Int} (h : OwnI w base v l) : ∃ a c, v = .slice a l.length c ∧ IntsIn w a l := by
  rcases h.at with ⟨rfl, rfl⟩ | ⟨g, o, c, rfl, hc⟩
  · exact ⟨none, 0, rfl, fun j hj => absurd hj (by simp)⟩
  · exact ⟨_, c, rfl, fun j hj => ⟨g, o, rfl, hc j hj⟩⟩
theorem cat_fsm (s v : List UInt8) : (⟨#[102, 115, 109, 32]⟩ : ByteArray) ++ bytesOf s ++ ⟨#[32]⟩ ++ bytesOf v = bytesOf (joinW [nFsm, s, v]) := by
  apply ba_ext
  simp [bytesOf, joinW, nFsm]
theorem cat_target (x : List UInt8) : (⟨#[116, 97, 114, 103, 101, 116, 32]⟩ : ByteArray) ++ bytesOf x ++ ⟨#[32, 50, 53, 54, 32, 49, 32, 54]⟩ = bytesOf (joinW [nTarget, x, itoaM 256, itoaM 1, itoaM 6]) := by
  have h1 : itoaM 256 = [50, 53, 54] := by decide
  have h2 : itoaM 1 = [49] := by decide
  have h3 : itoaM 6 = [54] := by decide
  apply ba_ext
  simp [bytesOf, joinW, nTarget, h1, h2, h3]
theorem cat_delay (t x : List UInt8) : (⟨#[100, 101, 108, 97, 121, 32]⟩ : ByteArray) ++ bytesOf t ++ ⟨#[32, 51, 32, 54, 48, 32]⟩ ++ bytesOf x = bytesOf (joinW [nDelay, t, itoaM 3, itoaM 60, x]) := by
  have h1 : itoaM 3 = [51] := by decide
  have h2 : itoaM 60 = [54, 48] := by decide
  apply ba_ext
  simp [bytesOf, joinW, nDelay, h1, h2]
theorem join_len3 (a b c : List UInt8) : (joinW [a, b, c]).length = a.length + b.length + c.length + 2 := by simp [joinW]; omega
theorem join_len5 (a b c d e : List UInt8) : (joinW [a, b, c, d, e]).length = a.length + b.length + c.length + d.length + e.length + 4 := by simp [joinW]; omega
theorem beq_self (b : ByteArray) : (b.toList == b.toList) = true := beq_self_eq_true _
set_option maxRecDepth 100000 in
set_option maxHeartbeats 4000000 in
theorem lcounts_walk (a0 a1 a2 a3 : Int) (ml : Int) (w : World) (ht : TabW w) (hm : MaxLenIs w ml) :
    Calls Tryz.prog 8 #[.int .i64 a0, .int .i64 a1, .int .i64 a2, .int .i64 a3] w fun e w' => e = .returned (.bool true) ∧ Below w.heap.size w w' := by
  have haw := fun w ht hm => awake28_any ml w ht hm
  obtain ⟨s, hs10, hs⟩ : ∃ s : Nat, s < 10 ∧ (IntKind.u64.wrap a0).tmod 10 = (s : Int) := by
    have h1 : 0 ≤ IntKind.u64.wrap a0 := by rw [IntKind.wrap_u64]; omega
    refine ⟨((IntKind.u64.wrap a0).tmod 10).toNat, ?_, ?_⟩
    · rw [Int.tmod_eq_emod_of_nonneg h1]; omega
    · rw [Int.tmod_eq_emod_of_nonneg h1]; omega
  obtain ⟨v, hv16, hv⟩ : ∃ v : Nat, v < 16 ∧ (IntKind.u64.wrap a1).tmod 16 = (v : Int) := by
    have h1 : 0 ≤ IntKind.u64.wrap a1 := by rw [IntKind.wrap_u64]; omega
    refine ⟨((IntKind.u64.wrap a1).tmod 16).toNat, ?_, ?_⟩
    · rw [Int.tmod_eq_emod_of_nonneg h1]; omega
    · rw [Int.tmod_eq_emod_of_nonneg h1]; omega
  obtain ⟨x, hx16, hx⟩ : ∃ x : Nat, x < 65536 ∧ bits BinOp.and IntKind.i64 a2 65535 = (x : Int) := by
    refine ⟨(a2 % 65536).toNat, by omega, ?_⟩
    have := i64_low a2 16 (by decide)
    rw [show ((2 ^ 16 - 1 : Nat) : Int) = 65535 from rfl, show ((2 ^ 16 : Nat) : Int) = 65536 from rfl] at this
    rw [this]; omega
  obtain ⟨t, ht8, htt⟩ : ∃ t : Nat, t < 8 ∧ bits BinOp.and IntKind.i64 a3 7 = (t : Int) := by
    refine ⟨(a3 % 8).toNat, by omega, ?_⟩
    have := i64_low a3 3 (by decide)
    rw [show ((2 ^ 3 - 1 : Nat) : Int) = 7 from rfl, show ((2 ^ 3 : Nat) : Int) = 8 from rfl] at this
    rw [this]; omega
  have hst := fun w => rstep_any s v w
  have hrg := step_range s v
  have her := step_err s v hs10 hv16
  have hr1 := run_fsm s v (by omega) (by omega) (by omega) (by omega)
  have hr2 := run_target x 256 1 6 (by omega) (by omega) (by omega) (by omega) (by omega) (by omega) (by omega)
  have hr3 := run_delay t 3 60 x (by omega) (by omega) (by omega) (by omega) (by omega) (by omega) (by omega)
  have htg := fun w => rtarget_any x 256 1 6 w (by omega) (by omega) (by omega) (by omega)
  have htr := target_range x 256 1 6 (by omega) (by omega) (by omega)
  have hdl := fun w => rdelay_any t 3 60 x w (by omega)
  have hdr := delay_range t 3 60 x
  have ds := fun w => decimal_any s (by omega) (by omega) w
  have dv := fun w => decimal_any v (by omega) (by omega) w
  have dx := fun w => decimal_any x (by omega) (by omega) w
  have dt := fun w => decimal_any t (by omega) (by omega) w
  have de := fun w => decimal_any 1001 (by omega) (by omega) w
  obtain ⟨ps1, ps2, ps3⟩ := itoa_plain s (by omega) (by omega)
  obtain ⟨pv1, pv2, pv3⟩ := itoa_plain v (by omega) (by omega)
  obtain ⟨px1, px2, px3⟩ := itoa_plain x (by omega) (by omega)
  obtain ⟨pt1, pt2, pt3⟩ := itoa_plain t (by omega) (by omega)
  have c1 := cat_fsm (itoaM s) (itoaM v)
  have c2 := cat_target (itoaM x)
  have c3 := cat_delay (itoaM t) (itoaM x)
  have l1 := join_len3 nFsm (itoaM s) (itoaM v)
  have l2 := join_len5 nTarget (itoaM x) (itoaM 256) (itoaM 1) (itoaM 6)
  have l3 := join_len5 nDelay (itoaM t) (itoaM 3) (itoaM 60) (itoaM x)
  have n1 : nFsm.length = 3 := rfl
  have n2 : nTarget.length = 6 := rfl
  have n3 : nDelay.length = 5 := rfl
  have k1 : (itoaM 256).length = 3 := by decide
  have k2 : (itoaM 1).length = 1 := by decide
  have k3 : (itoaM 6).length = 1 := by decide
  have k4 : (itoaM 3).length = 1 := by decide
  have k5 : (itoaM 60).length = 2 := by decide
  obtain ⟨D, hD⟩ : ∃ D, delayM t 3 60 x = D := ⟨_, rfl⟩
  obtain ⟨D1, D2⟩ := D
  obtain ⟨G, hG⟩ : ∃ G, targetN x 256 1 6 = G := ⟨_, rfl⟩
  rw [hD] at hr3 hdl hdr
  rw [hG] at hr2 htg htr
  dsimp only at hr3 hdl hdr
  have dD := fun w => decimal_any D1 (by omega) (by omega) w
  have dG := fun w => decimal_any G (by omega) (by omega) w
  obtain ⟨⟨T, L, E⟩, hF⟩ : ∃ F, stepSays s v = F := ⟨_, rfl⟩
  rw [hF] at hst hrg her hr1
  dsimp only at hst hrg her hr1
  obtain ⟨hL3, hT0, hT9, hLx, -, -⟩ := hrg
  have dT := fun w => decimal_any T (by omega) (by omega) w
  obtain ⟨J1, hJ1⟩ : ∃ J, joinW [nFsm, itoaM s, itoaM v] = J := ⟨_, rfl⟩
  obtain ⟨J2, hJ2⟩ : ∃ J, joinW [nTarget, itoaM x, itoaM 256, itoaM 1, itoaM 6] = J := ⟨_, rfl⟩
  obtain ⟨J3, hJ3⟩ : ∃ J, joinW [nDelay, itoaM t, itoaM 3, itoaM 60, itoaM x] = J := ⟨_, rfl⟩
  rw [hJ1] at hr1 c1 l1
  rw [hJ2] at hr2 c2 l2
  rw [hJ3] at hr3 c3 l3
  have hQ2 := fun w ht hm => one_any (bytesOf J2) _ ml w (by rw [bytesOf_size]; omega) hr2 ht hm
  have hQ3 := fun w ht hm => one_any (bytesOf J3) _ ml w (by rw [bytesOf_size]; omega) hr3 ht hm
  have sS : (bytesOf (itoaM s)).size ≤ 10 := by rw [bytesOf_size]; exact ps3
  have sV : (bytesOf (itoaM v)).size ≤ 10 := by rw [bytesOf_size]; exact pv3
  have sX : (bytesOf (itoaM x)).size ≤ 10 := by rw [bytesOf_size]; exact px3
  have sT : (bytesOf (itoaM t)).size ≤ 10 := by rw [bytesOf_size]; exact pt3
  have sE : (bytesOf (itoaM 1001)).size = 4 := by rw [bytesOf_size]; decide
  have cE : (⟨#[101, 114, 114, 111, 114, 32]⟩ : ByteArray) ++ bytesOf (itoaM 1001) = bytesOf (errW 1001) := err_cat 1001
  have bG := beq_self (bytesOf (itoaM G))
  have bD := beq_self (bytesOf (itoaM D1))
  have l1' : J1.length ≤ 100 := by omega
  clear hr2 hr3 htr hdr hJ1 hJ2 hJ3 hF hD hG ps1 ps2 ps3 pv1 pv2 pv3 px1 px2 px3 pt1 pt2 pt3 l2 l3 n2 n3 k1 k2 k3 k4 k5
  obtain ⟨XS, hXS⟩ : ∃ XS, bytesOf (itoaM s) = XS := ⟨_, rfl⟩
  obtain ⟨XV, hXV⟩ : ∃ XS, bytesOf (itoaM v) = XS := ⟨_, rfl⟩
  obtain ⟨XX, hXX⟩ : ∃ XS, bytesOf (itoaM x) = XS := ⟨_, rfl⟩
  obtain ⟨XT, hXT⟩ : ∃ XS, bytesOf (itoaM t) = XS := ⟨_, rfl⟩
  obtain ⟨X2, hX2⟩ : ∃ XS, bytesOf J2 = XS := ⟨_, rfl⟩
  obtain ⟨X3, hX3⟩ : ∃ XS, bytesOf J3 = XS := ⟨_, rfl⟩
  obtain ⟨YG, hYG⟩ : ∃ XS, bytesOf (itoaM G) = XS := ⟨_, rfl⟩
  obtain ⟨YD, hYD⟩ : ∃ XS, bytesOf (itoaM D1) = XS := ⟨_, rfl⟩
  rw [hXS] at ds c1 sS
  rw [hXV] at dv c1 sV
  rw [hXX] at dx c2 c3 sX
  rw [hXT] at dt c3 sT
  rw [hX2] at c2 hQ2
  rw [hX3] at c3 hQ3
  rw [hYG] at hQ2 dG bG
  rw [hYD] at hQ3 dD bD
  have C1 := Lib.hid c1
  have C2 := Lib.hid c2
  have C3 := Lib.hid c3
  clear c1 c2 c3 hXS hXV hXX hXT hX2 hX3 hYG hYD
  by_cases hE : E = 0
  · subst hE
    have P1 : runM J1 = (itoaM T ++ actsW L) ++ [10] := by rw [hr1, if_pos rfl]
    have hQ1 := fun w ht hm => one_any (bytesOf J1) _ ml w (by rw [bytesOf_size]; omega) P1 ht hm
    have bP := beq_self (bytesOf (itoaM T ++ actsW L))
    obtain ⟨X1, hX1⟩ : ∃ XS, bytesOf J1 = XS := ⟨_, rfl⟩
    rw [hX1] at hQ1 C1
    clear hr1 her P1 hX1 l1 n1
    go_enter Tryz.func8, Tryz.ntmps8
    go_wp2_with fail
    refine (haw _ ht hm).mono ?_
    rintro e w1 ⟨rfl, hb1⟩
    go_wp2_with fail
    refine (hst _).mono ?_
    rintro e w2 ⟨o, rfl, hown, hb2⟩
    have hB2 := seqB hb1 hb2
    obtain ⟨a, c, rfl, hin⟩ := intsIn_of hown
    clear hown
    go_wp2_with fail
    refine (de _).mono ?_
    rintro e w3 ⟨rfl, hb3⟩
    have hB3 := seqB hB2 hb3
    go_wp2_with fail
    refine (dT _).mono ?_
    rintro e w4 ⟨rfl, hb4⟩
    have hb24 := seqB hb3 hb4
    have hB4 := seqB hB3 hb4
    go_wp2_with fail
    go_loopw [14, 15] (fun v i wr => ∃ (k : Nat) (A : List UInt8), k ≤ L.length ∧ i = .int .i64 k ∧ v = .string (bytesOf A) ∧ Hid (A = itoaM T ++ actsW (L.take k)) ∧ Below w4.heap.size w4 wr) (fun _ i _ => L.length - (intOf i).toNat)
    case atStart => exact ⟨0, itoaM T, Nat.zero_le _, rfl, rfl, Lib.hid (by rw [List.take_zero]; simp [actsW]), Below.refl _ _⟩
    case round =>
      obtain ⟨k, A, hk, rfl, rfl, hA, hbl⟩ := hrel
      by_cases hlt : k < L.length
      · obtain ⟨g, o, rfl, hc⟩ := hin k hlt
        have h1 := fsm_below_cell hbl (fsm_below_cell hb24 hc)
        have hsn := Lib.hid (acts_snoc L k hlt)
        have hxr := hLx L[k] (List.getElem_mem _)
        have hAl : A.length ≤ 1000 := by
          have h1 := hA.out
          have h2 := acts_size (L.take k)
          have h3 := itoa_len T
          rw [List.length_take] at h2
          rw [h1, List.length_append]
          omega
        obtain ⟨y, hy⟩ : ∃ y, L[k] = y := ⟨_, rfl⟩
        rw [hy] at h1 hsn hxr
        have dy := fun w => decimal_any y hxr.1 (by omega) w
        have hyl := itoa_len y
        have z1 : (bytesOf A).size ≤ 1000 := by rw [bytesOf_size]; exact hAl
        have z2 : (bytesOf (itoaM y)).size ≤ 21 := by rw [bytesOf_size]; exact hyl
        have hcat : bytesOf A ++ (⟨#[32]⟩ : ByteArray) ++ bytesOf (itoaM y) = bytesOf (A ++ 32 :: itoaM y) := by
          apply ba_ext; simp [bytesOf]
        have HC := Lib.hid hcat
        clear hy hc hyl hcat
        go_wp2_with fail
        refine (dy _).mono ?_
        rintro e w5 ⟨rfl, hb5⟩
        go_wp2_with fail
        go_roundw
        case rel => exact ⟨k + 1, A ++ 32 :: itoaM y, hlt, by go_num, by rw [HC.out], Lib.hid (by rw [hA.out, hsn.out]; simp), seqB hbl hb5⟩
        case measure => simp [intOf]; omega
      · obtain rfl : k = L.length := by omega
        obtain rfl : A = itoaM T ++ actsW L := by rw [hA.out, List.take_of_length_le (Nat.le_refl _)]
        have hBr := seqB hB4 hbl
        go_wp2_with fail
        refine (hdl _).mono ?_
        rintro e wa ⟨rfl, rfl⟩
        go_wp2_with fail
        refine (ds _).mono ?_
        rintro e wb ⟨rfl, hbb⟩
        have hBb := seqB hBr hbb
        go_wp2_with fail
        refine (dv _).mono ?_
        rintro e wc ⟨rfl, hbc⟩
        have hBc := seqB hBb hbc
        go_wp2_with fail
        rw [C1.out]
        refine (hQ1 _ (ht.below hBc) (hm.below hBc)).mono ?_
        rintro e wd ⟨rfl, hbd⟩
        have hBd := seqB hBc hbd
        go_wp2_with fail
        refine (dx _).mono ?_
        rintro e we ⟨rfl, hbe⟩
        have hBe := seqB hBd hbe
        go_wp2_with fail
        rw [C2.out]
        refine (hQ2 _ (ht.below hBe) (hm.below hBe)).mono ?_
        rintro e wf ⟨rfl, hbf⟩
        have hBf := seqB hBe hbf
        go_wp2_with fail
        refine (htg _).mono ?_
        rintro e wf2 ⟨rfl, rfl⟩
        go_wp2_with fail
        refine (dG _).mono ?_
        rintro e wg ⟨rfl, hbg⟩
        have hBg := seqB hBf hbg
        go_wp2_with fail
        refine (dt _).mono ?_
        rintro e wh ⟨rfl, hbh⟩
        have hBh := seqB hBg hbh
        go_wp2_with fail
        refine (dx _).mono ?_
        rintro e wi ⟨rfl, hbi⟩
        have hBi := seqB hBh hbi
        go_wp2_with fail
        rw [C3.out]
        refine (hQ3 _ (ht.below hBi) (hm.below hBi)).mono ?_
        rintro e wj ⟨rfl, hbj⟩
        have hBj := seqB hBi hbj
        go_wp2_with fail
        refine (dD _).mono ?_
        rintro e wk ⟨rfl, hbk⟩
        go_wp2_with fail
        go_ret
        exact ⟨rfl, seqB hBj hbk⟩
  · have hE2 : E = 1001 := by omega
    subst hE2
    have P1 : runM J1 = errW 1001 ++ [10] := by rw [hr1, if_neg (by decide)]
    have hQ1 := fun w ht hm => one_any (bytesOf J1) _ ml w (by rw [bytesOf_size]; omega) P1 ht hm
    have bP := beq_self (bytesOf (errW 1001))
    obtain ⟨X1, hX1⟩ : ∃ XS, bytesOf J1 = XS := ⟨_, rfl⟩
    rw [hX1] at hQ1 C1
    clear hr1 her P1 hX1 l1 n1 hE
    go_enter Tryz.func8, Tryz.ntmps8
    go_wp2_with fail
    refine (haw _ ht hm).mono ?_
    rintro e w1 ⟨rfl, hb1⟩
    go_wp2_with fail
    refine (hst _).mono ?_
    rintro e w2 ⟨o, rfl, hown, hb2⟩
    have hB2 := seqB hb1 hb2
    clear hown
    go_wp2_with fail
    refine (de _).mono ?_
    rintro e wr ⟨rfl, hb3⟩
    have hBr := seqB hB2 hb3
    go_wp2_with fail
    refine (hdl _).mono ?_
    rintro e wa ⟨rfl, rfl⟩
    go_wp2_with fail
    refine (ds _).mono ?_
    rintro e wb ⟨rfl, hbb⟩
    have hBb := seqB hBr hbb
    go_wp2_with fail
    refine (dv _).mono ?_
    rintro e wc ⟨rfl, hbc⟩
    have hBc := seqB hBb hbc
    go_wp2_with fail
    rw [C1.out]
    refine (hQ1 _ (ht.below hBc) (hm.below hBc)).mono ?_
    rintro e wd ⟨rfl, hbd⟩
    have hBd := seqB hBc hbd
    go_wp2_with fail
    refine (dx _).mono ?_
    rintro e we ⟨rfl, hbe⟩
    have hBe := seqB hBd hbe
    go_wp2_with fail
    rw [C2.out]
    refine (hQ2 _ (ht.below hBe) (hm.below hBe)).mono ?_
    rintro e wf ⟨rfl, hbf⟩
    have hBf := seqB hBe hbf
    go_wp2_with fail
    refine (htg _).mono ?_
    rintro e wf2 ⟨rfl, rfl⟩
    go_wp2_with fail
    refine (dG _).mono ?_
    rintro e wg ⟨rfl, hbg⟩
    have hBg := seqB hBf hbg
    go_wp2_with fail
    refine (dt _).mono ?_
    rintro e wh ⟨rfl, hbh⟩
    have hBh := seqB hBg hbh
    go_wp2_with fail
    refine (dx _).mono ?_
    rintro e wi ⟨rfl, hbi⟩
    have hBi := seqB hBh hbi
    go_wp2_with fail
    rw [C3.out]
    refine (hQ3 _ (ht.below hBi) (hm.below hBi)).mono ?_
    rintro e wj ⟨rfl, hbj⟩
    have hBj := seqB hBi hbj
    go_wp2_with fail
    refine (dD _).mono ?_
    rintro e wk ⟨rfl, hbk⟩
    go_wp2_with fail
    go_ret
    exact ⟨rfl, seqB hBj hbk⟩
end Go.Proofs.YteigigepmoicaaaGreatDoor
