/- The walk of FrameBack. -/
import Derived.Test.YthijchjdkicbdaaDoorOdd
import Derived.BigQuiet
namespace Go.Proofs.YthijchjdkicbdaaDoor
open Go.RowKit Go.Crc
set_option linter.unusedVariables false
def IntsIn (w : World) (pa : Option Addr) (len : Nat) (zs : List Int) : Prop := ∀ j, j < len → ∃ g o, pa = some ⟨g, o, none⟩ ∧ w.cell? ⟨g, o + j, none⟩ = some (.int .i64 (zs.getD j 0))
theorem intsIn_of_row {w : World} {a : Option Addr} {len cap : Nat} {zs : List Int} (h : IsRow .i64 w a len cap zs) : IntsIn w a len zs := by
  intro j hj
  rcases h with ⟨rfl, rfl, rfl, rfl⟩ | ⟨x, rfl, hlc, hcm, hz, hcell, hwz⟩
  · omega
  obtain ⟨b, off, spot⟩ := x
  have hc := hcell j (by omega)
  obtain rfl : spot = none := by
    have := World.cell?_spot (hcell 0 (by omega))
    simpa [Addr.add] using this
  have hadd : (⟨b, off, none⟩ : Addr).add j = ⟨b, off + j, none⟩ := by unfold Addr.add; split <;> simp_all
  rw [hadd] at hc
  exact ⟨b, off, rfl, hc⟩
theorem oddP_zero : oddP 0 = 1 := by decide
theorem frameT_good (p : Int) (d : ByteArray) (m : Int) (hd : ¬ 2048 < d.size) : frameT (oddP p : Int) d.data.toList m = (flagged (frameText m ((oddP p : Int), d)), 0) :=
  frameT_ok _ _ m (oddP_ok p).1 (by rw [len_toList]; omega)
theorem frameT_long (p : Int) (d : ByteArray) (m : Int) (hd : 2048 < d.size) : frameT (oddP p : Int) d.data.toList m = ([], 304) := by
  unfold frameT
  rw [if_neg (by rw [(oddP_ok p).1]; decide), if_pos (by rw [len_toList]; exact hd)]
theorem frameText_len (m : Int) (p : Int) (d : ByteArray) (hd : ¬ 2048 < d.size) : (bytesOf (flagged (frameText m (p, d)))).size ≤ 4200 := by
  rw [flagged_size _ _ rfl]
  have := stuff_length m (put (headB p ++ d.data.toList))
  rw [put_length, List.length_append, len_toList] at this
  have h4 : (headB p).length = 4 := rfl
  show (stuff m (put (headB p ++ d.data.toList))).length + 2 ≤ 4200
  omega
theorem OwnT.cells {w : World} {base : Nat} {a : Option Addr} {n c : Nat} {l : List ByteArray} (h : OwnT w base (.slice a n c) l) (j : Nat) (hj : j < l.length) :
    ∃ g, a = some ⟨g, 0, none⟩ ∧ w.cell? ⟨g, j, none⟩ = some (.string l[j]) := by
  rcases h.at with ⟨rfl, _⟩ | ⟨g, o, c', hv, hc⟩
  · simp at hj
  · rcases h.2 with ⟨_, h0⟩ | ⟨g2, cap, cur, hv2, _⟩
    · omega
    · cases hv
      cases hv2
      exact ⟨_, rfl, by have := hc j hj; rwa [Nat.zero_add] at this⟩
theorem num_same (x : Int) (w : World) : Calls Tryd.prog 16 #[.int .i64 x] w fun e w' => e = .returned (.int .i64 x) ∧ w' = w := (num_any x w).mono fun e w' h => ⟨h.1, h.2.symm⟩
def Good (fs : List (Int × ByteArray)) : Prop := ∀ f ∈ fs, protoOk f.1 = true ∧ f.1 < 65536 ∧ ¬ 2048 < f.2.size
theorem Good.snoc {fs : List (Int × ByteArray)} (h : Good fs) (x : Int) (d : ByteArray) (hd : ¬ 2048 < d.size) : Good (fs ++ [((oddP x : Int), d)]) := by
  intro f hf
  rcases List.mem_append.1 hf with hf | hf
  · exact h f hf
  · rw [List.mem_singleton] at hf
    subst hf
    have := oddP_ok x
    exact ⟨this.1, by have := this.2; show ((oddP x : Nat) : Int) < 65536; omega, hd⟩
set_option maxRecDepth 100000 in
set_option maxHeartbeats 8000000 in
theorem frameBack_walk (w : World) (a : Option Addr) (la ca : Nat) (zs : List Int) (hin0 : IsRow .i64 w a la ca zs) (pb : Option Addr) (cb : Nat) (l : List ByteArray) (hl : TextsIn w pb l) (hn : l.length ≤ maxLen) (hz : ∀ s ∈ l, s.size ≤ maxLen) (m ml : Int) (hml : MaxLenIs w ml) :
    Calls Tryd.prog 9 #[.slice a la ca, .slice pb l.length cb, .int .i64 m] w fun e w' => e = .returned (.bool true) ∧ Below w.heap.size w w' := by
  have hin := intsIn_of_row hin0
  have hla : la ≤ 9223372036854775807 := by
    rcases hin0 with ⟨_, rfl, _⟩ | ⟨x, _, h1, h2, _⟩
    · omega
    · unfold maxLen at h2; omega
  clear hin0
  obtain ⟨n, hnl⟩ : ∃ n, l.length = n := ⟨_, rfl⟩
  rw [hnl] at hn ⊢
  unfold maxLen at hn
  have Hnl := Lib.hid hnl
  clear hnl
  go_enter Tryd.func9, Tryd.ntmps9
  go_wp2_with fail
  refine (awake3_any _).mono ?_
  rintro e w1 ⟨rfl, hb1⟩
  go_wp2_with fail
  go_loopw [7, 8, 9] (fun x v i wr => ∃ (k : Nat) (X : ByteArray) (fs : List (Int × ByteArray)), k ≤ n ∧ k ≤ 6 ∧ i = .int .i64 k ∧ x = .string X ∧ X.size ≤ k * 4200 ∧ fs.length ≤ k ∧ Hid (Good fs ∧ X.data.toList = frames m fs) ∧ OwnF wr w.heap.size v fs ∧ Below w.heap.size w wr) (fun _ _ i _ => n - (intOf i).toNat)
  case atStart => exact ⟨0, ⟨#[]⟩, [], Nat.zero_le _, Nat.zero_le _, rfl, rfl, by decide, Nat.le_refl _, Lib.hid ⟨fun f hf => (by simp at hf), rfl⟩, OwnF.nil _ _, hb1⟩
  case round =>
    obtain ⟨k, X, fs, hk, hk6, rfl, rfl, zX, hfl, hX, hown, hbl⟩ := hrel
    clear hb1
    by_cases hlt : k < n
    · by_cases hlt2 : k < 6
      · obtain ⟨g, o, rfl, hc0⟩ := hl k (by rw [Hnl.out]; exact hlt)
        have hc := below_cellx hbl hc0
        have hzk := hz _ (List.getElem_mem (l := l) (n := k) (by rw [Hnl.out]; exact hlt))
        obtain ⟨y, hy⟩ : ∃ y, l[k]'(by rw [Hnl.out]; exact hlt) = y := ⟨_, rfl⟩
        rw [hy] at hc hzk
        clear hy hc0
        have hzk' := hzk
        unfold maxLen at hzk'
        by_cases hla2 : k < la
        · obtain ⟨ga, oa, rfl, hca0⟩ := hin k hla2
          have hca := below_cellx hbl hca0
          obtain ⟨z, hzz⟩ : ∃ z, zs.getD k 0 = z := ⟨_, rfl⟩
          rw [hzz] at hca
          clear hca0 hzz
          have hba : bits BinOp.and IntKind.i64 z 65278 = (((z % 18446744073709551616).toNat &&& 65278 : Nat) : Int) := i64_and_any z 65278 (by decide)
          have hbx : ((z % 18446744073709551616).toNat &&& 65278) < 65536 := Nat.lt_of_le_of_lt Nat.and_le_right (by decide)
          have hbo : bits BinOp.or IntKind.i64 ((((z % 18446744073709551616).toNat &&& 65278 : Nat)) : Int) 1 = (oddP z : Int) := by
            have := i64_or_nat ((z % 18446744073709551616).toNat &&& 65278) 1 (by omega) (by decide)
            simpa [oddP] using this
          generalize ((z % 18446744073709551616).toNat &&& 65278) = px at hba hbx hbo
          by_cases hlong : 2048 < y.size
          · have HT := Lib.hid (frameT_long (z) y m hlong)
            go_wp2_with fail
            refine (fput_any _ _ _ _ hzk).mono ?_
            rintro e w2 ⟨rfl, hb2⟩
            rw [HT.out]
            have k0 := below_cell hb2 (a := ⟨wr.heap.size, 0, none⟩) (v := .int .i64 (oddP (z) : Int)) (by simp [World.cell?_alloc_new])
            have k1 := below_cell hb2 (a := ⟨wr.heap.size, 1, none⟩) (v := .string y) (by simp [World.cell?_alloc_new])
            replace hc := below_cell hb2 (a := ⟨g, o + k, none⟩) (v := .string y) (by simp [World.cell?_alloc_past, block_lt_of_cell hc, hc])
            have hB2 := seqB (allocB hbl (.cells #[.int .i64 (oddP (z) : Int), .string y] 42)) hb2
            replace hown := (hown.below ((Below.refl _ _).alloc (Nat.le_refl _) (.cells #[.int .i64 (oddP (z) : Int), .string y] 42))).below hb2
            clear hbl hb2
            go_wp2_with (go_at_call 16; refine (num_any _ _).mono ?_; rintro e w' ⟨rfl, rfl⟩)
            go_roundw
            case rel => exact ⟨k + 1, X, fs, by omega, by omega, by go_num, rfl, by omega, by omega, hX, hown, hB2⟩
            case measure => simp [intOf]; omega
          · have HT := Lib.hid (frameT_good (z) y m hlong)
            have hFz := frameText_len m (oddP (z) : Int) y hlong
            have hX' : Hid (Good (fs ++ [((oddP (z) : Int), y)]) ∧ (X ++ bytesOf (flagged (frameText m ((oddP (z) : Int), y)))).data.toList = frames m (fs ++ [((oddP (z) : Int), y)])) := Lib.hid ⟨hX.out.1.snoc (z) y hlong, by rw [frames_snoc, ← hX.out.2]; simp [bytesOf]⟩
            obtain ⟨F, hF⟩ : ∃ F, bytesOf (flagged (frameText m ((oddP (z) : Int), y))) = F := ⟨_, rfl⟩
            rw [hF] at hFz hX'
            have hXz : (X ++ F).size ≤ (k + 1) * 4200 := by rw [ByteArray.size_append]; omega
            have n1 : ¬ (9223372036854775807 : Int) < X.size + F.size := by omega
            go_wp2_with fail
            refine (fput_any _ _ _ _ hzk).mono ?_
            rintro e w2 ⟨rfl, hb2⟩
            rw [HT.out, hF]
            clear hF
            have k0 := below_cell hb2 (a := ⟨wr.heap.size, 0, none⟩) (v := .int .i64 (oddP (z) : Int)) (by simp [World.cell?_alloc_new])
            have k1 := below_cell hb2 (a := ⟨wr.heap.size, 1, none⟩) (v := .string y) (by simp [World.cell?_alloc_new])
            replace hc := below_cell hb2 (a := ⟨g, o + k, none⟩) (v := .string y) (by simp [World.cell?_alloc_past, block_lt_of_cell hc, hc])
            have hB2 := seqB (allocB hbl (.cells #[.int .i64 (oddP (z) : Int), .string y] 42)) hb2
            replace hown := (hown.below ((Below.refl _ _).alloc (Nat.le_refl _) (.cells #[.int .i64 (oddP (z) : Int), .string y] 42))).below hb2
            clear hbl hb2
            go_wp2_with (first | (go_at_call 16; refine (num_any _ _).mono ?_; rintro e w' ⟨rfl, rfl⟩) | (at_builtin; refine wpList_appF rfl _ _ rfl w _ _ (oddP (z) : Int) y 1 hown rfl rfl (by omega) hB2 ?_; intro v' w5 hown1 hbl1))
            go_roundw
            case rel => exact ⟨k + 1, _, _, by omega, by omega, by go_num, rfl, hXz, by rw [List.length_append]; simp; omega, hX', hown1, hbl1⟩
            case measure => simp [intOf]; omega
        · have h1 : (1 : Int) = ((oddP 0 : Nat) : Int) := by rw [oddP_zero]; rfl
          by_cases hlong : 2048 < y.size
          · have HT := Lib.hid (frameT_long (0) y m hlong)
            go_wp2_with fail
            refine (fput_any _ _ _ _ hzk).mono ?_
            rintro e w2 ⟨rfl, hb2⟩
            rw [HT.out]
            have k0 := below_cell hb2 (a := ⟨wr.heap.size, 0, none⟩) (v := .int .i64 (oddP (0) : Int)) (by simp [World.cell?_alloc_new])
            have k1 := below_cell hb2 (a := ⟨wr.heap.size, 1, none⟩) (v := .string y) (by simp [World.cell?_alloc_new])
            replace hc := below_cell hb2 (a := ⟨g, o + k, none⟩) (v := .string y) (by simp [World.cell?_alloc_past, block_lt_of_cell hc, hc])
            have hB2 := seqB (allocB hbl (.cells #[.int .i64 (oddP (0) : Int), .string y] 42)) hb2
            replace hown := (hown.below ((Below.refl _ _).alloc (Nat.le_refl _) (.cells #[.int .i64 (oddP (0) : Int), .string y] 42))).below hb2
            clear hbl hb2
            go_wp2_with (go_at_call 16; refine (num_any _ _).mono ?_; rintro e w' ⟨rfl, rfl⟩)
            go_roundw
            case rel => exact ⟨k + 1, X, fs, by omega, by omega, by go_num, rfl, by omega, by omega, hX, hown, hB2⟩
            case measure => simp [intOf]; omega
          · have HT := Lib.hid (frameT_good (0) y m hlong)
            have hFz := frameText_len m (oddP (0) : Int) y hlong
            have hX' : Hid (Good (fs ++ [((oddP (0) : Int), y)]) ∧ (X ++ bytesOf (flagged (frameText m ((oddP (0) : Int), y)))).data.toList = frames m (fs ++ [((oddP (0) : Int), y)])) := Lib.hid ⟨hX.out.1.snoc (0) y hlong, by rw [frames_snoc, ← hX.out.2]; simp [bytesOf]⟩
            obtain ⟨F, hF⟩ : ∃ F, bytesOf (flagged (frameText m ((oddP (0) : Int), y))) = F := ⟨_, rfl⟩
            rw [hF] at hFz hX'
            have hXz : (X ++ F).size ≤ (k + 1) * 4200 := by rw [ByteArray.size_append]; omega
            have n1 : ¬ (9223372036854775807 : Int) < X.size + F.size := by omega
            go_wp2_with fail
            refine (fput_any _ _ _ _ hzk).mono ?_
            rintro e w2 ⟨rfl, hb2⟩
            rw [HT.out, hF]
            clear hF
            have k0 := below_cell hb2 (a := ⟨wr.heap.size, 0, none⟩) (v := .int .i64 (oddP (0) : Int)) (by simp [World.cell?_alloc_new])
            have k1 := below_cell hb2 (a := ⟨wr.heap.size, 1, none⟩) (v := .string y) (by simp [World.cell?_alloc_new])
            replace hc := below_cell hb2 (a := ⟨g, o + k, none⟩) (v := .string y) (by simp [World.cell?_alloc_past, block_lt_of_cell hc, hc])
            have hB2 := seqB (allocB hbl (.cells #[.int .i64 (oddP (0) : Int), .string y] 42)) hb2
            replace hown := (hown.below ((Below.refl _ _).alloc (Nat.le_refl _) (.cells #[.int .i64 (oddP (0) : Int), .string y] 42))).below hb2
            clear hbl hb2
            go_wp2_with (first | (go_at_call 16; refine (num_any _ _).mono ?_; rintro e w' ⟨rfl, rfl⟩) | (at_builtin; refine wpList_appF rfl _ _ rfl w _ _ (oddP (0) : Int) y 1 hown rfl rfl (by omega) hB2 ?_; intro v' w5 hown1 hbl1))
            go_roundw
            case rel => exact ⟨k + 1, _, _, by omega, by omega, by go_num, rfl, hXz, by rw [List.length_append]; simp; omega, hX', hown1, hbl1⟩
            case measure => simp [intOf]; omega
      · obtain rfl : k = 6 := by omega
        obtain ⟨hgood, hXl⟩ := hX.out
        obtain ⟨g1, g2, _⟩ := got_frames m fs
        rw [← hXl] at g1 g2
        have Hgood := Lib.hid hgood
        have G1 := Lib.hid g1
        have G2 := Lib.hid g2
        clear g1 g2 hXl hgood hX
        go_wp2_with fail
        refine (ssplit_any _ ml _ (by omega) (hml.below hbl)).mono ?_
        rintro e w2 ⟨v, rfl, hgot, hb2⟩
        rw [G2.out]
        rw [G1.out] at hgot
        have hB2 := seqB hbl hb2
        replace hown := hown.below hb2
        clear hbl hb2
        obtain ⟨ad, cd, rfl⟩ := hown.form
        obtain ⟨L, hL⟩ : ∃ L, (fs.map (frameText m)).map bytesOf = L := ⟨_, rfl⟩
        have hLl : L.length = fs.length := by rw [← hL]; simp
        rw [hL] at hgot
        obtain ⟨ag, cg, rfl⟩ := hgot.form
        have q1 : (bytesOf []).toList = [] := ba_toList _
        obtain ⟨nf, hnf⟩ : ∃ nf, fs.length = nf := ⟨_, rfl⟩
        have hread : ∀ j, j < nf → ∃ g1 g2 p d, ag = some ⟨g1, 0, none⟩ ∧ ad = some ⟨g2, 0, none⟩ ∧ w2.cell? ⟨g1, j, none⟩ = some (.string (bytesOf (frameText m (p, d)))) ∧ w2.cell? ⟨g2, j * 2, none⟩ = some (.int .i64 p) ∧ w2.cell? ⟨g2, j * 2 + 1, none⟩ = some (.string d) ∧ protoOk p = true ∧ ¬ 2048 < d.size := by
          intro j hj
          obtain ⟨g1, e1, c1⟩ := hgot.cells j (by omega)
          obtain ⟨g2, e2, c2, c3⟩ := hown.cell j (by omega)
          have hgd := Hgood.out fs[j] (List.getElem_mem _)
          refine ⟨g1, g2, fs[j].1, fs[j].2, e1, e2, ?_, c2, c3, hgd.1, hgd.2.2⟩
          rw [c1]; simp only [← hL, List.getElem_map]
        rw [hLl, hnf]
        rw [hnf] at hfl
        clear hgot hown hL hLl hnf
        go_wp2_with fail
        go_loopw [16] (fun i wz => ∃ k : Nat, k ≤ nf ∧ i = .int .i64 k ∧ Below w2.heap.size w2 wz) (fun i _ => nf - (intOf i).toNat)
        case atStart => exact ⟨0, Nat.zero_le _, rfl, Below.refl _ _⟩
        case round =>
          obtain ⟨j, hj, rfl, hbz⟩ := hrel
          by_cases hjn : j < nf
          · obtain ⟨g1, g2, p, d, rfl, rfl, c1, c2, c3, hpo, hpd⟩ := hread j hjn
            replace c1 := below_cellx hbz c1
            replace c2 := below_cellx hbz c2
            replace c3 := below_cellx hbz c3
            have hun : Hid (unframe (bytesOf (frameText m (p, d))).data.toList = (p, d.data.toList, 0)) := Lib.hid (by
              rw [bytesOf_toList]
              show unframe (stuff m (put (headB p ++ d.data.toList))) = _
              rw [unframe_stuff _ _ (by simp [headB])]
              exact unhead_head p d.data.toList hpo (by rw [len_toList]; omega))
            have hzt : (bytesOf (frameText m (p, d))).size ≤ 140737488355328 := by
              have := frameText_len m p d hpd
              rw [flagged_size _ _ rfl] at this
              rw [bytesOf_size]; omega
            go_wp2_with fail
            refine (fget_any _ _ hzt).mono ?_
            rintro e w3 ⟨rfl, hb3⟩
            rw [hun.out]
            unfold ansF
            replace c1 := below_cellx hb3 c1
            replace c2 := below_cellx hb3 c2
            replace c3 := below_cellx hb3 c3
            have hq : ((bytesOf d.data.toList).toList == d.toList) = true := ba_beq_true rfl
            replace hbz := seqB hbz hb3
            clear hb3
            have hlt1 := block_lt_of_cell c1
            have hlt2' := block_lt_of_cell c2
            go_wp2_with fail
            obtain ⟨w4, hw4⟩ : ∃ w4, w3.alloc (.cells #[.int .i64 p, .string (bytesOf d.data.toList)] 42) = w4 := ⟨_, rfl⟩
            have k0 : w4.cell? ⟨w3.heap.size, 0, none⟩ = some (.int .i64 p) := by rw [← hw4]; simp [World.cell?_alloc_new]
            have k1 : w4.cell? ⟨w3.heap.size, 1, none⟩ = some (.string (bytesOf d.data.toList)) := by rw [← hw4]; simp [World.cell?_alloc_new]
            replace c2 : w4.cell? ⟨g2, j * 2, none⟩ = some (.int .i64 p) := by rw [← hw4]; simp [World.cell?_alloc_past, hlt2', c2]
            replace c3 : w4.cell? ⟨g2, j * 2 + 1, none⟩ = some (.string d) := by rw [← hw4]; simp [World.cell?_alloc_past, hlt2', c3]
            have hbz4 : Below w2.heap.size w2 w4 := by rw [← hw4]; exact allocB hbz _
            rw [hw4]
            clear hw4 c1 hlt1 hlt2' hbz
            obtain ⟨bf, hbf⟩ : ∃ bf, w3.heap.size = bf := ⟨_, rfl⟩
            rw [hbf] at k0 k1 ⊢
            clear hbf hun
            go_quiet (first | (go_at_call 16; refine Calls.quiet_of_same (num_same _ _)))
            have hbn : Below w2.heap.size w2 (w4.drewN nq) := ⟨hbz4.os, hbz4.tape, hbz4.output, hbz4.size, hbz4.block⟩
            go_wp2_with fail
            go_roundw
            case rel => exact ⟨j + 1, by omega, by go_num, hbn⟩
            case measure => simp [intOf]; omega
          · obtain rfl : j = nf := by omega
            go_wp2_with fail
            go_ret
            exact ⟨rfl, seqB hB2 hbz⟩
    · obtain rfl : k = n := by omega
      obtain ⟨hgood, hXl⟩ := hX.out
      obtain ⟨g1, g2, _⟩ := got_frames m fs
      rw [← hXl] at g1 g2
      have Hgood := Lib.hid hgood
      have G1 := Lib.hid g1
      have G2 := Lib.hid g2
      clear g1 g2 hXl hgood hX
      go_wp2_with fail
      refine (ssplit_any _ ml _ (by omega) (hml.below hbl)).mono ?_
      rintro e w2 ⟨v, rfl, hgot, hb2⟩
      rw [G2.out]
      rw [G1.out] at hgot
      have hB2 := seqB hbl hb2
      replace hown := hown.below hb2
      clear hbl hb2
      obtain ⟨ad, cd, rfl⟩ := hown.form
      obtain ⟨L, hL⟩ : ∃ L, (fs.map (frameText m)).map bytesOf = L := ⟨_, rfl⟩
      have hLl : L.length = fs.length := by rw [← hL]; simp
      rw [hL] at hgot
      obtain ⟨ag, cg, rfl⟩ := hgot.form
      have q1 : (bytesOf []).toList = [] := ba_toList _
      obtain ⟨nf, hnf⟩ : ∃ nf, fs.length = nf := ⟨_, rfl⟩
      have hread : ∀ j, j < nf → ∃ g1 g2 p d, ag = some ⟨g1, 0, none⟩ ∧ ad = some ⟨g2, 0, none⟩ ∧ w2.cell? ⟨g1, j, none⟩ = some (.string (bytesOf (frameText m (p, d)))) ∧ w2.cell? ⟨g2, j * 2, none⟩ = some (.int .i64 p) ∧ w2.cell? ⟨g2, j * 2 + 1, none⟩ = some (.string d) ∧ protoOk p = true ∧ ¬ 2048 < d.size := by
        intro j hj
        obtain ⟨g1, e1, c1⟩ := hgot.cells j (by omega)
        obtain ⟨g2, e2, c2, c3⟩ := hown.cell j (by omega)
        have hgd := Hgood.out fs[j] (List.getElem_mem _)
        refine ⟨g1, g2, fs[j].1, fs[j].2, e1, e2, ?_, c2, c3, hgd.1, hgd.2.2⟩
        rw [c1]; simp only [← hL, List.getElem_map]
      rw [hLl, hnf]
      rw [hnf] at hfl
      clear hgot hown hL hLl hnf
      go_wp2_with fail
      go_loopw [16] (fun i wz => ∃ k : Nat, k ≤ nf ∧ i = .int .i64 k ∧ Below w2.heap.size w2 wz) (fun i _ => nf - (intOf i).toNat)
      case atStart => exact ⟨0, Nat.zero_le _, rfl, Below.refl _ _⟩
      case round =>
        obtain ⟨j, hj, rfl, hbz⟩ := hrel
        by_cases hjn : j < nf
        · obtain ⟨g1, g2, p, d, rfl, rfl, c1, c2, c3, hpo, hpd⟩ := hread j hjn
          replace c1 := below_cellx hbz c1
          replace c2 := below_cellx hbz c2
          replace c3 := below_cellx hbz c3
          have hun : Hid (unframe (bytesOf (frameText m (p, d))).data.toList = (p, d.data.toList, 0)) := Lib.hid (by
            rw [bytesOf_toList]
            show unframe (stuff m (put (headB p ++ d.data.toList))) = _
            rw [unframe_stuff _ _ (by simp [headB])]
            exact unhead_head p d.data.toList hpo (by rw [len_toList]; omega))
          have hzt : (bytesOf (frameText m (p, d))).size ≤ 140737488355328 := by
            have := frameText_len m p d hpd
            rw [flagged_size _ _ rfl] at this
            rw [bytesOf_size]; omega
          go_wp2_with fail
          refine (fget_any _ _ hzt).mono ?_
          rintro e w3 ⟨rfl, hb3⟩
          rw [hun.out]
          unfold ansF
          replace c1 := below_cellx hb3 c1
          replace c2 := below_cellx hb3 c2
          replace c3 := below_cellx hb3 c3
          have hq : ((bytesOf d.data.toList).toList == d.toList) = true := ba_beq_true rfl
          replace hbz := seqB hbz hb3
          clear hb3
          have hlt1 := block_lt_of_cell c1
          have hlt2' := block_lt_of_cell c2
          go_wp2_with fail
          obtain ⟨w4, hw4⟩ : ∃ w4, w3.alloc (.cells #[.int .i64 p, .string (bytesOf d.data.toList)] 42) = w4 := ⟨_, rfl⟩
          have k0 : w4.cell? ⟨w3.heap.size, 0, none⟩ = some (.int .i64 p) := by rw [← hw4]; simp [World.cell?_alloc_new]
          have k1 : w4.cell? ⟨w3.heap.size, 1, none⟩ = some (.string (bytesOf d.data.toList)) := by rw [← hw4]; simp [World.cell?_alloc_new]
          replace c2 : w4.cell? ⟨g2, j * 2, none⟩ = some (.int .i64 p) := by rw [← hw4]; simp [World.cell?_alloc_past, hlt2', c2]
          replace c3 : w4.cell? ⟨g2, j * 2 + 1, none⟩ = some (.string d) := by rw [← hw4]; simp [World.cell?_alloc_past, hlt2', c3]
          have hbz4 : Below w2.heap.size w2 w4 := by rw [← hw4]; exact allocB hbz _
          rw [hw4]
          clear hw4 c1 hlt1 hlt2' hbz
          obtain ⟨bf, hbf⟩ : ∃ bf, w3.heap.size = bf := ⟨_, rfl⟩
          rw [hbf] at k0 k1 ⊢
          clear hbf hun
          go_quiet (first | (go_at_call 16; refine Calls.quiet_of_same (num_same _ _)))
          have hbn : Below w2.heap.size w2 (w4.drewN nq) := ⟨hbz4.os, hbz4.tape, hbz4.output, hbz4.size, hbz4.block⟩
          go_wp2_with fail
          go_roundw
          case rel => exact ⟨j + 1, by omega, by go_num, hbn⟩
          case measure => simp [intOf]; omega
        · obtain rfl : j = nf := by omega
          go_wp2_with fail
          go_ret
          exact ⟨rfl, seqB hB2 hbz⟩
end Go.Proofs.YthijchjdkicbdaaDoor
