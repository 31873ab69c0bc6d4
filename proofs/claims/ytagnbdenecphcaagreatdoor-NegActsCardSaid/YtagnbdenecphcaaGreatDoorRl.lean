/- The reference: two, Control. -/
import Derived.Test.YtagnbdenecphcaaGreatDoorRk
import Derived.Test.YtagnbdenecphcaaGreatDoorHeldT
import Derived.Test.YtagnbdenecphcaaGreatDoorMm
namespace Go.Proofs.YtagnbdenecphcaaGreatDoor
open Go.RowKit
set_option linter.unusedVariables false
set_option linter.unusedSimpArgs false
theorem bytesOf_two (a b : Int) (ha : 0 ≤ a ∧ a ≤ 255) (hb : 0 ≤ b ∧ b ≤ 255) : strOfNums [a, b] = bytesOf [UInt8.ofNat a.toNat, UInt8.ofNat b.toNat] := rfl
set_option maxHeartbeats 400000 in
theorem rtwo_any (x : Int) (w : World) : Calls Tryz.prog 53 #[.int .i64 x] w fun e w' => e = .returned (.string (strOfNums [x / 256 % 256, x % 256])) ∧ Below w.heap.size w w' := by
  have b1 : bits BinOp.and IntKind.i64 (x / 256) 255 = (x / 256) % 256 := i64_low _ 8 (by omega)
  have b2 : bits BinOp.and IntKind.i64 x 255 = x % 256 := i64_low _ 8 (by omega)
  have hcv := conv_at (w.alloc (.cells #[.int .u8 (x / 256 % 256), .int .u8 (x % 256)] 5)) w.heap.size 2 [x / 256 % 256, x % 256] _ _ _ (heap_alloc_last _ _) rfl rfl
  go_enter Tryz.func53, Tryz.ntmps53
  go_wp2_with fail
  go_ret
  exact ⟨rfl, allocB (Below.refl _ _) _⟩
/-- what Control writes ahead of the body -/
theorem control_head (c i n : Nat) (hc : c ≤ 255) (hi : i ≤ 255) (hn : n ≤ 2048) : strOfNums [(c : Int), (i : Int)] ++ strOfNums [(n : Int) / 256 % 256, (n : Int) % 256] = bytesOf [UInt8.ofNat c, UInt8.ofNat i, UInt8.ofNat (n / 256), UInt8.ofNat (n % 256)] := by
  apply ba_ext
  have e1 : ((n : Int) / 256 % 256).toNat = n / 256 := by omega
  have e2 : ((n : Int) % 256).toNat = n % 256 := by omega
  simp [strOfNums, bytesOf, e1, e2]
set_option maxRecDepth 100000 in
set_option maxHeartbeats 8000000 in
theorem rcontrol_bad (v : Value) (k : PacketM) (w : World) (hb : octetM k.code = false ∨ octetM k.id = false) :
    Calls Tryz.prog 31 #[.agg (packCells k v)] w fun e w' => e = .returned (.tuple #[.string (bytesOf []), .int .i64 501]) ∧ Below w.heap.size w w' := by
  have hc : k.code < 0 ∨ 255 < k.code ∨ ((0 ≤ k.code ∧ k.code ≤ 255) ∧ k.id < 0) ∨ ((0 ≤ k.code ∧ k.code ≤ 255) ∧ 255 < k.id) := by
    unfold octetM at hb
    simp at hb
    omega
  clear hb
  unfold packCells
  rcases hc with hc | hc | ⟨⟨h1, h2⟩, hc⟩ | ⟨⟨h1, h2⟩, hc⟩
  all_goals
    go_enter Tryz.func31, Tryz.ntmps31
    go_wp2_with fail
    go_ret2
    exact ⟨rfl, allocB (Below.refl _ _) _⟩
set_option maxRecDepth 100000 in
set_option maxHeartbeats 8000000 in
theorem rcontrol_good (v : Value) (k : PacketM) (w : World) (hv : OptsIn w v k.opts) (hz : ∀ o ∈ k.opts, o.2.size ≤ 140737488351232) (hsz : k.data.size ≤ 4611686018427387904) (hb : octetM k.code = true ∧ octetM k.id = true) :
    Calls Tryz.prog 31 #[.agg (packCells k v)] w fun e w' => e = .returned (.tuple #[.string (bytesOf (controlM k).1), .int .i64 (controlM k).2]) ∧ Below w.heap.size w w' := by
  have hc : (0 ≤ k.code ∧ k.code ≤ 255) ∧ 0 ≤ k.id ∧ k.id ≤ 255 := by
    unfold octetM at hb
    simp at hb
    omega
  have hbx : Below w.heap.size w (w.alloc (.cells #[.int .i64 k.code, .int .i64 k.id, v, .string k.data] 36)) := allocB (Below.refl _ _) _
  have hopts := ropts_any v k.opts _ (hv.below hbx) hz
  have hle := optsM_le k.opts
  have hnil : k.opts = [] → (optsM k.opts).1 = [] ∧ (optsM k.opts).2 = 0 := fun h => by rw [h]; exact ⟨rfl, rfl⟩
  obtain ⟨B, hB⟩ : ∃ B, (optsM k.opts).1 = B := ⟨_, rfl⟩
  obtain ⟨E, hE⟩ : ∃ E, (optsM k.opts).2 = E := ⟨_, rfl⟩
  have HC : Hid (controlM k = if E ≠ 0 ∨ (confM k.code = false ∧ k.opts ≠ []) ∨ (confM k.code = true ∧ k.data.data.toList ≠ []) then ([], 502) else if 2048 < 4 + (B.length + k.data.size) then ([], 503)
      else ([UInt8.ofNat k.code.toNat, UInt8.ofNat k.id.toNat, UInt8.ofNat ((4 + (B.length + k.data.size)) / 256), UInt8.ofNat ((4 + (B.length + k.data.size)) % 256)] ++ (B ++ k.data.data.toList), 0)) := Lib.hid (by
    unfold controlM
    rw [hB, hE, if_neg (by rw [hb.1, hb.2]; simp)])
  rw [hB] at hopts hle hnil
  rw [hE] at hopts hnil
  obtain ⟨a1, cc, rfl, hcl, _⟩ := hv.form
  have d0 := World.cell?_alloc_new w #[.int .i64 k.code, .int .i64 k.id, .slice a1 k.opts.length cc, .string k.data] 36 0
  have d1 := World.cell?_alloc_new w #[.int .i64 k.code, .int .i64 k.id, .slice a1 k.opts.length cc, .string k.data] 36 1
  have d2 := World.cell?_alloc_new w #[.int .i64 k.code, .int .i64 k.id, .slice a1 k.opts.length cc, .string k.data] 36 2
  have d3 := World.cell?_alloc_new w #[.int .i64 k.code, .int .i64 k.id, .slice a1 k.opts.length cc, .string k.data] 36 3
  obtain ⟨⟨h1, h2⟩, h3, h4⟩ := hc
  have u1 := wrap_u8_in k.code ⟨h1, h2⟩
  have u2 := wrap_u8_in k.id ⟨h3, h4⟩
  have hds : k.data.data.toList = [] ↔ k.data.size = 0 := by
    rw [← List.length_eq_zero_iff]
    rfl
  have hdl : k.data.toList = k.data.data.toList := ba_toList _
  clear hv hb hB hE hz
  unfold packCells
  by_cases hcf : 1 ≤ k.code ∧ k.code ≤ 4
  · have hcm : confM k.code = true := by unfold confM; simp; omega
    obtain ⟨q1, q2⟩ := hcf
    by_cases hE0 : E = 0
    · by_cases hd0 : k.data.size = 0
      · have hdn : k.data.toList = [] := by rw [hdl]; exact hds.2 hd0
        have hBs : (bytesOf B).size = B.length := bytesOf_size _
        by_cases hlg : 2044 < B.length
        · have FIN : Hid (Ending.returned (Value.tuple #[.string (bytesOf []), .int .i64 503]) = .returned (.tuple #[.string (bytesOf (controlM k).1), .int .i64 (controlM k).2])) := Lib.hid (by
            rw [HC.out, if_neg (by rw [hcm, hds.2 hd0]; simp [hE0]), if_pos (by omega)])
          subst hE0
          obtain ⟨T, hT⟩ : ∃ T, bytesOf B = T := ⟨_, rfl⟩
          rw [hT] at hopts hBs
          have hT2 : 2044 < T.size := by omega
          have hT3 : T.size ≤ 2048 := by omega
          clear hT hBs hlg hnil hds hdl hd0 hcm hle
          go_enter Tryz.func31, Tryz.ntmps31
          go_wp2_with fail
          refine hopts.mono ?_
          rintro e w1 ⟨rfl, hb1⟩
          replace d0 := fsm_below_cell hb1 d0
          replace d1 := fsm_below_cell hb1 d1
          replace d2 := fsm_below_cell hb1 d2
          replace d3 := fsm_below_cell hb1 d3
          have hbw := seqB hbx hb1
          clear hopts hb1 hbx
          go_wp2_with fail
          go_ret2
          exact ⟨FIN.out, hbw⟩
        · have hhd := control_head k.code.toNat k.id.toNat (4 + B.length) (by omega) (by omega) (by omega)
          have FIN : Hid (Ending.returned (Value.tuple #[.string (strOfNums [k.code, k.id] ++ strOfNums [((B.length : Int) + 4) / 256 % 256, ((B.length : Int) + 4) % 256] ++ bytesOf B), .int .i64 0]) = .returned (.tuple #[.string (bytesOf (controlM k).1), .int .i64 (controlM k).2])) := Lib.hid (by
            rw [HC.out, if_neg (by rw [hcm, hds.2 hd0]; simp [hE0]), if_neg (by omega)]
            rw [show ((B.length : Int) + 4) = ((4 + B.length : Nat) : Int) from by omega]
            rw [show strOfNums [k.code, k.id] = strOfNums [((k.code.toNat : Nat) : Int), ((k.id.toNat : Nat) : Int)] from by rw [Int.toNat_of_nonneg h1, Int.toNat_of_nonneg h3], hhd, bytesOf_append, hds.2 hd0, hd0]
            simp)
          subst hE0
          obtain ⟨T, hT⟩ : ∃ T, bytesOf B = T := ⟨_, rfl⟩
          rw [hT] at hopts hBs FIN
          rw [← hBs] at FIN
          have hT3 : T.size ≤ 2044 := by omega
          have n1 : ¬ 9223372036854775807 < (strOfNums [k.code, k.id]).size + (strOfNums [((T.size : Int) + 4) / 256 % 256, ((T.size : Int) + 4) % 256]).size := by show ¬ 9223372036854775807 < 2 + 2; omega
          have n2 : ¬ 9223372036854775807 < (strOfNums [k.code, k.id]).size + (strOfNums [((T.size : Int) + 4) / 256 % 256, ((T.size : Int) + 4) % 256]).size + T.size := by show ¬ 9223372036854775807 < 2 + 2 + T.size; omega
          clear hT hBs hlg hnil hds hdl hd0 hcm hle hhd
          go_enter Tryz.func31, Tryz.ntmps31
          go_wp2_with fail
          refine hopts.mono ?_
          rintro e w1 ⟨rfl, hb1⟩
          have c0 := fsm_below_cell hb1 d0
          have c1 := fsm_below_cell hb1 d1
          replace d2 := fsm_below_cell hb1 d2
          replace d3 := fsm_below_cell hb1 d3
          have hbw := seqB hbx hb1
          clear hopts hb1 hbx d0 d1
          go_wp2_with fail
          clear d2 d3
          refine wp_tree (fun w' => w'.cell? ⟨w.heap.size, 0, none⟩ = some (.int .i64 k.code) ∧ w'.cell? ⟨w.heap.size, 1, none⟩ = some (.int .i64 k.id)) (.two [(0, true), (1, true), (2, true), (3, true), (4, true), (5, true), (8, true), (9, true), (10, true), (13, true)] 6 11 (.two [] 7 11 (.fin [(11, false), (12, true), (14, true), (15, true), (16, true)]) (.fin [(7, false), (12, true), (14, true), (15, true), (16, true)])) (.fin [(6, false), (7, false), (12, true), (14, true), (15, true), (16, true)])) (by kernel_rfl) (by kernel_rfl) rfl (by kernel_rfl) (by kernel_rfl) (by kernel_rfl) ⟨c0, c1⟩ (fun _ d _ _ _ h => by cases d <;> exact h) ?_
          obtain ⟨W, hW⟩ : ∃ W, (w1).drew = W := ⟨_, rfl⟩
          have hbW : Below (w1).heap.size (w1) W := by rw [← hW]; exact drewB (Below.refl _ _)
          rw [hW]
          have hbl := seqB hbw hbW
          replace c0 := fsm_below_cell hbW c0
          replace c1 := fsm_below_cell hbW c1
          clear hW hbW
          simp only [wpTree, schedOps, List.filterMap_cons, List.filterMap_nil, List.getElem?_toArray, List.getElem?_cons_zero, List.getElem?_cons_succ, Option.map_some]
          repeat (first | (refine' wpSched_take _ (by rfl) (fun wS hS => ?_) ?_; rotate_left; (focus (obtain ⟨k0, k1⟩ := hS; go_simp; first | done | rfl)); (try simp only [Act.put, List.setIfInBounds_toArray, List.set_cons_zero, List.set_cons_succ])) | (refine wpSched_skip (by rfl) ?_; try simp only [Act.put, List.setIfInBounds_toArray, List.set_cons_zero, List.set_cons_succ]))
          refine wpSched_done ?_
          refine tree_both ?_ ?_
          · refine tree_step (fun Q1 K hK => ?_)
            go_wp2_with fail
            have hbA := allocB (Below.refl W.heap.size W) (.cells #[.int .u8 k.code, .int .u8 k.id] 5)
            have hhA := heap_alloc_last W (.cells #[.int .u8 k.code, .int .u8 k.id] 5)
            have gg := fun {a : Addr} {v : Value} (h : W.cell? a = some v) => fsm_below_cell (W := W) hbA h
            refine QRun_normal (hK.out _ _ ⟨gg c0, gg c1⟩ ?_)
            clear hK K
            obtain ⟨W1, hW1⟩ : ∃ W1, W.alloc (.cells #[.int .u8 k.code, .int .u8 k.id] 5) = W1 := ⟨_, rfl⟩
            rw [hW1] at hbA hhA gg ⊢
            clear hW1
            have hcv := conv_at W1 W.heap.size 2 [k.code, k.id] _ _ _ hhA rfl rfl
            show wpSchedL _ _ _ _ _ _ _
            refine wpSched_done ?_
            refine tree_both ?_ ?_
            · refine tree_step (fun Q1 K hK => ?_)
              go_wp2_with fail
              refine QRun_normal (hK.out _ _ ⟨gg c0, gg c1⟩ ?_)
              clear hK K hcv
              show wpSchedL _ _ _ _ _ _ _
              refine wpSched_run (fun K hK => ?_)
              go_wp2_with fail
              refine (rtwo_any _ _).mono ?_
              rintro e W2 ⟨rfl, hb2⟩
              have hbF := seqB hbA hb2
              have gg := fun {a : Addr} {v : Value} (h : W.cell? a = some v) => fsm_below_cell (W := W) hbF h
              go_wp2_with fail
              refine QRun_normal (hK.out _ _ ⟨gg c0, gg c1⟩ ?_)
              clear hK K
              repeat (first | (refine' wpSched_take _ (by rfl) (fun wS hS => ?_) ?_; rotate_left; (focus (obtain ⟨k0, k1⟩ := hS; go_simp; first | done | rfl)); (try simp only [Act.put, List.setIfInBounds_toArray, List.set_cons_zero, List.set_cons_succ])) | (refine wpSched_skip (by rfl) ?_; try simp only [Act.put, List.setIfInBounds_toArray, List.set_cons_zero, List.set_cons_succ]))
              refine wpSched_done ?_
              have hfin := seqB hbl hbF
              clear c0 c1 gg hbA hhA hb2 hbF hbl
              go_wp2_with fail
              go_ret2
              exact ⟨FIN.out, hfin⟩
            · refine tree_step (fun Q1 K hK => ?_)
              go_wp2_with fail
              refine (rtwo_any _ _).mono ?_
              rintro e W2 ⟨rfl, hb2⟩
              have hbF := seqB hbA hb2
              have hhB := below_of hb2 hhA
              have gg := fun {a : Addr} {v : Value} (h : W.cell? a = some v) => fsm_below_cell (W := W) hbF h
              go_wp2_with fail
              refine QRun_normal (hK.out _ _ ⟨gg c0, gg c1⟩ ?_)
              clear hK K hcv
              have hcv := conv_at W2 W.heap.size 2 [k.code, k.id] _ _ _ hhB rfl rfl
              show wpSchedL _ _ _ _ _ _ _
              refine wpSched_run (fun K hK => ?_)
              go_wp2_with fail
              refine QRun_normal (hK.out _ _ ⟨gg c0, gg c1⟩ ?_)
              clear hK K hcv
              repeat (first | (refine' wpSched_take _ (by rfl) (fun wS hS => ?_) ?_; rotate_left; (focus (obtain ⟨k0, k1⟩ := hS; go_simp; first | done | rfl)); (try simp only [Act.put, List.setIfInBounds_toArray, List.set_cons_zero, List.set_cons_succ])) | (refine wpSched_skip (by rfl) ?_; try simp only [Act.put, List.setIfInBounds_toArray, List.set_cons_zero, List.set_cons_succ]))
              refine wpSched_done ?_
              have hfin := seqB hbl hbF
              clear c0 c1 gg hbA hhA hb2 hbF hbl hhB
              go_wp2_with fail
              go_ret2
              exact ⟨FIN.out, hfin⟩
          · refine tree_step (fun Q1 K hK => ?_)
            go_wp2_with fail
            refine (rtwo_any _ _).mono ?_
            rintro e W2 ⟨rfl, hb2⟩
            have gg := fun {a : Addr} {v : Value} (h : W.cell? a = some v) => fsm_below_cell (W := W) hb2 h
            go_wp2_with fail
            refine QRun_normal (hK.out _ _ ⟨gg c0, gg c1⟩ ?_)
            clear hK K
            show wpSchedL _ _ _ _ _ _ _
            refine wpSched_run (fun K hK => ?_)
            go_wp2_with fail
            have hbA := allocB hb2 (.cells #[.int .u8 k.code, .int .u8 k.id] 5)
            have hhA := heap_alloc_last W2 (.cells #[.int .u8 k.code, .int .u8 k.id] 5)
            have gg := fun {a : Addr} {v : Value} (h : W.cell? a = some v) => fsm_below_cell (W := W) hbA h
            refine QRun_normal (hK.out _ _ ⟨gg c0, gg c1⟩ ?_)
            clear hK K
            obtain ⟨W1, hW1⟩ : ∃ W1, W2.alloc (.cells #[.int .u8 k.code, .int .u8 k.id] 5) = W1 := ⟨_, rfl⟩
            rw [hW1] at hbA hhA gg ⊢
            clear hW1
            have hcv := conv_at W1 W2.heap.size 2 [k.code, k.id] _ _ _ hhA rfl rfl
            refine wpSched_run (fun K hK => ?_)
            go_wp2_with fail
            refine QRun_normal (hK.out _ _ ⟨gg c0, gg c1⟩ ?_)
            clear hK K hcv
            repeat (first | (refine' wpSched_take _ (by rfl) (fun wS hS => ?_) ?_; rotate_left; (focus (obtain ⟨k0, k1⟩ := hS; go_simp; first | done | rfl)); (try simp only [Act.put, List.setIfInBounds_toArray, List.set_cons_zero, List.set_cons_succ])) | (refine wpSched_skip (by rfl) ?_; try simp only [Act.put, List.setIfInBounds_toArray, List.set_cons_zero, List.set_cons_succ]))
            refine wpSched_done ?_
            have hfin := seqB hbl hbA
            clear c0 c1 gg hbA hhA hb2 hbl
            go_wp2_with fail
            go_ret2
            exact ⟨FIN.out, hfin⟩

      · obtain ⟨b, bs, hbs⟩ : ∃ b bs, k.data.toList = b :: bs := by
          cases hq : k.data.toList with
          | nil => exact absurd (hds.1 (hdl ▸ hq)) hd0
          | cons b bs => exact ⟨b, bs, rfl⟩
        have FIN : Hid (Ending.returned (Value.tuple #[.string (bytesOf []), .int .i64 502]) = .returned (.tuple #[.string (bytesOf (controlM k).1), .int .i64 (controlM k).2])) := Lib.hid (by
          rw [HC.out, if_pos (.inr (.inr ⟨hcm, by rw [← hdl, hbs]; simp⟩))])
        subst hE0
        clear hnil hds hdl hd0 hcm hle
        go_enter Tryz.func31, Tryz.ntmps31
        go_wp2_with fail
        refine hopts.mono ?_
        rintro e w1 ⟨rfl, hb1⟩
        replace d0 := fsm_below_cell hb1 d0
        replace d1 := fsm_below_cell hb1 d1
        replace d2 := fsm_below_cell hb1 d2
        replace d3 := fsm_below_cell hb1 d3
        have hbw := seqB hbx hb1
        clear hopts hb1 hbx
        go_wp2_with fail
        go_ret2
        exact ⟨FIN.out, hbw⟩
    · have FIN : Hid (Ending.returned (Value.tuple #[.string (bytesOf []), .int .i64 502]) = .returned (.tuple #[.string (bytesOf (controlM k).1), .int .i64 (controlM k).2])) := Lib.hid (by
        rw [HC.out, if_pos (.inl hE0)])
      have hEb : (E != 0) = true := bne_iff_ne.2 hE0
      clear hnil hds hdl hcm hle hE0
      go_enter Tryz.func31, Tryz.ntmps31
      go_wp2_with fail
      refine hopts.mono ?_
      rintro e w1 ⟨rfl, hb1⟩
      replace d0 := fsm_below_cell hb1 d0
      replace d1 := fsm_below_cell hb1 d1
      replace d2 := fsm_below_cell hb1 d2
      replace d3 := fsm_below_cell hb1 d3
      have hbw := seqB hbx hb1
      clear hopts hb1 hbx
      go_wp2_with fail
      go_ret2
      exact ⟨FIN.out, hbw⟩
  · have hcm : confM k.code = false := by unfold confM; simp; omega
    have hcf' : k.code < 1 ∨ (1 ≤ k.code ∧ 4 < k.code) := by omega
    clear hcf hopts
    by_cases hn0 : k.opts.length = 0
    · have hno : k.opts = [] := List.eq_nil_of_length_eq_zero hn0
      obtain ⟨hBn, hEn⟩ := hnil hno
      subst hEn
      subst hBn
      by_cases hlg : 2044 < k.data.size
      · have FIN : Hid (Ending.returned (Value.tuple #[.string (bytesOf []), .int .i64 503]) = .returned (.tuple #[.string (bytesOf (controlM k).1), .int .i64 (controlM k).2])) := Lib.hid (by
          rw [HC.out, if_neg (by rw [hcm, hno]; simp), if_pos (by simp; omega)])
        rw [hn0] at d0 d1 d2 d3 hbx hcl ⊢
        clear hcm hnil hno hn0 hle hds hdl
        rcases hcf' with hq | ⟨hq1, hq2⟩
        all_goals
          go_enter Tryz.func31, Tryz.ntmps31
          go_wp2_with fail
          go_ret2
          exact ⟨FIN.out, hbx⟩
      · have hhd := control_head k.code.toNat k.id.toNat (4 + k.data.size) (by omega) (by omega) (by omega)
        have FIN : Hid (Ending.returned (Value.tuple #[.string (strOfNums [k.code, k.id] ++ strOfNums [((k.data.size : Int) + 4) / 256 % 256, ((k.data.size : Int) + 4) % 256] ++ k.data), .int .i64 0]) = .returned (.tuple #[.string (bytesOf (controlM k).1), .int .i64 (controlM k).2])) := Lib.hid (by
          rw [HC.out, if_neg (by rw [hcm, hno]; simp), if_neg (by simp; omega)]
          rw [show ((k.data.size : Int) + 4) = ((4 + k.data.size : Nat) : Int) from by omega]
          rw [show strOfNums [k.code, k.id] = strOfNums [((k.code.toNat : Nat) : Int), ((k.id.toNat : Nat) : Int)] from by rw [Int.toNat_of_nonneg h1, Int.toNat_of_nonneg h3], hhd]
          simp only [List.length_nil, Nat.zero_add, List.nil_append]
          rw [← bytesOf_append, bytesOf_of])
        have n1 : ¬ 9223372036854775807 < (strOfNums [k.code, k.id]).size + (strOfNums [((k.data.size : Int) + 4) / 256 % 256, ((k.data.size : Int) + 4) % 256]).size := by show ¬ 9223372036854775807 < 2 + 2; omega
        have n2 : ¬ 9223372036854775807 < (strOfNums [k.code, k.id]).size + (strOfNums [((k.data.size : Int) + 4) / 256 % 256, ((k.data.size : Int) + 4) % 256]).size + k.data.size := by show ¬ 9223372036854775807 < 2 + 2 + k.data.size; omega
        have c0 := d0
        have c1 := d1
        obtain ⟨w1, hw1⟩ : ∃ w1, w.alloc (.cells #[.int .i64 k.code, .int .i64 k.id, .slice a1 k.opts.length cc, .string k.data] 36) = w1 := ⟨_, rfl⟩
        rw [hn0] at d0 d1 d2 d3 hbx hcl c0 c1 hw1 ⊢
        have HW1 := Lib.hid hw1
        clear hw1 hcm hnil hno hn0 hle hds hdl hhd d0 d1
        rcases hcf' with hq | ⟨hq1, hq2⟩
        all_goals
          go_enter Tryz.func31, Tryz.ntmps31
          go_wp2_with fail
          clear d2 d3
          rw [HW1.out] at c0 c1 hbx ⊢
          clear HW1
          refine wp_tree (fun w' => w'.cell? ⟨w.heap.size, 0, none⟩ = some (.int .i64 k.code) ∧ w'.cell? ⟨w.heap.size, 1, none⟩ = some (.int .i64 k.id)) (.two [(0, true), (1, true), (2, true), (3, true), (4, true), (5, true), (8, true), (9, true), (10, true), (13, true)] 6 11 (.two [] 7 11 (.fin [(11, false), (12, true), (14, true), (15, true), (16, true)]) (.fin [(7, false), (12, true), (14, true), (15, true), (16, true)])) (.fin [(6, false), (7, false), (12, true), (14, true), (15, true), (16, true)])) (by kernel_rfl) (by kernel_rfl) rfl (by kernel_rfl) (by kernel_rfl) (by kernel_rfl) ⟨c0, c1⟩ (fun _ d _ _ _ h => by cases d <;> exact h) ?_
          obtain ⟨W, hW⟩ : ∃ W, (w1).drew = W := ⟨_, rfl⟩
          have hbW : Below (w1).heap.size (w1) W := by rw [← hW]; exact drewB (Below.refl _ _)
          rw [hW]
          have hbl := seqB hbx hbW
          replace c0 := fsm_below_cell hbW c0
          replace c1 := fsm_below_cell hbW c1
          clear hW hbW
          simp only [wpTree, schedOps, List.filterMap_cons, List.filterMap_nil, List.getElem?_toArray, List.getElem?_cons_zero, List.getElem?_cons_succ, Option.map_some]
          repeat (first | (refine' wpSched_take _ (by rfl) (fun wS hS => ?_) ?_; rotate_left; (focus (obtain ⟨k0, k1⟩ := hS; go_simp; first | done | rfl)); (try simp only [Act.put, List.setIfInBounds_toArray, List.set_cons_zero, List.set_cons_succ])) | (refine wpSched_skip (by rfl) ?_; try simp only [Act.put, List.setIfInBounds_toArray, List.set_cons_zero, List.set_cons_succ]))
          refine wpSched_done ?_
          refine tree_both ?_ ?_
          · refine tree_step (fun Q1 K hK => ?_)
            go_wp2_with fail
            have hbA := allocB (Below.refl W.heap.size W) (.cells #[.int .u8 k.code, .int .u8 k.id] 5)
            have hhA := heap_alloc_last W (.cells #[.int .u8 k.code, .int .u8 k.id] 5)
            have gg := fun {a : Addr} {v : Value} (h : W.cell? a = some v) => fsm_below_cell (W := W) hbA h
            refine QRun_normal (hK.out _ _ ⟨gg c0, gg c1⟩ ?_)
            clear hK K
            obtain ⟨W1, hW1⟩ : ∃ W1, W.alloc (.cells #[.int .u8 k.code, .int .u8 k.id] 5) = W1 := ⟨_, rfl⟩
            rw [hW1] at hbA hhA gg ⊢
            clear hW1
            have hcv := conv_at W1 W.heap.size 2 [k.code, k.id] _ _ _ hhA rfl rfl
            show wpSchedL _ _ _ _ _ _ _
            refine wpSched_done ?_
            refine tree_both ?_ ?_
            · refine tree_step (fun Q1 K hK => ?_)
              go_wp2_with fail
              refine QRun_normal (hK.out _ _ ⟨gg c0, gg c1⟩ ?_)
              clear hK K hcv
              show wpSchedL _ _ _ _ _ _ _
              refine wpSched_run (fun K hK => ?_)
              go_wp2_with fail
              refine (rtwo_any _ _).mono ?_
              rintro e W2 ⟨rfl, hb2⟩
              have hbF := seqB hbA hb2
              have gg := fun {a : Addr} {v : Value} (h : W.cell? a = some v) => fsm_below_cell (W := W) hbF h
              go_wp2_with fail
              refine QRun_normal (hK.out _ _ ⟨gg c0, gg c1⟩ ?_)
              clear hK K
              repeat (first | (refine' wpSched_take _ (by rfl) (fun wS hS => ?_) ?_; rotate_left; (focus (obtain ⟨k0, k1⟩ := hS; go_simp; first | done | rfl)); (try simp only [Act.put, List.setIfInBounds_toArray, List.set_cons_zero, List.set_cons_succ])) | (refine wpSched_skip (by rfl) ?_; try simp only [Act.put, List.setIfInBounds_toArray, List.set_cons_zero, List.set_cons_succ]))
              refine wpSched_done ?_
              have hfin := seqB hbl hbF
              clear c0 c1 gg hbA hhA hb2 hbF hbl
              go_wp2_with fail
              go_ret2
              exact ⟨FIN.out, hfin⟩
            · refine tree_step (fun Q1 K hK => ?_)
              go_wp2_with fail
              refine (rtwo_any _ _).mono ?_
              rintro e W2 ⟨rfl, hb2⟩
              have hbF := seqB hbA hb2
              have hhB := below_of hb2 hhA
              have gg := fun {a : Addr} {v : Value} (h : W.cell? a = some v) => fsm_below_cell (W := W) hbF h
              go_wp2_with fail
              refine QRun_normal (hK.out _ _ ⟨gg c0, gg c1⟩ ?_)
              clear hK K hcv
              have hcv := conv_at W2 W.heap.size 2 [k.code, k.id] _ _ _ hhB rfl rfl
              show wpSchedL _ _ _ _ _ _ _
              refine wpSched_run (fun K hK => ?_)
              go_wp2_with fail
              refine QRun_normal (hK.out _ _ ⟨gg c0, gg c1⟩ ?_)
              clear hK K hcv
              repeat (first | (refine' wpSched_take _ (by rfl) (fun wS hS => ?_) ?_; rotate_left; (focus (obtain ⟨k0, k1⟩ := hS; go_simp; first | done | rfl)); (try simp only [Act.put, List.setIfInBounds_toArray, List.set_cons_zero, List.set_cons_succ])) | (refine wpSched_skip (by rfl) ?_; try simp only [Act.put, List.setIfInBounds_toArray, List.set_cons_zero, List.set_cons_succ]))
              refine wpSched_done ?_
              have hfin := seqB hbl hbF
              clear c0 c1 gg hbA hhA hb2 hbF hbl hhB
              go_wp2_with fail
              go_ret2
              exact ⟨FIN.out, hfin⟩
          · refine tree_step (fun Q1 K hK => ?_)
            go_wp2_with fail
            refine (rtwo_any _ _).mono ?_
            rintro e W2 ⟨rfl, hb2⟩
            have gg := fun {a : Addr} {v : Value} (h : W.cell? a = some v) => fsm_below_cell (W := W) hb2 h
            go_wp2_with fail
            refine QRun_normal (hK.out _ _ ⟨gg c0, gg c1⟩ ?_)
            clear hK K
            show wpSchedL _ _ _ _ _ _ _
            refine wpSched_run (fun K hK => ?_)
            go_wp2_with fail
            have hbA := allocB hb2 (.cells #[.int .u8 k.code, .int .u8 k.id] 5)
            have hhA := heap_alloc_last W2 (.cells #[.int .u8 k.code, .int .u8 k.id] 5)
            have gg := fun {a : Addr} {v : Value} (h : W.cell? a = some v) => fsm_below_cell (W := W) hbA h
            refine QRun_normal (hK.out _ _ ⟨gg c0, gg c1⟩ ?_)
            clear hK K
            obtain ⟨W1, hW1⟩ : ∃ W1, W2.alloc (.cells #[.int .u8 k.code, .int .u8 k.id] 5) = W1 := ⟨_, rfl⟩
            rw [hW1] at hbA hhA gg ⊢
            clear hW1
            have hcv := conv_at W1 W2.heap.size 2 [k.code, k.id] _ _ _ hhA rfl rfl
            refine wpSched_run (fun K hK => ?_)
            go_wp2_with fail
            refine QRun_normal (hK.out _ _ ⟨gg c0, gg c1⟩ ?_)
            clear hK K hcv
            repeat (first | (refine' wpSched_take _ (by rfl) (fun wS hS => ?_) ?_; rotate_left; (focus (obtain ⟨k0, k1⟩ := hS; go_simp; first | done | rfl)); (try simp only [Act.put, List.setIfInBounds_toArray, List.set_cons_zero, List.set_cons_succ])) | (refine wpSched_skip (by rfl) ?_; try simp only [Act.put, List.setIfInBounds_toArray, List.set_cons_zero, List.set_cons_succ]))
            refine wpSched_done ?_
            have hfin := seqB hbl hbA
            clear c0 c1 gg hbA hhA hb2 hbl
            go_wp2_with fail
            go_ret2
            exact ⟨FIN.out, hfin⟩

    · have FIN : Hid (Ending.returned (Value.tuple #[.string (bytesOf []), .int .i64 502]) = .returned (.tuple #[.string (bytesOf (controlM k).1), .int .i64 (controlM k).2])) := Lib.hid (by
        rw [HC.out, if_pos (.inr (.inl ⟨hcm, fun h => hn0 (by rw [h]; rfl)⟩))])
      obtain ⟨n, hn⟩ : ∃ n, k.opts.length = n := ⟨_, rfl⟩
      rw [hn] at d0 d1 d2 d3 hbx hcl hn0 ⊢
      have hnp : 0 < n := Nat.pos_of_ne_zero hn0
      clear hcm hnil hn hn0 hle hds hdl
      rcases hcf' with hq | ⟨hq1, hq2⟩
      all_goals
        go_enter Tryz.func31, Tryz.ntmps31
        go_wp2_with fail
        go_ret2
        exact ⟨FIN.out, hbx⟩
theorem rcontrol_any (v : Value) (k : PacketM) (w : World) (hv : OptsIn w v k.opts) (hz : ∀ o ∈ k.opts, o.2.size ≤ 140737488351232) (hsz : k.data.size ≤ 4611686018427387904) :
    Calls Tryz.prog 31 #[.agg (packCells k v)] w fun e w' => e = .returned (.tuple #[.string (bytesOf (controlM k).1), .int .i64 (controlM k).2]) ∧ Below w.heap.size w w' := by
  by_cases hb : octetM k.code = true ∧ octetM k.id = true
  · exact rcontrol_good v k w hv hz hsz hb
  · have hb' : octetM k.code = false ∨ octetM k.id = false := by
      cases h1 : octetM k.code <;> cases h2 : octetM k.id <;> simp_all
    have HC : controlM k = ([], 501) := by unfold controlM; rw [if_pos hb']
    rw [HC]
    exact rcontrol_bad v k w hb'
end Go.Proofs.YtagnbdenecphcaaGreatDoor
