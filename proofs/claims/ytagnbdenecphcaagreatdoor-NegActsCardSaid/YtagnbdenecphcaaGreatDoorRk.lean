/- The reference: Opts. -/
import Derived.Test.YtagnbdenecphcaaGreatDoorRa
import Derived.Test.YtagnbdenecphcaaGreatDoorMg
import Derived.Test.YtagnbdenecphcaaGreatDoorRin
namespace Go.Proofs.YtagnbdenecphcaaGreatDoor
open Go.RowKit
set_option linter.unusedVariables false
set_option linter.unusedSimpArgs false
theorem wrap_two (n : Nat) (h : n ≤ 140737488351232) : IntKind.i64.wrap ((n : Int) + 2) = (n : Int) + 2 := IntWalk.i64_in _ (by omega)
theorem optsTo_upto (os : List OptM) (j : Nat) (hj : j ≤ os.length) (h : ∀ m, m < j → optLong os m = false) : (optsTo os j).length ≤ 2048 := by
  cases j with
  | zero => simp [optsTo]
  | succ j =>
    have h1 := h j (Nat.lt_succ_self j)
    rw [optLong_at os j (by omega)] at h1
    rw [optsTo_succ os j (by omega), List.length_append]
    have : (optB os[j]).length = 2 + os[j].2.size := by simp [optB]; omega
    simp at h1
    omega
theorem ba_append_assoc (a b c : ByteArray) : a ++ b ++ c = a ++ (b ++ c) := ba_ext (by simp)
theorem optB_two (x : OptM) : bytesOf [UInt8.ofNat x.1.toNat, UInt8.ofNat ((x.2.size : Int) + 2).toNat] ++ x.2 = bytesOf (optB x) := by
  apply ba_ext
  have : ((x.2.size : Int) + 2).toNat = 2 + x.2.size := by omega
  rw [this]
  simp [bytesOf, optB]
theorem wrap_u8_in (x : Int) (h : 0 ≤ x ∧ x ≤ 255) : IntKind.u8.wrap x = x := by rw [IntKind.wrap_u8]; omega
theorem twocells (a b : Int) (ha : 0 ≤ a ∧ a ≤ 255) (hb : 0 ≤ b) : (Lib.byteCells [UInt8.ofNat a.toNat, UInt8.ofNat b.toNat]).toArray = #[.int .u8 a, .int .u8 (b % 256)] := by
  have e1 : ((UInt8.ofNat a.toNat).toNat : Int) = a := by simp; omega
  have e2 : ((UInt8.ofNat b.toNat).toNat : Int) = b % 256 := by simp; omega
  simp only [Lib.byteCells, List.map_cons, List.map_nil]
  rw [e1, e2]
set_option maxRecDepth 100000 in
set_option maxHeartbeats 8000000 in
theorem ropts_some (g o c : Nat) (os : List OptM) (w : World) (hv : OptsAt w (.slice (some ⟨g, o, none⟩) os.length c) os) (hsz : ∀ o ∈ os, o.2.size ≤ 140737488351232) :
    Calls Tryz.prog 52 #[.slice (some ⟨g, o, none⟩) os.length c] w fun e w' => e = .returned (.tuple #[.string (bytesOf (optsM os).1), .int .i64 (optsM os).2]) ∧ Below w.heap.size w w' := by
  have hn := SeqAt.le hv
  obtain ⟨-, hcl, hcm, hcell⟩ := hv.cells
  have hcn : c ≤ 9223372036854775807 := by unfold maxLen at hcm; omega
  obtain ⟨n, hnn⟩ : ∃ n, os.length = n := ⟨_, rfl⟩
  have HN := Lib.hid hnn
  have HC := Lib.hid hcell
  have HZ := Lib.hid hsz
  rw [hnn] at hn hcl ⊢
  clear hnn hcell hsz hcm
  go_enter Tryz.func52, Tryz.ntmps52
  go_wp2_with fail
  go_loopw [6] (fun i wr => ∃ k : Nat, k ≤ n ∧ i = .int .i64 k ∧ wr = w ∧ Hid ((os.take k).any (fun o => decide (o.1 < 0) || decide (255 < o.1)) = false)) (fun i _ => n - (intOf i).toNat)
  case atStart => exact ⟨0, Nat.zero_le _, rfl, rfl, Lib.hid rfl⟩
  case round =>
    obtain ⟨k, hk, rfl, rfl, HB⟩ := hrel
    by_cases hlt : k < n
    · have hkl : k < os.length := by rw [HN.out]; exact hlt
      obtain ⟨d1, d2⟩ := HC.out k hkl
      have ht : (os.take (k + 1)).any (fun o => decide (o.1 < 0) || decide (255 < o.1)) = (decide (os[k].1 < 0) || decide (255 < os[k].1)) := by
        rw [List.take_succ_eq_append_getElem hkl, List.any_append, HB.out]; simp
      have hmem := List.getElem_mem hkl
      obtain ⟨x, hx⟩ : ∃ x, os[k] = x := ⟨_, rfl⟩
      rw [hx] at d1 d2 ht hmem
      clear hx
      by_cases f1 : x.1 < 0
      · have HT : Hid (optsM os = ([], 400)) := Lib.hid (by unfold optsM; rw [if_pos (List.any_eq_true.2 ⟨x, hmem, by simp [f1]⟩)])
        clear ht hmem
        go_wp2_with fail
        go_ret2
        exact ⟨by rw [HT.out]; rfl, Below.refl _ _⟩
      · by_cases f2 : 255 < x.1
        · have HT : Hid (optsM os = ([], 400)) := Lib.hid (by unfold optsM; rw [if_pos (List.any_eq_true.2 ⟨x, hmem, by simp [f2]⟩)])
          clear ht hmem
          go_wp2_with fail
          go_ret2
          exact ⟨by rw [HT.out]; rfl, Below.refl _ _⟩
        · have HB2 : Hid ((os.take (k + 1)).any (fun o => decide (o.1 < 0) || decide (255 < o.1)) = false) := Lib.hid (by rw [ht]; simp [f1, f2])
          clear ht hmem
          go_wp2_with fail
          go_roundw
          case rel => exact ⟨k + 1, by omega, by go_num, trivial, HB2⟩
          case measure => simp [intOf]; omega
    · obtain rfl : k = n := by omega
      rw [← HN.out, List.take_length] at HB
      go_wp2_with fail
      go_loopw [4, 5, 7] (fun lg out i wi => ∃ j : Nat, j ≤ k ∧ i = .int .i64 j ∧ Below wr.heap.size wr wi ∧ ((lg = .bool false ∧ out = .string (bytesOf (optsTo os j)) ∧ Hid (∀ m, m < j → optLong os m = false)) ∨ (lg = .bool true ∧ (∃ t, out = .string t) ∧ Hid (∃ m, m < k ∧ optLong os m = true)))) (fun _ _ i _ => k - (intOf i).toNat)
      case atStart => exact ⟨0, Nat.zero_le _, rfl, Below.refl _ _, .inl ⟨rfl, rfl, Lib.hid (fun m h => absurd h (Nat.not_lt_zero _))⟩⟩
      case round =>
        obtain ⟨j, hj, rfl, hbl, hr⟩ := hrel
        rcases hr with ⟨rfl, rfl, HL⟩ | ⟨rfl, ⟨t, rfl⟩, HL⟩
        · by_cases hjk : j < k
          · have hjl : j < os.length := by rw [HN.out]; exact hjk
            obtain ⟨d1, d2⟩ := HC.out j hjl
            replace d1 := fsm_below_cell hbl d1
            replace d2 := fsm_below_cell hbl d2
            have hmem := List.getElem_mem hjl
            have hz := HZ.out _ hmem
            have hrg : 0 ≤ os[j].1 ∧ os[j].1 ≤ 255 := by
              have h := List.any_eq_false.1 HB.out _ hmem
              simp at h
              omega
            have hla := optLong_at os j hjl
            have hsu := optsTo_succ os j hjl
            obtain ⟨x, hx⟩ : ∃ x, os[j] = x := ⟨_, rfl⟩
            rw [hx] at d1 d2 hz hrg hla hsu
            obtain ⟨hr0, hr1⟩ := hrg
            have hw3 := wrap_two x.2.size hz
            have hw1 := wrap_u8_in x.1 ⟨hr0, hr1⟩
            have hw2 : IntKind.u8.wrap ((x.2.size : Int) + 2) = ((x.2.size : Int) + 2) % 256 := by rw [IntKind.wrap_u8]
            have e2 := twocells x.1 ((x.2.size : Int) + 2) ⟨hr0, hr1⟩ (by omega)
            obtain ⟨l2, hl2⟩ : ∃ l2 : List UInt8, [UInt8.ofNat x.1.toNat, UInt8.ofNat ((x.2.size : Int) + 2).toNat] = l2 := ⟨_, rfl⟩
            obtain ⟨z, hzz⟩ : ∃ z : Int, ((x.2.size : Int) + 2) % 256 = z := ⟨_, rfl⟩
            have hll : l2.length = 2 := by rw [← hl2]; rfl
            rw [hl2, hzz] at e2
            rw [hzz] at hw2
            have hcv : ∀ W : World, (convert 97 9 (.slice (some ⟨W.heap.size, 0, none⟩) 2 2)).run Tryz.prog (W.alloc (.cells #[.int .u8 x.1, .int .u8 z] 5)) = .ok (.string (bytesOf l2)) (W.alloc (.cells #[.int .u8 x.1, .int .u8 z] 5)) := by
              intro W
              have h := (own_new W l2 (by rw [hll]; simp [maxLen])).conv
              rw [hll, e2] at h
              exact h
            have hP2 : (bytesOf (optsTo os j)).size ≤ 2048 := by rw [bytesOf_size]; exact optsTo_upto os j (Nat.le_of_lt hjl) HL.out
            have hL2 : (bytesOf l2).size = 2 := by rw [bytesOf_size, hll]
            obtain ⟨P, hP⟩ : ∃ P, bytesOf (optsTo os j) = P := ⟨_, rfl⟩
            obtain ⟨L, hL⟩ : ∃ L, bytesOf l2 = L := ⟨_, rfl⟩
            rw [hP] at hP2 ⊢
            rw [hL] at hL2 hcv
            have s1 : ¬ 9223372036854775807 < P.size + L.size := by omega
            have s2 : ¬ 9223372036854775807 < P.size + L.size + x.2.size := by omega
            have FIN : Hid (∀ b : Bool, b = (decide (253 < x.2.size) || decide (2048 < P.size + L.size + x.2.size)) → ((Value.bool b = .bool false ∧ Value.string (P ++ L ++ x.2) = .string (bytesOf (optsTo os (j + 1))) ∧ Hid (∀ m, m < j + 1 → optLong os m = false)) ∨ (Value.bool b = .bool true ∧ (∃ t, Value.string (P ++ L ++ x.2) = .string t) ∧ Hid (∃ m, m < k ∧ optLong os m = true)))) := by
              refine Lib.hid fun b hb => ?_
              have hb2 : b = optLong os j := by rw [hb, hla, ← hP, bytesOf_size, hL2]
              cases b with
              | true => exact .inr ⟨rfl, ⟨_, rfl⟩, Lib.hid ⟨j, hjk, hb2.symm⟩⟩
              | false =>
                refine .inl ⟨rfl, ?_, Lib.hid fun m hm => ?_⟩
                · rw [hsu, ← hP, ← hL, ← hl2, bytesOf_append, ← bytesOf_append _ (optB x), ← bytesOf_append, ba_append_assoc]
                  congr 2
                  exact optB_two x
                · by_cases hmj : m = j
                  · rw [hmj]; exact hb2.symm
                  · exact HL.out m (by omega)
            have HX := Lib.hid hx
            clear hx hsu hla hl2 e2 hzz hll hmem hP hL hL2 HL
            go_wp2_with fail
            refine wp_schedL (fun w' => w'.cell? ⟨g, o + j * 2, none⟩ = some (.int .i64 x.1) ∧ w'.cell? ⟨g, o + j * 2 + 1, none⟩ = some (.string x.2)) [(0, true), (1, true), (2, true), (3, true), (4, true), (5, true), (6, true), (7, true), (8, true), (9, true), (10, true), (11, true), (12, true), (13, true), (14, true), (18, true), (19, true), (20, true), (21, true), (22, true), (15, false), (16, false), (17, true), (23, true), (24, true)] (by kernel_rfl) (by kernel_rfl) rfl (by kernel_rfl) (by kernel_rfl) ⟨d1, d2⟩ (fun _ d _ _ _ h => by cases d <;> exact h) ?_
            obtain ⟨W, hW⟩ : ∃ W, wr.drew = W := ⟨_, rfl⟩
            have hbW : Below wr.heap.size wr W := by rw [← hW]; exact drewB (Below.refl _ _)
            rw [hW]
            replace d1 := fsm_below_cell hbW d1
            replace d2 := fsm_below_cell hbW d2
            replace hbl := seqB hbl hbW
            clear hW hbW
            simp only [schedOps, List.filterMap_cons, List.filterMap_nil, List.getElem?_toArray, List.getElem?_cons_zero, List.getElem?_cons_succ, Option.map_some]
            repeat (first | (refine' wpSched_take _ (by rfl) (fun wS hS => ?_) ?_; rotate_left; (focus (obtain ⟨d1, d2⟩ := hS; go_simp; first | done | rfl)); (try simp only [Act.put, List.setIfInBounds_toArray, List.set_cons_zero, List.set_cons_succ])) | (refine wpSched_skip (by rfl) ?_; try simp only [Act.put, List.setIfInBounds_toArray, List.set_cons_zero, List.set_cons_succ]))
            refine wpSched_run (fun K hK => ?_)
            go_wp2_with fail
            have hbA := allocB (Below.refl W.heap.size W) (.cells #[.int .u8 x.1, .int .u8 z] 5)
            have gg := fun {a : Addr} {v : Value} (h : W.cell? a = some v) => fsm_below_cell (W := W) hbA h
            refine QRun_normal (hK.out _ _ ⟨gg d1, gg d2⟩ ?_)
            clear hK K
            refine wpSched_run (fun K hK => ?_)
            go_wp2_with fail
            refine QRun_normal (hK.out _ _ ⟨gg d1, gg d2⟩ ?_)
            clear hK K
            repeat (first | (refine' wpSched_take _ (by rfl) (fun wS hS => ?_) ?_; rotate_left; (focus (obtain ⟨d1, d2⟩ := hS; go_simp; first | done | rfl)); (try simp only [Act.put, List.setIfInBounds_toArray, List.set_cons_zero, List.set_cons_succ])) | (refine wpSched_skip (by rfl) ?_; try simp only [Act.put, List.setIfInBounds_toArray, List.set_cons_zero, List.set_cons_succ]))
            refine wpSched_done ?_
            have hblA := seqB hbl hbA
            clear gg hcv d1 d2 hw1 hw2 hw3
            go_wp2_with fail
            all_goals
              go_roundw
              case rel => exact ⟨j + 1, by omega, by go_num, hblA, FIN.out _ (by rw [Bool.eq_iff_iff]; first | (simp; done) | (simp; omega))⟩
              case measure => simp [intOf]; omega
          · obtain rfl : j = k := by omega
            have HT : Hid (optsM os = (optsTo os os.length, 0)) := Lib.hid (by
              unfold optsM
              rw [if_neg (by rw [HB.out]; simp), if_neg ?_]
              intro hx
              obtain ⟨m, h1, h2⟩ := List.any_eq_true.1 hx
              rw [HL.out m (by rw [← HN.out]; exact List.mem_range.1 h1)] at h2
              cases h2)
            have HE := Lib.hid HN.out
            go_wp2_with fail
            go_ret2
            exact ⟨by rw [HT.out, HE.out]; rfl, hbl⟩
        · have HT : Hid (optsM os = ([], 401)) := Lib.hid (by
            unfold optsM
            rw [if_neg (by rw [HB.out]; simp), if_pos ?_]
            obtain ⟨m, h1, h2⟩ := HL.out
            exact List.any_eq_true.2 ⟨m, List.mem_range.2 (by rw [HN.out]; exact h1), h2⟩)
          by_cases hjk : j < k
          · go_wp2_with fail
            go_ret2
            exact ⟨by rw [HT.out]; rfl, hbl⟩
          · obtain rfl : j = k := by omega
            go_wp2_with fail
            go_ret2
            exact ⟨by rw [HT.out]; rfl, hbl⟩
set_option maxRecDepth 100000 in
set_option maxHeartbeats 8000000 in
theorem ropts_nil (a : Option Addr) (c : Nat) (w : World) :
    Calls Tryz.prog 52 #[.slice a 0 c] w fun e w' => e = .returned (.tuple #[.string (bytesOf []), .int .i64 0]) ∧ Below w.heap.size w w' := by
  go_enter Tryz.func52, Tryz.ntmps52
  go_wp2_with fail
  go_loopw [6] (fun i wr => i = .int .i64 0 ∧ wr = w) (fun i _ => 0)
  case atStart => exact ⟨rfl, rfl⟩
  case round =>
    obtain ⟨rfl, rfl⟩ := hrel
    go_wp2_with fail
    go_loopw [4, 5, 7] (fun lg out i wi => i = .int .i64 0 ∧ lg = .bool false ∧ out = .string (bytesOf []) ∧ wi = wr) (fun _ _ i _ => 0)
    case atStart => exact ⟨rfl, rfl, rfl, rfl⟩
    case round =>
      obtain ⟨rfl, rfl, rfl, rfl⟩ := hrel
      go_wp2_with fail
      go_ret2
      exact ⟨rfl, Below.refl _ _⟩
theorem ropts_any (v : Value) (os : List OptM) (w : World) (hv : OptsIn w v os) (hsz : ∀ o ∈ os, o.2.size ≤ 140737488351232) :
    Calls Tryz.prog 52 #[v] w fun e w' => e = .returned (.tuple #[.string (bytesOf (optsM os).1), .int .i64 (optsM os).2]) ∧ Below w.heap.size w w' := by
  rcases hv.or with ⟨rfl, a, c, rfl, hcm⟩ | ⟨g, o, c, rfl, hv⟩
  · exact ropts_nil a c w
  · exact ropts_some g o c os w hv hsz
end Go.Proofs.YtagnbdenecphcaaGreatDoor
