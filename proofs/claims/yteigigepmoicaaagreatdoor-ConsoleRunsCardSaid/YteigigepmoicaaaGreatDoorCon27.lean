/- The law's counted: walked. -/
import Derived.Test.YteigigepmoicaaaGreatDoorCon26
import Derived.Test.YteigigepmoicaaaGreatDoorCon24
import Derived.Test.YteigigepmoicaaaGreatDoorCon4
import Derived.Test.YteigigepmoicaaaGreatDoorFsmStep
namespace Go.Proofs.YteigigepmoicaaaGreatDoor
open Go.RowKit
set_option linter.unusedVariables false
set_option linter.unusedSimpArgs false
theorem ints2 {w : World} {b : Nat} {v : Value} {x y : Int} (h : OwnI w b v [x, y]) : ∃ g o c, v = .slice (some ⟨g, o, none⟩) 2 c ∧ w.cell? ⟨g, o, none⟩ = some (.int .i64 x) ∧ w.cell? ⟨g, o + 1, none⟩ = some (.int .i64 y) := by
  rcases h.at with ⟨h0, _⟩ | ⟨g, o, c, hv, hc⟩
  · cases h0
  · exact ⟨g, o, c, hv, hc 0 (by simp), hc 1 (by simp)⟩
theorem ints4 {w : World} {b : Nat} {v : Value} {x y z u : Int} (h : OwnI w b v [x, y, z, u]) : ∃ g o c, v = .slice (some ⟨g, o, none⟩) 4 c ∧ w.cell? ⟨g, o, none⟩ = some (.int .i64 x) ∧ w.cell? ⟨g, o + 1, none⟩ = some (.int .i64 y) ∧ w.cell? ⟨g, o + 2, none⟩ = some (.int .i64 z) ∧ w.cell? ⟨g, o + 3, none⟩ = some (.int .i64 u) := by
  rcases h.at with ⟨h0, _⟩ | ⟨g, o, c, hv, hc⟩
  · cases h0
  · exact ⟨g, o, c, hv, hc 0 (by simp), hc 1 (by simp), hc 2 (by simp), hc 3 (by simp)⟩
theorem delay_any_range (t b m j : Int) (h : (delayM t b m j).2 = 0) (h1 : j ≤ 9223372036854775807) : 0 ≤ (delayM t b m j).1 ∧ (delayM t b m j).1 ≤ 4096 := by
  by_cases hb : delayBad t b m j
  · rw [delay_bad hb] at h; cases h
  · rw [delay_good hb]
    have h2 : ¬ (t < 0 ∨ 62 < t ∨ b < 1 ∨ 4096 < b ∨ m < b ∨ 4096 < m ∨ j < 0) := hb
    have hr := delayD_range t.toNat b m (by omega) (by omega)
    dsimp only
    have hj : 0 ≤ j % (delayD t.toNat b m / 4 + 1) := Int.emod_nonneg _ (by omega)
    have hj2 : j % (delayD t.toNat b m / 4 + 1) < delayD t.toNat b m / 4 + 1 := Int.emod_lt_of_pos _ (by omega)
    omega
theorem ldelay_err (t b m j : Int) : (delayM t b m j).2 = 0 ∨ (delayM t b m j).2 = 1200 := by
  by_cases hb : delayBad t b m j
  · rw [delay_bad hb]; exact .inr rfl
  · rw [delay_good hb]; exact .inl rfl
theorem target_any_range (x r a k : Int) (hx : 0 ≤ x) (hr : 1 ≤ r) (ha : 1 ≤ a) (hk : a ≤ k) (hk6 : k ≤ 6) : 0 ≤ targetN x r a k ∧ targetN x r a k ≤ 6 := by
  unfold targetN; omega
theorem acts_more (l : List Int) (k : Nat) (h : k < l.length) : actsW (l.take (k + 1)) = actsW (l.take k) ++ (32 :: itoaM l[k]) := by
  unfold actsW
  rw [List.take_succ_eq_append_getElem h, List.flatMap_append]
  simp
theorem acts_len (l : List Int) : (actsW l).length ≤ 22 * l.length := by
  unfold actsW
  induction l with
  | nil => simp
  | cons x l ih =>
    rw [List.flatMap_cons, List.length_append, List.length_cons, List.length_cons]
    have := itoa_len' x
    omega
theorem acts_cat (p a d : List UInt8) : bytesOf (p ++ a) ++ (⟨#[32]⟩ : ByteArray) ++ bytesOf d = bytesOf (p ++ (a ++ (32 :: d))) := by
  rw [show (⟨#[32]⟩ : ByteArray) = bytesOf [32] from rfl, bytesOf_append, bytesOf_append]
  simp
set_option maxRecDepth 100000 in
set_option maxHeartbeats 4000000 in
theorem lcounted_fsm_none (A c : Nat) (r : List (List UInt8)) (w : World) (hn : r.length + 1 ≤ 100000) (hc : WordsIn w A (nFsm :: r)) (hs : ∀ x ∈ (nFsm :: r), x.length ≤ 65536) (hl : numsL r = none) :
    Calls Tryz.prog 32 #[.slice (some ⟨A, 0, none⟩) (r.length + 1) c] w fun e w' => e = .returned (.string (bytesOf (countedL (nFsm :: r)))) ∧ Below w.heap.size w w' := by
  have hnums := lnumbers_any A c (nFsm :: r) w (by simp) (by simpa using hn) hc hs
  rw [show (nFsm :: r).tail = r from rfl, show (nFsm :: r).length = r.length + 1 from rfl] at hnums
  have c0 : ∀ w', Below w.heap.size w w' → w'.cell? ⟨A, 0, none⟩ = some (.string ⟨#[102, 115, 109]⟩) := fun w' h => (hc.below h) 0 (by simp)
  have HR : Hid (countedL (nFsm :: r) = errW 2800) := Lib.hid (by
    unfold countedL
    rw [show (nFsm :: r).tail = r from rfl, hl])
  rw [hl] at hnums
  clear hl
  go_enter Tryz.func32, Tryz.ntmps32
  go_wp2_with fail
  refine hnums.mono ?_
  rintro e w1 ⟨v, rfl, -, hb1⟩
  go_wp2_with fail
  go_ret
  exact ⟨by rw [HR.out]; rfl, hb1⟩
set_option maxRecDepth 100000 in
set_option maxHeartbeats 4000000 in
theorem lcounted_fsm_len (A c : Nat) (r : List (List UInt8)) (w : World) (hn : r.length + 1 ≤ 100000) (hc : WordsIn w A (nFsm :: r)) (hs : ∀ x ∈ (nFsm :: r), x.length ≤ 65536) (l : List Int) (hl : numsL r = some l) (hk : l.length ≠ 2) :
    Calls Tryz.prog 32 #[.slice (some ⟨A, 0, none⟩) (r.length + 1) c] w fun e w' => e = .returned (.string (bytesOf (countedL (nFsm :: r)))) ∧ Below w.heap.size w w' := by
  have hnums := lnumbers_any A c (nFsm :: r) w (by simp) (by simpa using hn) hc hs
  rw [show (nFsm :: r).tail = r from rfl, show (nFsm :: r).length = r.length + 1 from rfl] at hnums
  have c0 : ∀ w', Below w.heap.size w w' → w'.cell? ⟨A, 0, none⟩ = some (.string ⟨#[102, 115, 109]⟩) := fun w' h => (hc.below h) 0 (by simp)
  have HR : Hid (countedL (nFsm :: r) = errW 2800) := Lib.hid (by
    unfold countedL
    rw [show (nFsm :: r).tail = r from rfl, hl, show (nFsm :: r).headD [] = nFsm from rfl]
    dsimp only
    repeat rw [if_neg (by rintro ⟨h1, h2⟩; first | exact hk h2 | (revert h1; decide))])
  rw [hl] at hnums
  have hki : ((l.length : Int) == 2) = false := by rw [beq_eq_false_iff_ne]; omega
  clear hl hk
  go_enter Tryz.func32, Tryz.ntmps32
  go_wp2_with fail
  refine hnums.mono ?_
  rintro e w1 ⟨v, rfl, hv, hb1⟩
  have hown := hv l rfl
  obtain ⟨va, vc, rfl⟩ := hown.form
  have cc := c0 w1 hb1
  clear hv hown c0
  go_wp2_with fail
  go_ret
  exact ⟨by rw [HR.out]; rfl, hb1⟩
set_option maxRecDepth 100000 in
set_option maxHeartbeats 4000000 in
theorem lcounted_delay_none (A c : Nat) (r : List (List UInt8)) (w : World) (hn : r.length + 1 ≤ 100000) (hc : WordsIn w A (nDelay :: r)) (hs : ∀ x ∈ (nDelay :: r), x.length ≤ 65536) (hl : numsL r = none) :
    Calls Tryz.prog 32 #[.slice (some ⟨A, 0, none⟩) (r.length + 1) c] w fun e w' => e = .returned (.string (bytesOf (countedL (nDelay :: r)))) ∧ Below w.heap.size w w' := by
  have hnums := lnumbers_any A c (nDelay :: r) w (by simp) (by simpa using hn) hc hs
  rw [show (nDelay :: r).tail = r from rfl, show (nDelay :: r).length = r.length + 1 from rfl] at hnums
  have c0 : ∀ w', Below w.heap.size w w' → w'.cell? ⟨A, 0, none⟩ = some (.string ⟨#[100, 101, 108, 97, 121]⟩) := fun w' h => (hc.below h) 0 (by simp)
  have HR : Hid (countedL (nDelay :: r) = errW 2800) := Lib.hid (by
    unfold countedL
    rw [show (nDelay :: r).tail = r from rfl, hl])
  rw [hl] at hnums
  clear hl
  go_enter Tryz.func32, Tryz.ntmps32
  go_wp2_with fail
  refine hnums.mono ?_
  rintro e w1 ⟨v, rfl, -, hb1⟩
  go_wp2_with fail
  go_ret
  exact ⟨by rw [HR.out]; rfl, hb1⟩
set_option maxRecDepth 100000 in
set_option maxHeartbeats 4000000 in
theorem lcounted_delay_len (A c : Nat) (r : List (List UInt8)) (w : World) (hn : r.length + 1 ≤ 100000) (hc : WordsIn w A (nDelay :: r)) (hs : ∀ x ∈ (nDelay :: r), x.length ≤ 65536) (l : List Int) (hl : numsL r = some l) (hk : l.length ≠ 4) :
    Calls Tryz.prog 32 #[.slice (some ⟨A, 0, none⟩) (r.length + 1) c] w fun e w' => e = .returned (.string (bytesOf (countedL (nDelay :: r)))) ∧ Below w.heap.size w w' := by
  have hnums := lnumbers_any A c (nDelay :: r) w (by simp) (by simpa using hn) hc hs
  rw [show (nDelay :: r).tail = r from rfl, show (nDelay :: r).length = r.length + 1 from rfl] at hnums
  have c0 : ∀ w', Below w.heap.size w w' → w'.cell? ⟨A, 0, none⟩ = some (.string ⟨#[100, 101, 108, 97, 121]⟩) := fun w' h => (hc.below h) 0 (by simp)
  have HR : Hid (countedL (nDelay :: r) = errW 2800) := Lib.hid (by
    unfold countedL
    rw [show (nDelay :: r).tail = r from rfl, hl, show (nDelay :: r).headD [] = nDelay from rfl]
    dsimp only
    repeat rw [if_neg (by rintro ⟨h1, h2⟩; first | exact hk h2 | (revert h1; decide))])
  rw [hl] at hnums
  have hki : ((l.length : Int) == 4) = false := by rw [beq_eq_false_iff_ne]; omega
  clear hl hk
  go_enter Tryz.func32, Tryz.ntmps32
  go_wp2_with fail
  refine hnums.mono ?_
  rintro e w1 ⟨v, rfl, hv, hb1⟩
  have hown := hv l rfl
  obtain ⟨va, vc, rfl⟩ := hown.form
  have cc := c0 w1 hb1
  clear hv hown c0
  go_wp2_with fail
  go_ret
  exact ⟨by rw [HR.out]; rfl, hb1⟩
set_option maxRecDepth 100000 in
set_option maxHeartbeats 4000000 in
theorem lcounted_target_none (A c : Nat) (r : List (List UInt8)) (w : World) (hn : r.length + 1 ≤ 100000) (hc : WordsIn w A (nTarget :: r)) (hs : ∀ x ∈ (nTarget :: r), x.length ≤ 65536) (hl : numsL r = none) :
    Calls Tryz.prog 32 #[.slice (some ⟨A, 0, none⟩) (r.length + 1) c] w fun e w' => e = .returned (.string (bytesOf (countedL (nTarget :: r)))) ∧ Below w.heap.size w w' := by
  have hnums := lnumbers_any A c (nTarget :: r) w (by simp) (by simpa using hn) hc hs
  rw [show (nTarget :: r).tail = r from rfl, show (nTarget :: r).length = r.length + 1 from rfl] at hnums
  have c0 : ∀ w', Below w.heap.size w w' → w'.cell? ⟨A, 0, none⟩ = some (.string ⟨#[116, 97, 114, 103, 101, 116]⟩) := fun w' h => (hc.below h) 0 (by simp)
  have HR : Hid (countedL (nTarget :: r) = errW 2800) := Lib.hid (by
    unfold countedL
    rw [show (nTarget :: r).tail = r from rfl, hl])
  rw [hl] at hnums
  clear hl
  go_enter Tryz.func32, Tryz.ntmps32
  go_wp2_with fail
  refine hnums.mono ?_
  rintro e w1 ⟨v, rfl, -, hb1⟩
  go_wp2_with fail
  go_ret
  exact ⟨by rw [HR.out]; rfl, hb1⟩
set_option maxRecDepth 100000 in
set_option maxHeartbeats 4000000 in
theorem lcounted_target_len (A c : Nat) (r : List (List UInt8)) (w : World) (hn : r.length + 1 ≤ 100000) (hc : WordsIn w A (nTarget :: r)) (hs : ∀ x ∈ (nTarget :: r), x.length ≤ 65536) (l : List Int) (hl : numsL r = some l) (hk : l.length ≠ 4) :
    Calls Tryz.prog 32 #[.slice (some ⟨A, 0, none⟩) (r.length + 1) c] w fun e w' => e = .returned (.string (bytesOf (countedL (nTarget :: r)))) ∧ Below w.heap.size w w' := by
  have hnums := lnumbers_any A c (nTarget :: r) w (by simp) (by simpa using hn) hc hs
  rw [show (nTarget :: r).tail = r from rfl, show (nTarget :: r).length = r.length + 1 from rfl] at hnums
  have c0 : ∀ w', Below w.heap.size w w' → w'.cell? ⟨A, 0, none⟩ = some (.string ⟨#[116, 97, 114, 103, 101, 116]⟩) := fun w' h => (hc.below h) 0 (by simp)
  have HR : Hid (countedL (nTarget :: r) = errW 2800) := Lib.hid (by
    unfold countedL
    rw [show (nTarget :: r).tail = r from rfl, hl, show (nTarget :: r).headD [] = nTarget from rfl]
    dsimp only
    repeat rw [if_neg (by rintro ⟨h1, h2⟩; first | exact hk h2 | (revert h1; decide))])
  rw [hl] at hnums
  have hki : ((l.length : Int) == 4) = false := by rw [beq_eq_false_iff_ne]; omega
  clear hl hk
  go_enter Tryz.func32, Tryz.ntmps32
  go_wp2_with fail
  refine hnums.mono ?_
  rintro e w1 ⟨v, rfl, hv, hb1⟩
  have hown := hv l rfl
  obtain ⟨va, vc, rfl⟩ := hown.form
  have cc := c0 w1 hb1
  clear hv hown c0
  go_wp2_with fail
  go_ret
  exact ⟨by rw [HR.out]; rfl, hb1⟩
set_option maxRecDepth 100000 in
set_option maxHeartbeats 4000000 in
theorem lcounted_fsm_err (A c : Nat) (r : List (List UInt8)) (w : World) (hn : r.length + 1 ≤ 100000) (hc : WordsIn w A (nFsm :: r)) (hs : ∀ x ∈ (nFsm :: r), x.length ≤ 65536) (s v : Int) (hl : numsL r = some [s, v]) (he : (stepSays s v).2.2 ≠ 0) :
    Calls Tryz.prog 32 #[.slice (some ⟨A, 0, none⟩) (r.length + 1) c] w fun e w' => e = .returned (.string (bytesOf (countedL (nFsm :: r)))) ∧ Below w.heap.size w w' := by
  have hnums := lnumbers_any A c (nFsm :: r) w (by simp) (by simpa using hn) hc hs
  rw [show (nFsm :: r).tail = r from rfl, show (nFsm :: r).length = r.length + 1 from rfl] at hnums
  have c0 : ∀ w', Below w.heap.size w w' → w'.cell? ⟨A, 0, none⟩ = some (.string ⟨#[102, 115, 109]⟩) := fun w' h => (hc.below h) 0 (by simp)
  have HR : Hid (countedL (nFsm :: r) = errW (stepSays s v).2.2) := Lib.hid (by
    unfold countedL
    rw [show (nFsm :: r).tail = r from rfl, hl, show (nFsm :: r).headD [] = nFsm from rfl]
    dsimp only
    rw [if_pos ⟨rfl, rfl⟩, show ([s, v] : List Int).getD 0 0 = s from rfl, show ([s, v] : List Int).getD 1 0 = v from rfl, if_pos he])
  rw [hl] at hnums
  have hst := fun w => rstep_any s v w
  have hrg := step_range s v
  obtain ⟨⟨T, L, E⟩, hF⟩ : ∃ F, stepSays s v = F := ⟨_, rfl⟩
  rw [hF] at hst he HR hrg
  dsimp only at hst he HR hrg
  obtain ⟨hL3, hT0, hT9, hLx, hE0, hE1⟩ := hrg
  clear hl hF
  have hE : (E != 0) = true := by rw [bne_iff_ne]; exact he
  have hwr := fun w => wrong_any E hE0 (by omega) w
  clear he
  go_enter Tryz.func32, Tryz.ntmps32
  go_wp2_with fail
  refine hnums.mono ?_
  rintro e w1 ⟨vv, rfl, hv, hb1⟩
  obtain ⟨g, o, cv, rfl, d0, d1⟩ := ints2 (hv _ rfl)
  have cc := c0 w1 hb1
  clear hv c0
  go_wp2_with fail
  refine wp_schedL (fun w' => w'.cell? ⟨g, o, none⟩ = some (.int .i64 s) ∧ w'.cell? ⟨g, o + 1, none⟩ = some (.int .i64 v)) [(0, true), (1, true), (2, true), (3, true), (4, true), (5, true), (6, false), (7, true), (8, true), (9, true), (10, true), (11, true), (12, true), (13, true)] (by kernel_rfl) (by kernel_rfl) rfl (by kernel_rfl) (by kernel_rfl) ⟨d0, d1⟩ (fun _ d _ _ _ h => by cases d <;> exact h) ?_
  simp only [schedOps, List.filterMap_cons, List.filterMap_nil, List.getElem?_toArray, List.getElem?_cons_zero, List.getElem?_cons_succ, Option.map_some]
  repeat (first | (refine' wpSched_take _ (by rfl) (fun wS hS => ?_) ?_; rotate_left; (focus (obtain ⟨j0, j1⟩ := hS; go_simp; first | done | rfl)); (try simp only [Act.put, List.setIfInBounds_toArray, List.set_cons_zero, List.set_cons_succ])) | (refine wpSched_skip (by rfl) ?_; try simp only [Act.put, List.setIfInBounds_toArray, List.set_cons_zero, List.set_cons_succ]))
  refine wpSched_run (fun K hK => ?_)
  go_wp2_with (go_at_call 20; refine (hst _).mono ?_; rintro e w2 ⟨ov, rfl, hown, hb2⟩)
  have gg := fun {x : Addr} {v : Value} (h : w1.cell? x = some v) => fsm_below_cell (W := w1.drew) hb2 h
  refine QRun_normal (hK.out _ _ ⟨gg d0, gg d1⟩ ?_)
  clear hK K
  repeat (first | (refine' wpSched_take _ (by rfl) (fun wS hS => ?_) ?_; rotate_left; (focus (obtain ⟨j0, j1⟩ := hS; go_simp; first | done | rfl)); (try simp only [Act.put, List.setIfInBounds_toArray, List.set_cons_zero, List.set_cons_succ])) | (refine wpSched_skip (by rfl) ?_; try simp only [Act.put, List.setIfInBounds_toArray, List.set_cons_zero, List.set_cons_succ]))
  refine wpSched_done ?_
  clear gg d0 d1 cc
  have hB2 := seqB hb1.drew hb2
  obtain ⟨va, vc, rfl⟩ := hown.form
  go_wp2_with fail
  refine (hwr _).mono ?_
  rintro e w3 ⟨rfl, hb3⟩
  go_wp2_with fail
  go_ret
  exact ⟨by rw [HR.out]; rfl, seqB hB2 hb3⟩
set_option maxRecDepth 100000 in
set_option maxHeartbeats 4000000 in
theorem lcounted_fsm_ok (A c : Nat) (r : List (List UInt8)) (w : World) (hn : r.length + 1 ≤ 100000) (hc : WordsIn w A (nFsm :: r)) (hs : ∀ x ∈ (nFsm :: r), x.length ≤ 65536) (s v : Int) (hl : numsL r = some [s, v]) (he : (stepSays s v).2.2 = 0) :
    Calls Tryz.prog 32 #[.slice (some ⟨A, 0, none⟩) (r.length + 1) c] w fun e w' => e = .returned (.string (bytesOf (countedL (nFsm :: r)))) ∧ Below w.heap.size w w' := by
  have hnums := lnumbers_any A c (nFsm :: r) w (by simp) (by simpa using hn) hc hs
  rw [show (nFsm :: r).tail = r from rfl, show (nFsm :: r).length = r.length + 1 from rfl] at hnums
  have c0 : ∀ w', Below w.heap.size w w' → w'.cell? ⟨A, 0, none⟩ = some (.string ⟨#[102, 115, 109]⟩) := fun w' h => (hc.below h) 0 (by simp)
  have HR : Hid (countedL (nFsm :: r) = itoaM (stepSays s v).1 ++ actsW (stepSays s v).2.1) := Lib.hid (by
    unfold countedL
    rw [show (nFsm :: r).tail = r from rfl, hl, show (nFsm :: r).headD [] = nFsm from rfl]
    dsimp only
    rw [if_pos ⟨rfl, rfl⟩, show ([s, v] : List Int).getD 0 0 = s from rfl, show ([s, v] : List Int).getD 1 0 = v from rfl, if_neg (by rw [he]; decide)])
  rw [hl] at hnums
  have hst := fun w => rstep_any s v w
  have hrg := step_range s v
  obtain ⟨⟨T, L, E⟩, hF⟩ : ∃ F, stepSays s v = F := ⟨_, rfl⟩
  rw [hF] at hst he HR hrg
  dsimp only at hst he HR hrg
  obtain ⟨hL3, hT0, hT9, hLx, hE0, hE1⟩ := hrg
  clear hl hF
  subst he
  have hdT := fun w => decimal_any T hT0 (by omega) w
  have HAL : Hid (∀ k (h : k < L.length), ∀ w, Calls Tryz.prog 15 #[.int .i64 L[k]] w fun e w' => e = .returned (.string (bytesOf (itoaM L[k]))) ∧ Below w.heap.size w w') := Lib.hid (fun k h w => by
    have := hLx L[k] (List.getElem_mem h)
    exact decimal_any L[k] this.1 (by omega) w)
  clear hLx
  go_enter Tryz.func32, Tryz.ntmps32
  go_wp2_with fail
  refine hnums.mono ?_
  rintro e w1 ⟨vv, rfl, hv, hb1⟩
  obtain ⟨g, o, cv, rfl, d0, d1⟩ := ints2 (hv _ rfl)
  have cc := c0 w1 hb1
  clear hv c0
  go_wp2_with fail
  refine wp_schedL (fun w' => w'.cell? ⟨g, o, none⟩ = some (.int .i64 s) ∧ w'.cell? ⟨g, o + 1, none⟩ = some (.int .i64 v)) [(0, true), (1, true), (2, true), (3, true), (4, true), (5, true), (6, false), (7, true), (8, true), (9, true), (10, true), (11, true), (12, true), (13, true)] (by kernel_rfl) (by kernel_rfl) rfl (by kernel_rfl) (by kernel_rfl) ⟨d0, d1⟩ (fun _ d _ _ _ h => by cases d <;> exact h) ?_
  simp only [schedOps, List.filterMap_cons, List.filterMap_nil, List.getElem?_toArray, List.getElem?_cons_zero, List.getElem?_cons_succ, Option.map_some]
  repeat (first | (refine' wpSched_take _ (by rfl) (fun wS hS => ?_) ?_; rotate_left; (focus (obtain ⟨j0, j1⟩ := hS; go_simp; first | done | rfl)); (try simp only [Act.put, List.setIfInBounds_toArray, List.set_cons_zero, List.set_cons_succ])) | (refine wpSched_skip (by rfl) ?_; try simp only [Act.put, List.setIfInBounds_toArray, List.set_cons_zero, List.set_cons_succ]))
  refine wpSched_run (fun K hK => ?_)
  go_wp2_with (go_at_call 20; refine (hst _).mono ?_; rintro e w2 ⟨ov, rfl, hown, hb2⟩)
  have gg := fun {x : Addr} {v : Value} (h : w1.cell? x = some v) => fsm_below_cell (W := w1.drew) hb2 h
  refine QRun_normal (hK.out _ _ ⟨gg d0, gg d1⟩ ?_)
  clear hK K
  repeat (first | (refine' wpSched_take _ (by rfl) (fun wS hS => ?_) ?_; rotate_left; (focus (obtain ⟨j0, j1⟩ := hS; go_simp; first | done | rfl)); (try simp only [Act.put, List.setIfInBounds_toArray, List.set_cons_zero, List.set_cons_succ])) | (refine wpSched_skip (by rfl) ?_; try simp only [Act.put, List.setIfInBounds_toArray, List.set_cons_zero, List.set_cons_succ]))
  refine wpSched_done ?_
  clear gg d0 d1 cc
  have hB2 := seqB hb1.drew hb2
  obtain ⟨va, vc, rfl⟩ := hown.form
  go_wp2_with fail
  refine (hdT _).mono ?_
  rintro e w3 ⟨rfl, hb3⟩
  have HAT := Lib.hid ((hown.below hb3).at)
  have hB3 := seqB hB2 hb3
  clear hown
  go_wp2_with fail
  go_loopw [8, 9] (fun t i wr => ∃ k : Nat, k ≤ L.length ∧ i = .int .i64 k ∧ t = .string (bytesOf (itoaM T ++ actsW (L.take k))) ∧ Below w3.heap.size w3 wr) (fun _ i _ => L.length - (intOf i).toNat)
  case atStart => exact ⟨0, Nat.zero_le _, rfl, by simp [actsW], Below.refl _ _⟩
  case round =>
    obtain ⟨k, hk, rfl, rfl, hbl⟩ := hrel
    by_cases hlt : k < L.length
    · have hki : (k : Int) < (L.length : Int) := by omega
      have hd := HAL.out k hlt
      have hcat := acts_cat (itoaM T) (actsW (L.take k)) (itoaM L[k])
      have HM : Hid (itoaM T ++ actsW (L.take (k + 1)) = itoaM T ++ (actsW (L.take k) ++ (32 :: itoaM L[k]))) := Lib.hid (by rw [acts_more L k hlt])
      have hsz : ∃ g' o', va = some ⟨g', o', none⟩ ∧ wr.cell? ⟨g', o' + k, none⟩ = some (.int .i64 L[k]) := by
        rcases HAT.out with ⟨h0, _⟩ | ⟨g', o', c', hv, hc⟩
        · rw [h0] at hlt; simp at hlt
        · cases hv
          exact ⟨g', o', rfl, (hbl.cell (block_lt_of_cell (hc k hlt))).trans (hc k hlt)⟩
      obtain ⟨g', o', rfl, hcell⟩ := hsz
      have l1 := acts_len (L.take k)
      have l2 := itoa_len' T
      have l3 := itoa_len' L[k]
      rw [List.length_take] at l1
      have z1 : (bytesOf (itoaM T ++ actsW (L.take k))).size ≤ 200 := by rw [bytesOf_size, List.length_append]; omega
      have z2 : (bytesOf (itoaM L[k])).size ≤ 21 := by rw [bytesOf_size]; exact l3
      obtain ⟨x, hx⟩ : ∃ x, L[k] = x := ⟨_, rfl⟩
      rw [hx] at hd hcat HM hcell z2
      obtain ⟨D, hD⟩ : ∃ D, bytesOf (itoaM x) = D := ⟨_, rfl⟩
      obtain ⟨P, hP⟩ : ∃ P, bytesOf (itoaM T ++ actsW (L.take k)) = P := ⟨_, rfl⟩
      rw [hD] at hd hcat z2
      rw [hP] at hcat z1 ⊢
      have HCAT := Lib.hid hcat
      have z3 : ¬ 9223372036854775807 < P.size + 1 := by omega
      have z4 : ¬ 9223372036854775807 < P.size + 1 + D.size := by omega
      have z5 : ¬ 9223372036854775807 < (P ++ (⟨#[32]⟩ : ByteArray)).size + D.size := by rw [ByteArray.size_append]; show ¬ _ < P.size + 1 + D.size; omega
      clear hcat l1 l2 l3 hx hD hP
      go_wp2_with fail
      refine (hd _).mono ?_
      rintro e w4 ⟨rfl, hb4⟩
      go_wp2_with fail
      go_roundw
      case rel => exact ⟨k + 1, hlt, by go_num, by rw [HM.out, ← HCAT.out], seqB hbl hb4⟩
      case measure => simp [intOf]; omega
    · obtain rfl : k = L.length := by omega
      have HE : Hid (L.take L.length = L) := Lib.hid (List.take_of_length_le (Nat.le_refl _))
      go_wp2_with fail
      go_ret
      exact ⟨by rw [HR.out, HE.out]; rfl, seqB hB3 hbl⟩
set_option maxRecDepth 100000 in
set_option maxHeartbeats 4000000 in
theorem lcounted_delay_err (A c : Nat) (r : List (List UInt8)) (w : World) (hn : r.length + 1 ≤ 100000) (hc : WordsIn w A (nDelay :: r)) (hs : ∀ x ∈ (nDelay :: r), x.length ≤ 65536) (x y z u : Int) (hu : u ≤ 9223372036854775807) (hl : numsL r = some [x, y, z, u]) (he : (delayM x y z u).2 ≠ 0) :
    Calls Tryz.prog 32 #[.slice (some ⟨A, 0, none⟩) (r.length + 1) c] w fun e w' => e = .returned (.string (bytesOf (countedL (nDelay :: r)))) ∧ Below w.heap.size w w' := by
  have hnums := lnumbers_any A c (nDelay :: r) w (by simp) (by simpa using hn) hc hs
  rw [show (nDelay :: r).tail = r from rfl, show (nDelay :: r).length = r.length + 1 from rfl] at hnums
  have c0 : ∀ w', Below w.heap.size w w' → w'.cell? ⟨A, 0, none⟩ = some (.string ⟨#[100, 101, 108, 97, 121]⟩) := fun w' h => (hc.below h) 0 (by simp)
  have h12 := ldelay_err x y z u
  have HR : Hid (countedL (nDelay :: r) = errW (delayM x y z u).2) := Lib.hid (by
    unfold countedL
    rw [show (nDelay :: r).tail = r from rfl, hl, show (nDelay :: r).headD [] = nDelay from rfl]
    dsimp only
    rw [if_neg (by rintro ⟨h, _⟩; revert h; decide), if_pos ⟨rfl, rfl⟩, show ([x, y, z, u] : List Int).getD 0 0 = x from rfl, show ([x, y, z, u] : List Int).getD 1 0 = y from rfl, show ([x, y, z, u] : List Int).getD 2 0 = z from rfl, show ([x, y, z, u] : List Int).getD 3 0 = u from rfl, if_pos he])
  rw [hl] at hnums
  have hst := fun w => rdelay_any x y z u w hu
  have hrg := delay_any_range x y z u
  obtain ⟨⟨T, E⟩, hF⟩ : ∃ F, delayM x y z u = F := ⟨_, rfl⟩
  rw [hF] at hst he HR hrg h12
  dsimp only at hst he HR hrg h12
  clear hl hF
  obtain rfl : E = 1200 := by rcases h12 with h | h; exact absurd h he; exact h
  have hwr := fun w => wrong_any 1200 (by decide) (by decide) w
  clear he hrg h12
  go_enter Tryz.func32, Tryz.ntmps32
  go_wp2_with fail
  refine hnums.mono ?_
  rintro e w1 ⟨vv, rfl, hv, hb1⟩
  obtain ⟨g, o, cv, rfl, d0, d1, d2, d3⟩ := ints4 (hv _ rfl)
  have cc := c0 w1 hb1
  clear hv c0
  go_wp2_with fail
  refine wp_schedL (fun w' => w'.cell? ⟨g, o, none⟩ = some (.int .i64 x) ∧ w'.cell? ⟨g, o + 1, none⟩ = some (.int .i64 y) ∧ w'.cell? ⟨g, o + 2, none⟩ = some (.int .i64 z) ∧ w'.cell? ⟨g, o + 3, none⟩ = some (.int .i64 u)) [(0, true), (1, true), (2, true), (3, true), (4, true), (5, true), (6, true), (7, true), (8, true), (9, true), (10, true), (11, true), (12, false), (13, true), (14, true), (15, true), (16, true), (17, true)] (by kernel_rfl) (by kernel_rfl) rfl (by kernel_rfl) (by kernel_rfl) ⟨d0, d1, d2, d3⟩ (fun _ d _ _ _ h => by cases d <;> exact h) ?_
  simp only [schedOps, List.filterMap_cons, List.filterMap_nil, List.getElem?_toArray, List.getElem?_cons_zero, List.getElem?_cons_succ, Option.map_some]
  repeat (first | (refine' wpSched_take _ (by rfl) (fun wS hS => ?_) ?_; rotate_left; (focus (obtain ⟨j0, j1, j2, j3⟩ := hS; go_simp; first | done | rfl)); (try simp only [Act.put, List.setIfInBounds_toArray, List.set_cons_zero, List.set_cons_succ])) | (refine wpSched_skip (by rfl) ?_; try simp only [Act.put, List.setIfInBounds_toArray, List.set_cons_zero, List.set_cons_succ]))
  refine wpSched_run (fun K hK => ?_)
  go_wp2_with (go_at_call 21; refine (hst _).mono ?_; rintro e w2 ⟨rfl, rfl⟩)
  refine QRun_normal (hK.out _ _ ⟨d0, d1, d2, d3⟩ ?_)
  clear hK K
  repeat (first | (refine' wpSched_take _ (by rfl) (fun wS hS => ?_) ?_; rotate_left; (focus (obtain ⟨j0, j1, j2, j3⟩ := hS; go_simp; first | done | rfl)); (try simp only [Act.put, List.setIfInBounds_toArray, List.set_cons_zero, List.set_cons_succ])) | (refine wpSched_skip (by rfl) ?_; try simp only [Act.put, List.setIfInBounds_toArray, List.set_cons_zero, List.set_cons_succ]))
  refine wpSched_done ?_
  clear d0 d1 d2 d3 cc
  go_wp2_with fail
  refine (hwr _).mono ?_
  rintro e w3 ⟨rfl, hb3⟩
  go_wp2_with fail
  go_ret
  exact ⟨by rw [HR.out]; rfl, seqB hb1.drew hb3⟩
set_option maxRecDepth 100000 in
set_option maxHeartbeats 4000000 in
theorem lcounted_delay_ok (A c : Nat) (r : List (List UInt8)) (w : World) (hn : r.length + 1 ≤ 100000) (hc : WordsIn w A (nDelay :: r)) (hs : ∀ x ∈ (nDelay :: r), x.length ≤ 65536) (x y z u : Int) (hu : u ≤ 9223372036854775807) (hl : numsL r = some [x, y, z, u]) (he : (delayM x y z u).2 = 0) :
    Calls Tryz.prog 32 #[.slice (some ⟨A, 0, none⟩) (r.length + 1) c] w fun e w' => e = .returned (.string (bytesOf (countedL (nDelay :: r)))) ∧ Below w.heap.size w w' := by
  have hnums := lnumbers_any A c (nDelay :: r) w (by simp) (by simpa using hn) hc hs
  rw [show (nDelay :: r).tail = r from rfl, show (nDelay :: r).length = r.length + 1 from rfl] at hnums
  have c0 : ∀ w', Below w.heap.size w w' → w'.cell? ⟨A, 0, none⟩ = some (.string ⟨#[100, 101, 108, 97, 121]⟩) := fun w' h => (hc.below h) 0 (by simp)
  have HR : Hid (countedL (nDelay :: r) = itoaM (delayM x y z u).1) := Lib.hid (by
    unfold countedL
    rw [show (nDelay :: r).tail = r from rfl, hl, show (nDelay :: r).headD [] = nDelay from rfl]
    dsimp only
    rw [if_neg (by rintro ⟨h, _⟩; revert h; decide), if_pos ⟨rfl, rfl⟩, show ([x, y, z, u] : List Int).getD 0 0 = x from rfl, show ([x, y, z, u] : List Int).getD 1 0 = y from rfl, show ([x, y, z, u] : List Int).getD 2 0 = z from rfl, show ([x, y, z, u] : List Int).getD 3 0 = u from rfl, if_neg (by rw [he]; decide)])
  rw [hl] at hnums
  have hst := fun w => rdelay_any x y z u w hu
  have hrg := delay_any_range x y z u
  obtain ⟨⟨T, E⟩, hF⟩ : ∃ F, delayM x y z u = F := ⟨_, rfl⟩
  rw [hF] at hst he HR hrg
  dsimp only at hst he HR hrg
  clear hl hF
  obtain ⟨hT0, hT1⟩ := hrg he hu
  subst he
  have hd := fun w => decimal_any T hT0 (by omega) w
  clear hrg
  go_enter Tryz.func32, Tryz.ntmps32
  go_wp2_with fail
  refine hnums.mono ?_
  rintro e w1 ⟨vv, rfl, hv, hb1⟩
  obtain ⟨g, o, cv, rfl, d0, d1, d2, d3⟩ := ints4 (hv _ rfl)
  have cc := c0 w1 hb1
  clear hv c0
  go_wp2_with fail
  refine wp_schedL (fun w' => w'.cell? ⟨g, o, none⟩ = some (.int .i64 x) ∧ w'.cell? ⟨g, o + 1, none⟩ = some (.int .i64 y) ∧ w'.cell? ⟨g, o + 2, none⟩ = some (.int .i64 z) ∧ w'.cell? ⟨g, o + 3, none⟩ = some (.int .i64 u)) [(0, true), (1, true), (2, true), (3, true), (4, true), (5, true), (6, true), (7, true), (8, true), (9, true), (10, true), (11, true), (12, false), (13, true), (14, true), (15, true), (16, true), (17, true)] (by kernel_rfl) (by kernel_rfl) rfl (by kernel_rfl) (by kernel_rfl) ⟨d0, d1, d2, d3⟩ (fun _ d _ _ _ h => by cases d <;> exact h) ?_
  simp only [schedOps, List.filterMap_cons, List.filterMap_nil, List.getElem?_toArray, List.getElem?_cons_zero, List.getElem?_cons_succ, Option.map_some]
  repeat (first | (refine' wpSched_take _ (by rfl) (fun wS hS => ?_) ?_; rotate_left; (focus (obtain ⟨j0, j1, j2, j3⟩ := hS; go_simp; first | done | rfl)); (try simp only [Act.put, List.setIfInBounds_toArray, List.set_cons_zero, List.set_cons_succ])) | (refine wpSched_skip (by rfl) ?_; try simp only [Act.put, List.setIfInBounds_toArray, List.set_cons_zero, List.set_cons_succ]))
  refine wpSched_run (fun K hK => ?_)
  go_wp2_with (go_at_call 21; refine (hst _).mono ?_; rintro e w2 ⟨rfl, rfl⟩)
  refine QRun_normal (hK.out _ _ ⟨d0, d1, d2, d3⟩ ?_)
  clear hK K
  repeat (first | (refine' wpSched_take _ (by rfl) (fun wS hS => ?_) ?_; rotate_left; (focus (obtain ⟨j0, j1, j2, j3⟩ := hS; go_simp; first | done | rfl)); (try simp only [Act.put, List.setIfInBounds_toArray, List.set_cons_zero, List.set_cons_succ])) | (refine wpSched_skip (by rfl) ?_; try simp only [Act.put, List.setIfInBounds_toArray, List.set_cons_zero, List.set_cons_succ]))
  refine wpSched_done ?_
  clear d0 d1 d2 d3 cc
  go_wp2_with fail
  refine (hd _).mono ?_
  rintro e w3 ⟨rfl, hb3⟩
  go_wp2_with fail
  go_ret
  exact ⟨by rw [HR.out]; rfl, seqB hb1.drew hb3⟩
set_option maxRecDepth 100000 in
set_option maxHeartbeats 4000000 in
theorem lcounted_target_bad (A c : Nat) (r : List (List UInt8)) (w : World) (hn : r.length + 1 ≤ 100000) (hc : WordsIn w A (nTarget :: r)) (hs : ∀ x ∈ (nTarget :: r), x.length ≤ 65536) (x y z u : Int) (hl : numsL r = some [x, y, z, u]) (he : shapeB y z u = false ∨ x < 0) :
    Calls Tryz.prog 32 #[.slice (some ⟨A, 0, none⟩) (r.length + 1) c] w fun e w' => e = .returned (.string (bytesOf (countedL (nTarget :: r)))) ∧ Below w.heap.size w w' := by
  have hnums := lnumbers_any A c (nTarget :: r) w (by simp) (by simpa using hn) hc hs
  rw [show (nTarget :: r).tail = r from rfl, show (nTarget :: r).length = r.length + 1 from rfl] at hnums
  have c0 : ∀ w', Below w.heap.size w w' → w'.cell? ⟨A, 0, none⟩ = some (.string ⟨#[116, 97, 114, 103, 101, 116]⟩) := fun w' h => (hc.below h) 0 (by simp)
  have HR : Hid (countedL (nTarget :: r) = errW 2400) := Lib.hid (by
    unfold countedL
    rw [show (nTarget :: r).tail = r from rfl, hl, show (nTarget :: r).headD [] = nTarget from rfl]
    dsimp only
    rw [if_neg (by rintro ⟨h, _⟩; revert h; decide), if_neg (by rintro ⟨h, _⟩; revert h; decide), if_pos ⟨rfl, rfl⟩, show ([x, y, z, u] : List Int).getD 0 0 = x from rfl, show ([x, y, z, u] : List Int).getD 1 0 = y from rfl, show ([x, y, z, u] : List Int).getD 2 0 = z from rfl, show ([x, y, z, u] : List Int).getD 3 0 = u from rfl, if_pos he])
  rw [hl] at hnums
  clear hl
  have hwr := fun w => wrong_any 2400 (by decide) (by decide) w
  have hcs : y < 64 ∨ (¬ y < 64 ∧ 4096 < y) ∨ (¬ y < 64 ∧ ¬ 4096 < y ∧ u < 1) ∨ (¬ y < 64 ∧ ¬ 4096 < y ∧ ¬ u < 1 ∧ 6 < u) ∨ (¬ y < 64 ∧ ¬ 4096 < y ∧ ¬ u < 1 ∧ ¬ 6 < u ∧ z < 1) ∨ (¬ y < 64 ∧ ¬ 4096 < y ∧ ¬ u < 1 ∧ ¬ 6 < u ∧ ¬ z < 1 ∧ u < z) ∨ (¬ y < 64 ∧ ¬ 4096 < y ∧ ¬ u < 1 ∧ ¬ 6 < u ∧ ¬ z < 1 ∧ ¬ u < z ∧ x < 0) := by
    unfold shapeB at he
    simp only [Bool.and_eq_false_iff, decide_eq_false_iff_not] at he
    omega
  clear he
  go_enter Tryz.func32, Tryz.ntmps32
  go_wp2_with fail
  refine hnums.mono ?_
  rintro e w1 ⟨vv, rfl, hv, hb1⟩
  obtain ⟨g, o, cv, rfl, d0, d1, d2, d3⟩ := ints4 (hv _ rfl)
  have cc := c0 w1 hb1
  clear hv c0
  go_wp2_with fail
  rcases hcs with h | h | h | h | h | h | h
  · refine wp_schedL (fun w' => w'.cell? ⟨g, o, none⟩ = some (.int .i64 x) ∧ w'.cell? ⟨g, o + 1, none⟩ = some (.int .i64 y) ∧ w'.cell? ⟨g, o + 2, none⟩ = some (.int .i64 z) ∧ w'.cell? ⟨g, o + 3, none⟩ = some (.int .i64 u)) [(0, true), (1, true), (2, true), (3, true), (4, true), (5, true), (6, true), (7, true), (8, true), (9, true), (10, true), (11, true), (12, true), (13, true), (14, true), (15, true), (16, true), (17, true), (18, true), (19, true), (20, true), (21, true), (22, true), (23, true), (24, true), (25, true), (26, true), (27, true), (28, true), (29, true), (30, true), (31, true), (32, true), (33, true), (34, true), (35, true), (36, true), (37, true), (38, true), (39, true), (40, true), (41, true), (42, true)] (by kernel_rfl) (by kernel_rfl) rfl (by kernel_rfl) (by kernel_rfl) ⟨d0, d1, d2, d3⟩ (fun _ d _ _ _ h => by cases d <;> exact h) ?_
    simp only [schedOps, List.filterMap_cons, List.filterMap_nil, List.getElem?_toArray, List.getElem?_cons_zero, List.getElem?_cons_succ, Option.map_some]
    repeat (first | (refine' wpSched_take _ (by rfl) (fun wS hS => ?_) ?_; rotate_left; (focus (obtain ⟨j0, j1, j2, j3⟩ := hS; go_simp; first | done | rfl)); (try simp only [Act.put, List.setIfInBounds_toArray, List.set_cons_zero, List.set_cons_succ])) | (refine wpSched_skip (by rfl) ?_; try simp only [Act.put, List.setIfInBounds_toArray, List.set_cons_zero, List.set_cons_succ]))
    refine wpSched_done ?_
    clear d0 d1 d2 d3 cc
    go_wp2_with fail
    refine (hwr _).mono ?_
    rintro e w3 ⟨rfl, hb3⟩
    go_wp2_with fail
    go_ret
    exact ⟨by rw [HR.out]; rfl, seqB hb1.drew hb3⟩
  · obtain ⟨h1, h2⟩ := h
    have k1 : decide (y < 64) = false := decide_eq_false (by omega)
    have k2 : decide (4096 < y) = true := decide_eq_true (by omega)
    refine wp_schedL (fun w' => w'.cell? ⟨g, o, none⟩ = some (.int .i64 x) ∧ w'.cell? ⟨g, o + 1, none⟩ = some (.int .i64 y) ∧ w'.cell? ⟨g, o + 2, none⟩ = some (.int .i64 z) ∧ w'.cell? ⟨g, o + 3, none⟩ = some (.int .i64 u)) [(0, true), (1, true), (2, true), (3, true), (4, true), (5, true), (6, true), (7, true), (8, true), (9, true), (10, true), (11, true), (12, true), (13, true), (14, true), (15, true), (16, true), (17, true), (18, true), (19, true), (20, true), (21, true), (22, true), (23, true), (24, true), (25, true), (26, true), (27, true), (28, true), (29, true), (30, true), (31, true), (32, true), (33, true), (34, true), (35, true), (36, true), (37, true), (38, true), (39, true), (40, true), (41, true), (42, true)] (by kernel_rfl) (by kernel_rfl) rfl (by kernel_rfl) (by kernel_rfl) ⟨d0, d1, d2, d3⟩ (fun _ d _ _ _ h => by cases d <;> exact h) ?_
    simp only [schedOps, List.filterMap_cons, List.filterMap_nil, List.getElem?_toArray, List.getElem?_cons_zero, List.getElem?_cons_succ, Option.map_some]
    repeat (first | (refine' wpSched_take _ (by rfl) (fun wS hS => ?_) ?_; rotate_left; (focus (obtain ⟨j0, j1, j2, j3⟩ := hS; go_simp; first | done | rfl)); (try simp only [Act.put, List.setIfInBounds_toArray, List.set_cons_zero, List.set_cons_succ])) | (refine wpSched_skip (by rfl) ?_; try simp only [Act.put, List.setIfInBounds_toArray, List.set_cons_zero, List.set_cons_succ]))
    refine wpSched_done ?_
    clear d0 d1 d2 d3 cc
    go_wp2_with fail
    refine (hwr _).mono ?_
    rintro e w3 ⟨rfl, hb3⟩
    go_wp2_with fail
    go_ret
    exact ⟨by rw [HR.out]; rfl, seqB hb1.drew hb3⟩
  · obtain ⟨h1, h2, h3⟩ := h
    have k1 : decide (y < 64) = false := decide_eq_false (by omega)
    have k2 : decide (4096 < y) = false := decide_eq_false (by omega)
    have k3 : decide (u < 1) = true := decide_eq_true (by omega)
    refine wp_schedL (fun w' => w'.cell? ⟨g, o, none⟩ = some (.int .i64 x) ∧ w'.cell? ⟨g, o + 1, none⟩ = some (.int .i64 y) ∧ w'.cell? ⟨g, o + 2, none⟩ = some (.int .i64 z) ∧ w'.cell? ⟨g, o + 3, none⟩ = some (.int .i64 u)) [(0, true), (1, true), (2, true), (3, true), (4, true), (5, true), (6, true), (7, true), (8, true), (9, true), (10, true), (11, true), (12, true), (13, true), (14, true), (15, true), (16, true), (17, true), (18, true), (19, true), (20, true), (21, true), (22, true), (23, true), (24, true), (25, true), (26, true), (27, true), (28, true), (29, true), (30, true), (31, true), (32, true), (33, true), (34, true), (35, true), (36, true), (37, true), (38, true), (39, true), (40, true), (41, true), (42, true)] (by kernel_rfl) (by kernel_rfl) rfl (by kernel_rfl) (by kernel_rfl) ⟨d0, d1, d2, d3⟩ (fun _ d _ _ _ h => by cases d <;> exact h) ?_
    simp only [schedOps, List.filterMap_cons, List.filterMap_nil, List.getElem?_toArray, List.getElem?_cons_zero, List.getElem?_cons_succ, Option.map_some]
    repeat (first | (refine' wpSched_take _ (by rfl) (fun wS hS => ?_) ?_; rotate_left; (focus (obtain ⟨j0, j1, j2, j3⟩ := hS; go_simp; first | done | rfl)); (try simp only [Act.put, List.setIfInBounds_toArray, List.set_cons_zero, List.set_cons_succ])) | (refine wpSched_skip (by rfl) ?_; try simp only [Act.put, List.setIfInBounds_toArray, List.set_cons_zero, List.set_cons_succ]))
    refine wpSched_done ?_
    clear d0 d1 d2 d3 cc
    go_wp2_with fail
    refine (hwr _).mono ?_
    rintro e w3 ⟨rfl, hb3⟩
    go_wp2_with fail
    go_ret
    exact ⟨by rw [HR.out]; rfl, seqB hb1.drew hb3⟩
  · obtain ⟨h1, h2, h3, h4⟩ := h
    have k1 : decide (y < 64) = false := decide_eq_false (by omega)
    have k2 : decide (4096 < y) = false := decide_eq_false (by omega)
    have k3 : decide (u < 1) = false := decide_eq_false (by omega)
    have k4 : decide (6 < u) = true := decide_eq_true (by omega)
    refine wp_schedL (fun w' => w'.cell? ⟨g, o, none⟩ = some (.int .i64 x) ∧ w'.cell? ⟨g, o + 1, none⟩ = some (.int .i64 y) ∧ w'.cell? ⟨g, o + 2, none⟩ = some (.int .i64 z) ∧ w'.cell? ⟨g, o + 3, none⟩ = some (.int .i64 u)) [(0, true), (1, true), (2, true), (3, true), (4, true), (5, true), (6, true), (7, true), (8, true), (9, true), (10, true), (11, true), (12, true), (13, true), (14, true), (15, true), (16, true), (17, true), (18, true), (19, true), (20, true), (21, true), (22, true), (23, true), (24, true), (25, true), (26, true), (27, true), (28, true), (29, true), (30, true), (31, true), (32, true), (33, true), (34, true), (35, true), (36, true), (37, true), (38, true), (39, true), (40, true), (41, true), (42, true)] (by kernel_rfl) (by kernel_rfl) rfl (by kernel_rfl) (by kernel_rfl) ⟨d0, d1, d2, d3⟩ (fun _ d _ _ _ h => by cases d <;> exact h) ?_
    simp only [schedOps, List.filterMap_cons, List.filterMap_nil, List.getElem?_toArray, List.getElem?_cons_zero, List.getElem?_cons_succ, Option.map_some]
    repeat (first | (refine' wpSched_take _ (by rfl) (fun wS hS => ?_) ?_; rotate_left; (focus (obtain ⟨j0, j1, j2, j3⟩ := hS; go_simp; first | done | rfl)); (try simp only [Act.put, List.setIfInBounds_toArray, List.set_cons_zero, List.set_cons_succ])) | (refine wpSched_skip (by rfl) ?_; try simp only [Act.put, List.setIfInBounds_toArray, List.set_cons_zero, List.set_cons_succ]))
    refine wpSched_done ?_
    clear d0 d1 d2 d3 cc
    go_wp2_with fail
    refine (hwr _).mono ?_
    rintro e w3 ⟨rfl, hb3⟩
    go_wp2_with fail
    go_ret
    exact ⟨by rw [HR.out]; rfl, seqB hb1.drew hb3⟩
  · obtain ⟨h1, h2, h3, h4, h5⟩ := h
    have k1 : decide (y < 64) = false := decide_eq_false (by omega)
    have k2 : decide (4096 < y) = false := decide_eq_false (by omega)
    have k3 : decide (u < 1) = false := decide_eq_false (by omega)
    have k4 : decide (6 < u) = false := decide_eq_false (by omega)
    have k5 : decide (z < 1) = true := decide_eq_true (by omega)
    refine wp_schedL (fun w' => w'.cell? ⟨g, o, none⟩ = some (.int .i64 x) ∧ w'.cell? ⟨g, o + 1, none⟩ = some (.int .i64 y) ∧ w'.cell? ⟨g, o + 2, none⟩ = some (.int .i64 z) ∧ w'.cell? ⟨g, o + 3, none⟩ = some (.int .i64 u)) [(0, true), (1, true), (2, true), (3, true), (4, true), (5, true), (6, true), (7, true), (8, true), (9, true), (10, true), (11, true), (12, true), (13, true), (14, true), (15, true), (16, true), (17, true), (18, true), (19, true), (20, true), (21, true), (22, true), (23, true), (24, true), (25, true), (26, true), (27, true), (28, true), (29, true), (30, true), (31, true), (32, true), (33, true), (34, true), (35, true), (36, true), (37, true), (38, true), (39, true), (40, true), (41, true), (42, true)] (by kernel_rfl) (by kernel_rfl) rfl (by kernel_rfl) (by kernel_rfl) ⟨d0, d1, d2, d3⟩ (fun _ d _ _ _ h => by cases d <;> exact h) ?_
    simp only [schedOps, List.filterMap_cons, List.filterMap_nil, List.getElem?_toArray, List.getElem?_cons_zero, List.getElem?_cons_succ, Option.map_some]
    repeat (first | (refine' wpSched_take _ (by rfl) (fun wS hS => ?_) ?_; rotate_left; (focus (obtain ⟨j0, j1, j2, j3⟩ := hS; go_simp; first | done | rfl)); (try simp only [Act.put, List.setIfInBounds_toArray, List.set_cons_zero, List.set_cons_succ])) | (refine wpSched_skip (by rfl) ?_; try simp only [Act.put, List.setIfInBounds_toArray, List.set_cons_zero, List.set_cons_succ]))
    refine wpSched_done ?_
    clear d0 d1 d2 d3 cc
    go_wp2_with fail
    refine (hwr _).mono ?_
    rintro e w3 ⟨rfl, hb3⟩
    go_wp2_with fail
    go_ret
    exact ⟨by rw [HR.out]; rfl, seqB hb1.drew hb3⟩
  · obtain ⟨h1, h2, h3, h4, h5, h6⟩ := h
    have k1 : decide (y < 64) = false := decide_eq_false (by omega)
    have k2 : decide (4096 < y) = false := decide_eq_false (by omega)
    have k3 : decide (u < 1) = false := decide_eq_false (by omega)
    have k4 : decide (6 < u) = false := decide_eq_false (by omega)
    have k5 : decide (z < 1) = false := decide_eq_false (by omega)
    have k6 : decide (u < z) = true := decide_eq_true (by omega)
    refine wp_schedL (fun w' => w'.cell? ⟨g, o, none⟩ = some (.int .i64 x) ∧ w'.cell? ⟨g, o + 1, none⟩ = some (.int .i64 y) ∧ w'.cell? ⟨g, o + 2, none⟩ = some (.int .i64 z) ∧ w'.cell? ⟨g, o + 3, none⟩ = some (.int .i64 u)) [(0, true), (1, true), (2, true), (3, true), (4, true), (5, true), (6, true), (7, true), (8, true), (9, true), (10, true), (11, true), (12, true), (13, true), (14, true), (15, true), (16, true), (17, true), (18, true), (19, true), (20, true), (21, true), (22, true), (23, true), (24, true), (25, true), (26, true), (27, true), (28, true), (29, true), (30, true), (31, true), (32, true), (33, true), (34, true), (35, true), (36, true), (37, true), (38, true), (39, true), (40, true), (41, true), (42, true)] (by kernel_rfl) (by kernel_rfl) rfl (by kernel_rfl) (by kernel_rfl) ⟨d0, d1, d2, d3⟩ (fun _ d _ _ _ h => by cases d <;> exact h) ?_
    simp only [schedOps, List.filterMap_cons, List.filterMap_nil, List.getElem?_toArray, List.getElem?_cons_zero, List.getElem?_cons_succ, Option.map_some]
    repeat (first | (refine' wpSched_take _ (by rfl) (fun wS hS => ?_) ?_; rotate_left; (focus (obtain ⟨j0, j1, j2, j3⟩ := hS; go_simp; first | done | rfl)); (try simp only [Act.put, List.setIfInBounds_toArray, List.set_cons_zero, List.set_cons_succ])) | (refine wpSched_skip (by rfl) ?_; try simp only [Act.put, List.setIfInBounds_toArray, List.set_cons_zero, List.set_cons_succ]))
    refine wpSched_done ?_
    clear d0 d1 d2 d3 cc
    go_wp2_with fail
    refine (hwr _).mono ?_
    rintro e w3 ⟨rfl, hb3⟩
    go_wp2_with fail
    go_ret
    exact ⟨by rw [HR.out]; rfl, seqB hb1.drew hb3⟩
  · obtain ⟨h1, h2, h3, h4, h5, h6, h7⟩ := h
    have k1 : decide (y < 64) = false := decide_eq_false (by omega)
    have k2 : decide (4096 < y) = false := decide_eq_false (by omega)
    have k3 : decide (u < 1) = false := decide_eq_false (by omega)
    have k4 : decide (6 < u) = false := decide_eq_false (by omega)
    have k5 : decide (z < 1) = false := decide_eq_false (by omega)
    have k6 : decide (u < z) = false := decide_eq_false (by omega)
    have k7 : decide (x < 0) = true := decide_eq_true (by omega)
    refine wp_schedL (fun w' => w'.cell? ⟨g, o, none⟩ = some (.int .i64 x) ∧ w'.cell? ⟨g, o + 1, none⟩ = some (.int .i64 y) ∧ w'.cell? ⟨g, o + 2, none⟩ = some (.int .i64 z) ∧ w'.cell? ⟨g, o + 3, none⟩ = some (.int .i64 u)) [(0, true), (1, true), (2, true), (3, true), (4, true), (5, true), (6, true), (7, true), (8, true), (9, true), (10, true), (11, true), (12, true), (13, true), (14, true), (15, true), (16, true), (17, true), (18, true), (19, true), (20, true), (21, true), (22, true), (23, true), (24, true), (25, true), (26, true), (27, true), (28, true), (29, true), (30, true), (31, true), (32, true), (33, true), (34, true), (35, true), (36, true), (37, true), (38, true), (39, true), (40, true), (41, true), (42, true)] (by kernel_rfl) (by kernel_rfl) rfl (by kernel_rfl) (by kernel_rfl) ⟨d0, d1, d2, d3⟩ (fun _ d _ _ _ h => by cases d <;> exact h) ?_
    simp only [schedOps, List.filterMap_cons, List.filterMap_nil, List.getElem?_toArray, List.getElem?_cons_zero, List.getElem?_cons_succ, Option.map_some]
    repeat (first | (refine' wpSched_take _ (by rfl) (fun wS hS => ?_) ?_; rotate_left; (focus (obtain ⟨j0, j1, j2, j3⟩ := hS; go_simp; first | done | rfl)); (try simp only [Act.put, List.setIfInBounds_toArray, List.set_cons_zero, List.set_cons_succ])) | (refine wpSched_skip (by rfl) ?_; try simp only [Act.put, List.setIfInBounds_toArray, List.set_cons_zero, List.set_cons_succ]))
    refine wpSched_done ?_
    clear d0 d1 d2 d3 cc
    go_wp2_with fail
    refine (hwr _).mono ?_
    rintro e w3 ⟨rfl, hb3⟩
    go_wp2_with fail
    go_ret
    exact ⟨by rw [HR.out]; rfl, seqB hb1.drew hb3⟩
set_option maxRecDepth 100000 in
set_option maxHeartbeats 4000000 in
theorem lcounted_target_ok (A c : Nat) (r : List (List UInt8)) (w : World) (hn : r.length + 1 ≤ 100000) (hc : WordsIn w A (nTarget :: r)) (hs : ∀ x ∈ (nTarget :: r), x.length ≤ 65536) (x y z u : Int) (hx : x ≤ 9223372036854775806) (hl : numsL r = some [x, y, z, u]) (he : shapeB y z u = true) (hx0 : 0 ≤ x) :
    Calls Tryz.prog 32 #[.slice (some ⟨A, 0, none⟩) (r.length + 1) c] w fun e w' => e = .returned (.string (bytesOf (countedL (nTarget :: r)))) ∧ Below w.heap.size w w' := by
  have hnums := lnumbers_any A c (nTarget :: r) w (by simp) (by simpa using hn) hc hs
  rw [show (nTarget :: r).tail = r from rfl, show (nTarget :: r).length = r.length + 1 from rfl] at hnums
  have c0 : ∀ w', Below w.heap.size w w' → w'.cell? ⟨A, 0, none⟩ = some (.string ⟨#[116, 97, 114, 103, 101, 116]⟩) := fun w' h => (hc.below h) 0 (by simp)
  have HR : Hid (countedL (nTarget :: r) = itoaM (targetN x y z u)) := Lib.hid (by
    unfold countedL
    rw [show (nTarget :: r).tail = r from rfl, hl, show (nTarget :: r).headD [] = nTarget from rfl]
    dsimp only
    rw [if_neg (by rintro ⟨h, _⟩; revert h; decide), if_neg (by rintro ⟨h, _⟩; revert h; decide), if_pos ⟨rfl, rfl⟩, show ([x, y, z, u] : List Int).getD 0 0 = x from rfl, show ([x, y, z, u] : List Int).getD 1 0 = y from rfl, show ([x, y, z, u] : List Int).getD 2 0 = z from rfl, show ([x, y, z, u] : List Int).getD 3 0 = u from rfl, if_neg (by rw [he]; rintro (h | h); cases h; omega)])
  rw [hl] at hnums
  clear hl
  unfold shapeB at he
  simp only [Bool.and_eq_true, decide_eq_true_eq] at he
  obtain ⟨⟨⟨⟨⟨e1, e2⟩, e3⟩, e4⟩, e5⟩, e6⟩ := he
  have hst := fun w => rtarget_any x y z u w hx0 hx (by omega) (by omega)
  have hrg := target_any_range x y z u hx0 (by omega) (by omega) (by omega) e4
  obtain ⟨T, hF⟩ : ∃ F, targetN x y z u = F := ⟨_, rfl⟩
  rw [hF] at hst HR hrg
  have hd := fun w => decimal_any T hrg.1 (by omega) w
  have f1 : ¬ y < 64 := by omega
  have f2 : ¬ 4096 < y := by omega
  have f3 : ¬ u < 1 := by omega
  have f4 : ¬ 6 < u := by omega
  have f5 : ¬ z < 1 := by omega
  have f6 : ¬ u < z := by omega
  have f7 : ¬ x < 0 := by omega
  have k1 : decide (y < 64) = false := decide_eq_false (by omega)
  have k2 : decide (4096 < y) = false := decide_eq_false (by omega)
  have k3 : decide (u < 1) = false := decide_eq_false (by omega)
  have k4 : decide (6 < u) = false := decide_eq_false (by omega)
  have k5 : decide (z < 1) = false := decide_eq_false (by omega)
  have k6 : decide (u < z) = false := decide_eq_false (by omega)
  have k7 : decide (x < 0) = false := decide_eq_false (by omega)
  clear hF hrg e1 e2 e3 e4 e5 e6
  go_enter Tryz.func32, Tryz.ntmps32
  go_wp2_with fail
  refine hnums.mono ?_
  rintro e w1 ⟨vv, rfl, hv, hb1⟩
  obtain ⟨g, o, cv, rfl, d0, d1, d2, d3⟩ := ints4 (hv _ rfl)
  have cc := c0 w1 hb1
  clear hv c0
  go_wp2_with fail
  refine wp_schedL (fun w' => w'.cell? ⟨g, o, none⟩ = some (.int .i64 x) ∧ w'.cell? ⟨g, o + 1, none⟩ = some (.int .i64 y) ∧ w'.cell? ⟨g, o + 2, none⟩ = some (.int .i64 z) ∧ w'.cell? ⟨g, o + 3, none⟩ = some (.int .i64 u)) [(0, true), (1, true), (2, true), (3, true), (4, true), (5, true), (6, true), (7, true), (8, true), (9, true), (10, true), (11, true), (12, true), (13, true), (14, true), (15, true), (16, true), (17, true), (18, true), (19, true), (20, true), (21, true), (22, true), (23, true), (24, true), (25, true), (26, true), (27, true), (28, true), (29, true), (30, true), (31, true), (32, true), (33, true), (34, true), (35, true), (36, true), (37, true), (38, true), (39, true), (40, true), (41, true), (42, true)] (by kernel_rfl) (by kernel_rfl) rfl (by kernel_rfl) (by kernel_rfl) ⟨d0, d1, d2, d3⟩ (fun _ d _ _ _ h => by cases d <;> exact h) ?_
  simp only [schedOps, List.filterMap_cons, List.filterMap_nil, List.getElem?_toArray, List.getElem?_cons_zero, List.getElem?_cons_succ, Option.map_some]
  repeat (first | (refine' wpSched_take _ (by rfl) (fun wS hS => ?_) ?_; rotate_left; (focus (obtain ⟨j0, j1, j2, j3⟩ := hS; go_simp; first | done | rfl)); (try simp only [Act.put, List.setIfInBounds_toArray, List.set_cons_zero, List.set_cons_succ])) | (refine wpSched_skip (by rfl) ?_; try simp only [Act.put, List.setIfInBounds_toArray, List.set_cons_zero, List.set_cons_succ]))
  refine wpSched_done ?_
  go_wp2_with fail
  refine wp_schedL (fun w' => w'.cell? ⟨g, o, none⟩ = some (.int .i64 x) ∧ w'.cell? ⟨g, o + 1, none⟩ = some (.int .i64 y) ∧ w'.cell? ⟨g, o + 2, none⟩ = some (.int .i64 z) ∧ w'.cell? ⟨g, o + 3, none⟩ = some (.int .i64 u)) [(0, true), (1, true), (2, true), (3, true), (4, true), (5, true), (6, true), (7, true), (8, true), (9, true), (10, true), (11, true), (12, false), (13, false), (14, true)] (by kernel_rfl) (by kernel_rfl) rfl (by kernel_rfl) (by kernel_rfl) ⟨d0, d1, d2, d3⟩ (fun _ d _ _ _ h => by cases d <;> exact h) ?_
  simp only [schedOps, List.filterMap_cons, List.filterMap_nil, List.getElem?_toArray, List.getElem?_cons_zero, List.getElem?_cons_succ, Option.map_some]
  repeat (first | (refine' wpSched_take _ (by rfl) (fun wS hS => ?_) ?_; rotate_left; (focus (obtain ⟨j0, j1, j2, j3⟩ := hS; go_simp; first | done | rfl)); (try simp only [Act.put, List.setIfInBounds_toArray, List.set_cons_zero, List.set_cons_succ])) | (refine wpSched_skip (by rfl) ?_; try simp only [Act.put, List.setIfInBounds_toArray, List.set_cons_zero, List.set_cons_succ]))
  refine wpSched_run (fun K hK => ?_)
  go_wp2_with (go_at_call 22; refine (hst _).mono ?_; rintro e w2 ⟨rfl, rfl⟩)
  refine QRun_normal (hK.out _ _ ⟨d0, d1, d2, d3⟩ ?_)
  clear hK K
  repeat (first | (refine' wpSched_take _ (by rfl) (fun wS hS => ?_) ?_; rotate_left; (focus (obtain ⟨j0, j1, j2, j3⟩ := hS; go_simp; first | done | rfl)); (try simp only [Act.put, List.setIfInBounds_toArray, List.set_cons_zero, List.set_cons_succ])) | (refine wpSched_skip (by rfl) ?_; try simp only [Act.put, List.setIfInBounds_toArray, List.set_cons_zero, List.set_cons_succ]))
  refine wpSched_run (fun K hK => ?_)
  go_wp2_with (go_at_call 15; refine (hd _).mono ?_; rintro e w3 ⟨rfl, hb3⟩)
  have gg := fun {x : Addr} {v : Value} (h : w1.cell? x = some v) => fsm_below_cell (W := w1.drew.drew) hb3 h
  refine QRun_normal (hK.out _ _ ⟨gg d0, gg d1, gg d2, gg d3⟩ ?_)
  clear hK K
  repeat (first | (refine' wpSched_take _ (by rfl) (fun wS hS => ?_) ?_; rotate_left; (focus (obtain ⟨j0, j1, j2, j3⟩ := hS; go_simp; first | done | rfl)); (try simp only [Act.put, List.setIfInBounds_toArray, List.set_cons_zero, List.set_cons_succ])) | (refine wpSched_skip (by rfl) ?_; try simp only [Act.put, List.setIfInBounds_toArray, List.set_cons_zero, List.set_cons_succ]))
  refine wpSched_done ?_
  go_wp2_with fail
  go_ret
  exact ⟨by rw [HR.out]; rfl, seqB hb1.drew.drew hb3⟩
end Go.Proofs.YteigigepmoicaaaGreatDoor
