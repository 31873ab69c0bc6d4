/- control.Put. control.Put, whole. -/
import Derived.Test.YtagnbdenecphcaaGreatDoorMf
/-! control.Put. -/
namespace Go.Proofs.YtagnbdenecphcaaGreatDoor
open Go.RowKit
set_option linter.unusedVariables false
set_option linter.unusedSimpArgs false
theorem conf_any (c : Int) (w : World) : Calls Tryz.prog 46 #[.int .i64 c] w fun e w' => e = .returned (.bool (confM c)) ∧ w' = w := by
  by_cases h : 1 ≤ c
  · have HC : Hid (confM c = decide (c ≤ 4)) := Lib.hid (by unfold confM; simp [h])
    go_enter Tryz.func46, Tryz.ntmps46
    go_wp2_with fail
    go_ret
    exact ⟨by rw [HC.out]; rfl, rfl⟩
  · have HC : Hid (confM c = false) := Lib.hid (by unfold confM; simp [h])
    go_enter Tryz.func46, Tryz.ntmps46
    go_wp2_with fail
    go_ret
    exact ⟨by rw [HC.out]; rfl, rfl⟩
theorem octet_any (c : Int) (w : World) : Calls Tryz.prog 47 #[.int .i64 c] w fun e w' => e = .returned (.bool (octetM c)) ∧ w' = w := by
  by_cases h : 0 ≤ c
  · have HC : Hid (octetM c = decide (c ≤ 255)) := Lib.hid (by unfold octetM; simp [h])
    go_enter Tryz.func47, Tryz.ntmps47
    go_wp2_with fail
    go_ret
    exact ⟨by rw [HC.out]; rfl, rfl⟩
  · have HC : Hid (octetM c = false) := Lib.hid (by unfold octetM; simp [h])
    go_enter Tryz.func47, Tryz.ntmps47
    go_wp2_with fail
    go_ret
    exact ⟨by rw [HC.out]; rfl, rfl⟩
theorem optsM_err (os : List OptM) : (optsM os).2 = 0 ∨ (optsM os).2 = 400 ∨ (optsM os).2 = 401 := by
  unfold optsM
  split
  · simp
  · split <;> simp
theorem optsTo_le (os : List OptM) (h : ∀ k, k < os.length → optLong os k = false) : ∀ k, k ≤ os.length → (optsTo os k).length ≤ 2048 := by
  intro k
  induction k with
  | zero => intro _; simp [optsTo]
  | succ k ih =>
    intro hk
    have h2 := h k (by omega)
    rw [optLong_at os k (by omega)] at h2
    simp at h2
    rw [optsTo_succ os k (by omega), List.length_append, optB_len]
    have := ih (by omega)
    omega
theorem optsM_le (os : List OptM) : (optsM os).1.length ≤ 2048 := by
  unfold optsM
  split
  · simp
  · split
    · simp
    · rename_i h1 h2
      refine optsTo_le os (fun k hk => ?_) _ (Nat.le_refl _)
      cases e : optLong os k with
      | false => rfl
      | true => exact absurd (List.any_eq_true.2 ⟨k, List.mem_range.2 hk, e⟩) h2
theorem ctl_head (c i : Int) (n : Nat) (hn : n ≤ 2048) :
    strOfNums [c, i, (n : Int) / 256 , (n : Int) % 256] = bytesOf [UInt8.ofNat c.toNat, UInt8.ofNat i.toNat, UInt8.ofNat (n / 256), UInt8.ofNat (n % 256)] := by
  have e1 : ((n : Int) / 256).toNat = n / 256 := by omega
  have e2 : ((n : Int) % 256).toNat = n % 256 := by omega
  rw [strOfNums_bytes]
  simp only [List.map_cons, List.map_nil, e1, e2]
end Go.Proofs.YtagnbdenecphcaaGreatDoor
/-! control.Put, whole. -/
namespace Go.Proofs.YtagnbdenecphcaaGreatDoor
open Go.RowKit
set_option linter.unusedVariables false
set_option linter.unusedSimpArgs false
theorem conv4 (B : Nat) (W : World) (a b c d : Int) (fz : Nat × Nat) (h : W.heap[B]? = some (.cells #[.int .u8 a, .int .u8 b, .int .u8 c, .int .u8 d] 5 fz)) :
    (convert 97 9 (.slice (some ⟨B, 0, none⟩) 4 4)).run Tryz.prog W = .ok (.string (strOfNums [a, b, c, d])) W :=
  conv_at W B 4 [a, b, c, d] _ _ _ h rfl rfl
set_option maxRecDepth 100000 in
set_option maxHeartbeats 8000000 in
theorem cput_oct1 (v : Value) (code id : Int) (os : List OptM) (data : ByteArray) (w : World) (l : List UInt8) (e : Int) (cf b1 b2 : Bool)
    (hput : ∀ w, OptsAt w v os → Calls Tryz.prog 45 #[v] w fun ex w' => ex = .returned (.tuple #[.string (bytesOf l), .int .i64 e]) ∧ Below w.heap.size w w')
    (hcf : ∀ w, Calls Tryz.prog 46 #[.int .i64 code] w fun e w' => e = .returned (.bool cf) ∧ w' = w)
    (ho1 : ∀ w, Calls Tryz.prog 47 #[.int .i64 code] w fun e w' => e = .returned (.bool b1) ∧ w' = w)
    (ho2 : ∀ w, Calls Tryz.prog 47 #[.int .i64 id] w fun e w' => e = .returned (.bool b2) ∧ w' = w)
    (h : OptsAt w v os) (hb : b1 = false) :
    Calls Tryz.prog 28 #[.agg #[.int .i64 code, .int .i64 id, v, .string data]] w fun e w' => e = .returned (.tuple #[.string (ByteArray.empty), .int .i64 501]) ∧ Below w.heap.size w w' := by
  subst hb
  have hbx : Below w.heap.size w (w.alloc (.cells #[.int .i64 code, .int .i64 id, v, .string data] 36)) := allocB (Below.refl _ _) _
  have pre := h.below hbx
  have d0 := World.cell?_alloc_new w #[.int .i64 code, .int .i64 id, v, .string data] 36 0
  have d1 := World.cell?_alloc_new w #[.int .i64 code, .int .i64 id, v, .string data] 36 1
  have d2 := World.cell?_alloc_new w #[.int .i64 code, .int .i64 id, v, .string data] 36 2
  have d3 := World.cell?_alloc_new w #[.int .i64 code, .int .i64 id, v, .string data] 36 3
  clear h
  go_enter Tryz.func28, Tryz.ntmps28
  go_wp2_with fail
  refine (hput _ pre).mono ?_
  rintro e1 w1 ⟨rfl, hb1⟩
  replace d0 := fsm_below_cell hb1 d0
  replace d1 := fsm_below_cell hb1 d1
  replace d2 := fsm_below_cell hb1 d2
  replace d3 := fsm_below_cell hb1 d3
  have hbw := seqB hbx hb1
  clear hput pre hb1 hbx
  go_wp2_with fail
  refine (hcf _).mono ?_
  rintro e1 w2 ⟨rfl, rfl⟩
  clear hcf
  clear ho2
  go_wp2_with (go_at_call 47; first | (refine (ho1 _).mono ?_; rintro e1 w3 ⟨rfl, rfl⟩) | (refine (ho2 _).mono ?_; rintro e1 w3 ⟨rfl, rfl⟩))
  go_ret2
  exact ⟨rfl, hbw⟩
set_option maxRecDepth 100000 in
set_option maxHeartbeats 8000000 in
theorem cput_oct2 (v : Value) (code id : Int) (os : List OptM) (data : ByteArray) (w : World) (l : List UInt8) (e : Int) (cf b1 b2 : Bool)
    (hput : ∀ w, OptsAt w v os → Calls Tryz.prog 45 #[v] w fun ex w' => ex = .returned (.tuple #[.string (bytesOf l), .int .i64 e]) ∧ Below w.heap.size w w')
    (hcf : ∀ w, Calls Tryz.prog 46 #[.int .i64 code] w fun e w' => e = .returned (.bool cf) ∧ w' = w)
    (ho1 : ∀ w, Calls Tryz.prog 47 #[.int .i64 code] w fun e w' => e = .returned (.bool b1) ∧ w' = w)
    (ho2 : ∀ w, Calls Tryz.prog 47 #[.int .i64 id] w fun e w' => e = .returned (.bool b2) ∧ w' = w)
    (h : OptsAt w v os) (hb : b1 = true) (hc : b2 = false) :
    Calls Tryz.prog 28 #[.agg #[.int .i64 code, .int .i64 id, v, .string data]] w fun e w' => e = .returned (.tuple #[.string (ByteArray.empty), .int .i64 501]) ∧ Below w.heap.size w w' := by
  subst hb hc
  have hbx : Below w.heap.size w (w.alloc (.cells #[.int .i64 code, .int .i64 id, v, .string data] 36)) := allocB (Below.refl _ _) _
  have pre := h.below hbx
  have d0 := World.cell?_alloc_new w #[.int .i64 code, .int .i64 id, v, .string data] 36 0
  have d1 := World.cell?_alloc_new w #[.int .i64 code, .int .i64 id, v, .string data] 36 1
  have d2 := World.cell?_alloc_new w #[.int .i64 code, .int .i64 id, v, .string data] 36 2
  have d3 := World.cell?_alloc_new w #[.int .i64 code, .int .i64 id, v, .string data] 36 3
  clear h
  go_enter Tryz.func28, Tryz.ntmps28
  go_wp2_with fail
  refine (hput _ pre).mono ?_
  rintro e1 w1 ⟨rfl, hb1⟩
  replace d0 := fsm_below_cell hb1 d0
  replace d1 := fsm_below_cell hb1 d1
  replace d2 := fsm_below_cell hb1 d2
  replace d3 := fsm_below_cell hb1 d3
  have hbw := seqB hbx hb1
  clear hput pre hb1 hbx
  go_wp2_with fail
  refine (hcf _).mono ?_
  rintro e1 w2 ⟨rfl, rfl⟩
  clear hcf
  go_wp2_with (go_at_call 47; first | (refine (ho1 _).mono ?_; rintro e1 w3 ⟨rfl, rfl⟩) | (refine (ho2 _).mono ?_; rintro e1 w3 ⟨rfl, rfl⟩))
  go_ret2
  exact ⟨rfl, hbw⟩
set_option maxRecDepth 100000 in
set_option maxHeartbeats 8000000 in
theorem cput_err (v : Value) (code id : Int) (os : List OptM) (data : ByteArray) (w : World) (l : List UInt8) (e : Int) (cf b1 b2 : Bool)
    (hput : ∀ w, OptsAt w v os → Calls Tryz.prog 45 #[v] w fun ex w' => ex = .returned (.tuple #[.string (bytesOf l), .int .i64 e]) ∧ Below w.heap.size w w')
    (hcf : ∀ w, Calls Tryz.prog 46 #[.int .i64 code] w fun e w' => e = .returned (.bool cf) ∧ w' = w)
    (ho1 : ∀ w, Calls Tryz.prog 47 #[.int .i64 code] w fun e w' => e = .returned (.bool b1) ∧ w' = w)
    (ho2 : ∀ w, Calls Tryz.prog 47 #[.int .i64 id] w fun e w' => e = .returned (.bool b2) ∧ w' = w)
    (h : OptsAt w v os) (hb : b1 = true) (hc : b2 = true) (he : e = 400 ∨ e = 401) :
    Calls Tryz.prog 28 #[.agg #[.int .i64 code, .int .i64 id, v, .string data]] w fun e w' => e = .returned (.tuple #[.string (ByteArray.empty), .int .i64 502]) ∧ Below w.heap.size w w' := by
  subst hb hc
  have he1 : ¬ e = 0 := by omega
  have he2 : decide (e = 0) = false := decide_eq_false he1
  have hbx : Below w.heap.size w (w.alloc (.cells #[.int .i64 code, .int .i64 id, v, .string data] 36)) := allocB (Below.refl _ _) _
  have pre := h.below hbx
  have d0 := World.cell?_alloc_new w #[.int .i64 code, .int .i64 id, v, .string data] 36 0
  have d1 := World.cell?_alloc_new w #[.int .i64 code, .int .i64 id, v, .string data] 36 1
  have d2 := World.cell?_alloc_new w #[.int .i64 code, .int .i64 id, v, .string data] 36 2
  have d3 := World.cell?_alloc_new w #[.int .i64 code, .int .i64 id, v, .string data] 36 3
  clear h
  go_enter Tryz.func28, Tryz.ntmps28
  go_wp2_with fail
  refine (hput _ pre).mono ?_
  rintro e1 w1 ⟨rfl, hb1⟩
  replace d0 := fsm_below_cell hb1 d0
  replace d1 := fsm_below_cell hb1 d1
  replace d2 := fsm_below_cell hb1 d2
  replace d3 := fsm_below_cell hb1 d3
  have hbw := seqB hbx hb1
  clear hput pre hb1 hbx
  go_wp2_with fail
  refine (hcf _).mono ?_
  rintro e1 w2 ⟨rfl, rfl⟩
  clear hcf
  go_wp2_with (go_at_call 47; first | (refine (ho1 _).mono ?_; rintro e1 w3 ⟨rfl, rfl⟩) | (refine (ho2 _).mono ?_; rintro e1 w3 ⟨rfl, rfl⟩))
  go_ret2
  exact ⟨rfl, hbw⟩
set_option maxRecDepth 100000 in
set_option maxHeartbeats 8000000 in
theorem cput_opts (v : Value) (code id : Int) (os : List OptM) (data : ByteArray) (w : World) (l : List UInt8) (e : Int) (cf b1 b2 : Bool)
    (hput : ∀ w, OptsAt w v os → Calls Tryz.prog 45 #[v] w fun ex w' => ex = .returned (.tuple #[.string (bytesOf l), .int .i64 e]) ∧ Below w.heap.size w w')
    (hcf : ∀ w, Calls Tryz.prog 46 #[.int .i64 code] w fun e w' => e = .returned (.bool cf) ∧ w' = w)
    (ho1 : ∀ w, Calls Tryz.prog 47 #[.int .i64 code] w fun e w' => e = .returned (.bool b1) ∧ w' = w)
    (ho2 : ∀ w, Calls Tryz.prog 47 #[.int .i64 id] w fun e w' => e = .returned (.bool b2) ∧ w' = w)
    (h : OptsAt w v os) (hb : b1 = true) (hc : b2 = true) (he : e = 0) (hf : cf = false) (hl : 0 < os.length) :
    Calls Tryz.prog 28 #[.agg #[.int .i64 code, .int .i64 id, v, .string data]] w fun e w' => e = .returned (.tuple #[.string (ByteArray.empty), .int .i64 502]) ∧ Below w.heap.size w w' := by
  subst hb hc
  subst he hf
  obtain ⟨ga, c, rfl, _, _⟩ := SeqAt.form h
  have hl2 : ((os.length : Int) > 0) := by omega
  have hbx : Below w.heap.size w (w.alloc (.cells #[.int .i64 code, .int .i64 id, .slice ga os.length c, .string data] 36)) := allocB (Below.refl _ _) _
  have pre := h.below hbx
  have d0 := World.cell?_alloc_new w #[.int .i64 code, .int .i64 id, .slice ga os.length c, .string data] 36 0
  have d1 := World.cell?_alloc_new w #[.int .i64 code, .int .i64 id, .slice ga os.length c, .string data] 36 1
  have d2 := World.cell?_alloc_new w #[.int .i64 code, .int .i64 id, .slice ga os.length c, .string data] 36 2
  have d3 := World.cell?_alloc_new w #[.int .i64 code, .int .i64 id, .slice ga os.length c, .string data] 36 3
  clear h
  go_enter Tryz.func28, Tryz.ntmps28
  go_wp2_with fail
  refine (hput _ pre).mono ?_
  rintro e1 w1 ⟨rfl, hb1⟩
  replace d0 := fsm_below_cell hb1 d0
  replace d1 := fsm_below_cell hb1 d1
  replace d2 := fsm_below_cell hb1 d2
  replace d3 := fsm_below_cell hb1 d3
  have hbw := seqB hbx hb1
  clear hput pre hb1 hbx
  go_wp2_with fail
  refine (hcf _).mono ?_
  rintro e1 w2 ⟨rfl, rfl⟩
  clear hcf
  go_wp2_with (go_at_call 47; first | (refine (ho1 _).mono ?_; rintro e1 w3 ⟨rfl, rfl⟩) | (refine (ho2 _).mono ?_; rintro e1 w3 ⟨rfl, rfl⟩))
  go_ret2
  exact ⟨rfl, hbw⟩
set_option maxRecDepth 100000 in
set_option maxHeartbeats 8000000 in
theorem cput_data (v : Value) (code id : Int) (os : List OptM) (data : ByteArray) (w : World) (l : List UInt8) (e : Int) (cf b1 b2 : Bool)
    (hput : ∀ w, OptsAt w v os → Calls Tryz.prog 45 #[v] w fun ex w' => ex = .returned (.tuple #[.string (bytesOf l), .int .i64 e]) ∧ Below w.heap.size w w')
    (hcf : ∀ w, Calls Tryz.prog 46 #[.int .i64 code] w fun e w' => e = .returned (.bool cf) ∧ w' = w)
    (ho1 : ∀ w, Calls Tryz.prog 47 #[.int .i64 code] w fun e w' => e = .returned (.bool b1) ∧ w' = w)
    (ho2 : ∀ w, Calls Tryz.prog 47 #[.int .i64 id] w fun e w' => e = .returned (.bool b2) ∧ w' = w)
    (h : OptsAt w v os) (hb : b1 = true) (hc : b2 = true) (he : e = 0) (hf : cf = true) (b : UInt8) (bs : List UInt8) (hl : data.toList = b :: bs) :
    Calls Tryz.prog 28 #[.agg #[.int .i64 code, .int .i64 id, v, .string data]] w fun e w' => e = .returned (.tuple #[.string (ByteArray.empty), .int .i64 502]) ∧ Below w.heap.size w w' := by
  subst hb hc
  subst he hf
  have hbx : Below w.heap.size w (w.alloc (.cells #[.int .i64 code, .int .i64 id, v, .string data] 36)) := allocB (Below.refl _ _) _
  have pre := h.below hbx
  have d0 := World.cell?_alloc_new w #[.int .i64 code, .int .i64 id, v, .string data] 36 0
  have d1 := World.cell?_alloc_new w #[.int .i64 code, .int .i64 id, v, .string data] 36 1
  have d2 := World.cell?_alloc_new w #[.int .i64 code, .int .i64 id, v, .string data] 36 2
  have d3 := World.cell?_alloc_new w #[.int .i64 code, .int .i64 id, v, .string data] 36 3
  clear h
  go_enter Tryz.func28, Tryz.ntmps28
  go_wp2_with fail
  refine (hput _ pre).mono ?_
  rintro e1 w1 ⟨rfl, hb1⟩
  replace d0 := fsm_below_cell hb1 d0
  replace d1 := fsm_below_cell hb1 d1
  replace d2 := fsm_below_cell hb1 d2
  replace d3 := fsm_below_cell hb1 d3
  have hbw := seqB hbx hb1
  clear hput pre hb1 hbx
  go_wp2_with fail
  refine (hcf _).mono ?_
  rintro e1 w2 ⟨rfl, rfl⟩
  clear hcf
  go_wp2_with (go_at_call 47; first | (refine (ho1 _).mono ?_; rintro e1 w3 ⟨rfl, rfl⟩) | (refine (ho2 _).mono ?_; rintro e1 w3 ⟨rfl, rfl⟩))
  go_ret2
  exact ⟨rfl, hbw⟩
end Go.Proofs.YtagnbdenecphcaaGreatDoor
