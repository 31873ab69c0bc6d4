/- control.Put: too long, or good. control.Put: too long, or good. -/
import Derived.Test.YtagnbdenecphcaaGreatDoorMg
/-! control.Put: too long, or good. -/
namespace Go.Proofs.YtagnbdenecphcaaGreatDoor
open Go.RowKit
set_option linter.unusedVariables false
set_option linter.unusedSimpArgs false
set_option maxRecDepth 100000 in
set_option maxHeartbeats 8000000 in
theorem cput_long1 (v : Value) (code id : Int) (os : List OptM) (data : ByteArray) (w : World) (l : List UInt8) (e : Int) (cf b1 b2 : Bool)
    (hput : ∀ w, OptsAt w v os → Calls Tryz.prog 45 #[v] w fun ex w' => ex = .returned (.tuple #[.string (bytesOf l), .int .i64 e]) ∧ Below w.heap.size w w')
    (hcf : ∀ w, Calls Tryz.prog 46 #[.int .i64 code] w fun e w' => e = .returned (.bool cf) ∧ w' = w)
    (ho1 : ∀ w, Calls Tryz.prog 47 #[.int .i64 code] w fun e w' => e = .returned (.bool b1) ∧ w' = w)
    (ho2 : ∀ w, Calls Tryz.prog 47 #[.int .i64 id] w fun e w' => e = .returned (.bool b2) ∧ w' = w)
    (h : OptsAt w v os) (hb : b1 = true) (hc : b2 = true) (he : e = 0) (T : ByteArray) (hT : bytesOf l ++ data = T) (hcc : ¬ 9223372036854775807 < (bytesOf l).size + data.size) (hts : T.size ≤ 4611686018427390000) (hf : cf = false) (hl : os = []) (hlo : 2044 < T.size) :
    Calls Tryz.prog 28 #[.agg #[.int .i64 code, .int .i64 id, v, .string data]] w fun e w' => e = .returned (.tuple #[.string (ByteArray.empty), .int .i64 503]) ∧ Below w.heap.size w w' := by
  subst hb hc
  subst he
  have hw4 : IntKind.i64.wrap (4 + (T.size : Int)) = 4 + (T.size : Int) := IntWalk.i64_in _ (by omega)
  have hlg : (2048 : Int) < 4 + (T.size : Int) := by omega
  subst hf hl
  obtain ⟨ga, c, rfl, _, _⟩ := SeqAt.form h
  simp only [List.length_nil] at h hput ⊢
  have hbx : Below w.heap.size w (w.alloc (.cells #[.int .i64 code, .int .i64 id, .slice ga 0 c, .string data] 36)) := allocB (Below.refl _ _) _
  have pre := h.below hbx
  have d0 := World.cell?_alloc_new w #[.int .i64 code, .int .i64 id, .slice ga 0 c, .string data] 36 0
  have d1 := World.cell?_alloc_new w #[.int .i64 code, .int .i64 id, .slice ga 0 c, .string data] 36 1
  have d2 := World.cell?_alloc_new w #[.int .i64 code, .int .i64 id, .slice ga 0 c, .string data] 36 2
  have d3 := World.cell?_alloc_new w #[.int .i64 code, .int .i64 id, .slice ga 0 c, .string data] 36 3
  clear h
  go_enter Tryz.func28, Tryz.ntmps28
  go_wp2_with fail
  refine (hput _ pre).mono ?_
  rintro e1 w1 ⟨rfl, hb1⟩
  replace d0 := fsm_below_cell hb1 d0
  replace d1 := fsm_below_cell hb1 d1
  replace d2 := fsm_below_cell hb1 d2
  replace d3 := fsm_below_cell hb1 d3
  have hbw := seqB hbx hb1
  clear hput pre hb1 hbx
  go_wp2_with fail
  refine (hcf _).mono ?_
  rintro e1 w2 ⟨rfl, rfl⟩
  clear hcf
  go_wp2_with (go_at_call 47; first | (refine (ho1 _).mono ?_; rintro e1 w3 ⟨rfl, rfl⟩) | (refine (ho2 _).mono ?_; rintro e1 w3 ⟨rfl, rfl⟩))
  go_ret2
  exact ⟨rfl, hbw⟩
end Go.Proofs.YtagnbdenecphcaaGreatDoor
/-! control.Put: too long, or good. -/
namespace Go.Proofs.YtagnbdenecphcaaGreatDoor
open Go.RowKit
set_option linter.unusedVariables false
set_option linter.unusedSimpArgs false
set_option maxRecDepth 100000 in
set_option maxHeartbeats 8000000 in
theorem cput_long2 (v : Value) (code id : Int) (os : List OptM) (data : ByteArray) (w : World) (l : List UInt8) (e : Int) (cf b1 b2 : Bool)
    (hput : ∀ w, OptsAt w v os → Calls Tryz.prog 45 #[v] w fun ex w' => ex = .returned (.tuple #[.string (bytesOf l), .int .i64 e]) ∧ Below w.heap.size w w')
    (hcf : ∀ w, Calls Tryz.prog 46 #[.int .i64 code] w fun e w' => e = .returned (.bool cf) ∧ w' = w)
    (ho1 : ∀ w, Calls Tryz.prog 47 #[.int .i64 code] w fun e w' => e = .returned (.bool b1) ∧ w' = w)
    (ho2 : ∀ w, Calls Tryz.prog 47 #[.int .i64 id] w fun e w' => e = .returned (.bool b2) ∧ w' = w)
    (h : OptsAt w v os) (hb : b1 = true) (hc : b2 = true) (he : e = 0) (T : ByteArray) (hT : bytesOf l ++ data = T) (hcc : ¬ 9223372036854775807 < (bytesOf l).size + data.size) (hts : T.size ≤ 4611686018427390000) (hf : cf = true) (hl : data.toList = []) (hlo : 2044 < T.size) :
    Calls Tryz.prog 28 #[.agg #[.int .i64 code, .int .i64 id, v, .string data]] w fun e w' => e = .returned (.tuple #[.string (ByteArray.empty), .int .i64 503]) ∧ Below w.heap.size w w' := by
  subst hb hc
  subst he
  have hw4 : IntKind.i64.wrap (4 + (T.size : Int)) = 4 + (T.size : Int) := IntWalk.i64_in _ (by omega)
  have hlg : (2048 : Int) < 4 + (T.size : Int) := by omega
  subst hf
  have hbx : Below w.heap.size w (w.alloc (.cells #[.int .i64 code, .int .i64 id, v, .string data] 36)) := allocB (Below.refl _ _) _
  have pre := h.below hbx
  have d0 := World.cell?_alloc_new w #[.int .i64 code, .int .i64 id, v, .string data] 36 0
  have d1 := World.cell?_alloc_new w #[.int .i64 code, .int .i64 id, v, .string data] 36 1
  have d2 := World.cell?_alloc_new w #[.int .i64 code, .int .i64 id, v, .string data] 36 2
  have d3 := World.cell?_alloc_new w #[.int .i64 code, .int .i64 id, v, .string data] 36 3
  clear h
  go_enter Tryz.func28, Tryz.ntmps28
  go_wp2_with fail
  refine (hput _ pre).mono ?_
  rintro e1 w1 ⟨rfl, hb1⟩
  replace d0 := fsm_below_cell hb1 d0
  replace d1 := fsm_below_cell hb1 d1
  replace d2 := fsm_below_cell hb1 d2
  replace d3 := fsm_below_cell hb1 d3
  have hbw := seqB hbx hb1
  clear hput pre hb1 hbx
  go_wp2_with fail
  refine (hcf _).mono ?_
  rintro e1 w2 ⟨rfl, rfl⟩
  clear hcf
  go_wp2_with (go_at_call 47; first | (refine (ho1 _).mono ?_; rintro e1 w3 ⟨rfl, rfl⟩) | (refine (ho2 _).mono ?_; rintro e1 w3 ⟨rfl, rfl⟩))
  go_ret2
  exact ⟨rfl, hbw⟩
end Go.Proofs.YtagnbdenecphcaaGreatDoor
