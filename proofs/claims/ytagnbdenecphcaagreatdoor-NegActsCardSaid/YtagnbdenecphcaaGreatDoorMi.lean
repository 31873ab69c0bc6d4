/- control.Put: too long, or good. control.Put: too long, or good. control.Put answers controlM. -/
import Derived.Test.YtagnbdenecphcaaGreatDoorMh
/-! control.Put: too long, or good. -/
namespace Go.Proofs.YtagnbdenecphcaaGreatDoor
open Go.RowKit
set_option linter.unusedVariables false
set_option linter.unusedSimpArgs false
theorem ctl_good (code id : Int) (T : ByteArray) (h : T.size ≤ 2044) : strOfNums [code, id, (4 + (T.size : Int)) / 256, (4 + (T.size : Int)) % 256] ++ T = bytesOf ([UInt8.ofNat code.toNat, UInt8.ofNat id.toNat, UInt8.ofNat ((4 + T.size) / 256), UInt8.ofNat ((4 + T.size) % 256)] ++ T.data.toList) := by
  have e := ctl_head code id (4 + T.size) (by omega)
  have e2 : ((4 + T.size : Nat) : Int) = 4 + (T.size : Int) := by omega
  rw [e2] at e
  rw [e]
  apply ByteArray.ext
  simp [bytesOf]
set_option maxRecDepth 100000 in
set_option maxHeartbeats 8000000 in
theorem cput_good1 (v : Value) (code id : Int) (os : List OptM) (data : ByteArray) (w : World) (l : List UInt8) (e : Int) (cf b1 b2 : Bool)
    (hput : ∀ w, OptsAt w v os → Calls Tryz.prog 45 #[v] w fun ex w' => ex = .returned (.tuple #[.string (bytesOf l), .int .i64 e]) ∧ Below w.heap.size w w')
    (hcf : ∀ w, Calls Tryz.prog 46 #[.int .i64 code] w fun e w' => e = .returned (.bool cf) ∧ w' = w)
    (ho1 : ∀ w, Calls Tryz.prog 47 #[.int .i64 code] w fun e w' => e = .returned (.bool b1) ∧ w' = w)
    (ho2 : ∀ w, Calls Tryz.prog 47 #[.int .i64 id] w fun e w' => e = .returned (.bool b2) ∧ w' = w)
    (h : OptsAt w v os) (hb : b1 = true) (hc : b2 = true) (he : e = 0) (T : ByteArray) (hT : bytesOf l ++ data = T) (hcc : ¬ 9223372036854775807 < (bytesOf l).size + data.size) (hts : T.size ≤ 4611686018427390000) (hc0 : 0 ≤ code) (hc1 : code ≤ 255) (hi0 : 0 ≤ id) (hi1 : id ≤ 255) (hf : cf = false) (hl : os = []) (hlo : T.size ≤ 2044) :
    Calls Tryz.prog 28 #[.agg #[.int .i64 code, .int .i64 id, v, .string data]] w fun e w' => e = .returned (.tuple #[.string (bytesOf ([UInt8.ofNat code.toNat, UInt8.ofNat id.toNat, UInt8.ofNat ((4 + T.size) / 256), UInt8.ofNat ((4 + T.size) % 256)] ++ T.data.toList)), .int .i64 0]) ∧ Below w.heap.size w w' := by
  subst hb hc
  subst he
  have hw4 : IntKind.i64.wrap (4 + (T.size : Int)) = 4 + (T.size : Int) := IntWalk.i64_in _ (by omega)
  have hlg : ¬ (2048 : Int) < 4 + (T.size : Int) := by omega
  have hcv : ∀ w3 : World, (convert 97 9 (.slice (some ⟨w3.heap.size, 0, none⟩) 4 4)).run Tryz.prog (w3.alloc (.cells #[.int .u8 code, .int .u8 id, .int .u8 ((4 + (T.size : Int)) / 256), .int .u8 ((4 + (T.size : Int)) % 256)] 5)) = .ok (.string (strOfNums [code, id, (4 + (T.size : Int)) / 256, (4 + (T.size : Int)) % 256])) (w3.alloc (.cells #[.int .u8 code, .int .u8 id, .int .u8 ((4 + (T.size : Int)) / 256), .int .u8 ((4 + (T.size : Int)) % 256)] 5)) := fun w3 => conv4 _ _ _ _ _ _ _ (heap_alloc_last _ _)
  have hq1 : (strOfNums [code, id, (4 + (T.size : Int)) / 256, (4 + (T.size : Int)) % 256]).size = 4 := strOfNums_size _
  have HF : Hid (strOfNums [code, id, (4 + (T.size : Int)) / 256, (4 + (T.size : Int)) % 256] ++ T = bytesOf ([UInt8.ofNat code.toNat, UInt8.ofNat id.toNat, UInt8.ofNat ((4 + T.size) / 256), UInt8.ofNat ((4 + T.size) % 256)] ++ T.data.toList)) := Lib.hid (ctl_good code id T hlo)
  subst hf hl
  obtain ⟨ga, c, rfl, _, _⟩ := SeqAt.form h
  simp only [List.length_nil] at h hput ⊢
  have hbx : Below w.heap.size w (w.alloc (.cells #[.int .i64 code, .int .i64 id, .slice ga 0 c, .string data] 36)) := allocB (Below.refl _ _) _
  have pre := h.below hbx
  have d0 := World.cell?_alloc_new w #[.int .i64 code, .int .i64 id, .slice ga 0 c, .string data] 36 0
  have d1 := World.cell?_alloc_new w #[.int .i64 code, .int .i64 id, .slice ga 0 c, .string data] 36 1
  have d2 := World.cell?_alloc_new w #[.int .i64 code, .int .i64 id, .slice ga 0 c, .string data] 36 2
  have d3 := World.cell?_alloc_new w #[.int .i64 code, .int .i64 id, .slice ga 0 c, .string data] 36 3
  clear h
  go_enter Tryz.func28, Tryz.ntmps28
  go_wp2_with fail
  refine (hput _ pre).mono ?_
  rintro e1 w1 ⟨rfl, hb1⟩
  replace d0 := fsm_below_cell hb1 d0
  replace d1 := fsm_below_cell hb1 d1
  replace d2 := fsm_below_cell hb1 d2
  replace d3 := fsm_below_cell hb1 d3
  have hbw := seqB hbx hb1
  clear hput pre hb1 hbx
  go_wp2_with fail
  refine (hcf _).mono ?_
  rintro e1 w2 ⟨rfl, rfl⟩
  clear hcf
  go_wp2_with (go_at_call 47; first | (refine (ho1 _).mono ?_; rintro e1 w3 ⟨rfl, rfl⟩) | (refine (ho2 _).mono ?_; rintro e1 w3 ⟨rfl, rfl⟩))
  go_ret2
  refine ⟨?_, allocB hbw _⟩
  simp only [HF.out.symm]
  rfl
end Go.Proofs.YtagnbdenecphcaaGreatDoor
/-! control.Put: too long, or good. -/
namespace Go.Proofs.YtagnbdenecphcaaGreatDoor
open Go.RowKit
set_option linter.unusedVariables false
set_option linter.unusedSimpArgs false
set_option maxRecDepth 100000 in
set_option maxHeartbeats 8000000 in
theorem cput_good2 (v : Value) (code id : Int) (os : List OptM) (data : ByteArray) (w : World) (l : List UInt8) (e : Int) (cf b1 b2 : Bool)
    (hput : ∀ w, OptsAt w v os → Calls Tryz.prog 45 #[v] w fun ex w' => ex = .returned (.tuple #[.string (bytesOf l), .int .i64 e]) ∧ Below w.heap.size w w')
    (hcf : ∀ w, Calls Tryz.prog 46 #[.int .i64 code] w fun e w' => e = .returned (.bool cf) ∧ w' = w)
    (ho1 : ∀ w, Calls Tryz.prog 47 #[.int .i64 code] w fun e w' => e = .returned (.bool b1) ∧ w' = w)
    (ho2 : ∀ w, Calls Tryz.prog 47 #[.int .i64 id] w fun e w' => e = .returned (.bool b2) ∧ w' = w)
    (h : OptsAt w v os) (hb : b1 = true) (hc : b2 = true) (he : e = 0) (T : ByteArray) (hT : bytesOf l ++ data = T) (hcc : ¬ 9223372036854775807 < (bytesOf l).size + data.size) (hts : T.size ≤ 4611686018427390000) (hc0 : 0 ≤ code) (hc1 : code ≤ 255) (hi0 : 0 ≤ id) (hi1 : id ≤ 255) (hf : cf = true) (hl : data.toList = []) (hlo : T.size ≤ 2044) :
    Calls Tryz.prog 28 #[.agg #[.int .i64 code, .int .i64 id, v, .string data]] w fun e w' => e = .returned (.tuple #[.string (bytesOf ([UInt8.ofNat code.toNat, UInt8.ofNat id.toNat, UInt8.ofNat ((4 + T.size) / 256), UInt8.ofNat ((4 + T.size) % 256)] ++ T.data.toList)), .int .i64 0]) ∧ Below w.heap.size w w' := by
  subst hb hc
  subst he
  have hw4 : IntKind.i64.wrap (4 + (T.size : Int)) = 4 + (T.size : Int) := IntWalk.i64_in _ (by omega)
  have hlg : ¬ (2048 : Int) < 4 + (T.size : Int) := by omega
  have hcv : ∀ w3 : World, (convert 97 9 (.slice (some ⟨w3.heap.size, 0, none⟩) 4 4)).run Tryz.prog (w3.alloc (.cells #[.int .u8 code, .int .u8 id, .int .u8 ((4 + (T.size : Int)) / 256), .int .u8 ((4 + (T.size : Int)) % 256)] 5)) = .ok (.string (strOfNums [code, id, (4 + (T.size : Int)) / 256, (4 + (T.size : Int)) % 256])) (w3.alloc (.cells #[.int .u8 code, .int .u8 id, .int .u8 ((4 + (T.size : Int)) / 256), .int .u8 ((4 + (T.size : Int)) % 256)] 5)) := fun w3 => conv4 _ _ _ _ _ _ _ (heap_alloc_last _ _)
  have hq1 : (strOfNums [code, id, (4 + (T.size : Int)) / 256, (4 + (T.size : Int)) % 256]).size = 4 := strOfNums_size _
  have HF : Hid (strOfNums [code, id, (4 + (T.size : Int)) / 256, (4 + (T.size : Int)) % 256] ++ T = bytesOf ([UInt8.ofNat code.toNat, UInt8.ofNat id.toNat, UInt8.ofNat ((4 + T.size) / 256), UInt8.ofNat ((4 + T.size) % 256)] ++ T.data.toList)) := Lib.hid (ctl_good code id T hlo)
  subst hf
  have hbx : Below w.heap.size w (w.alloc (.cells #[.int .i64 code, .int .i64 id, v, .string data] 36)) := allocB (Below.refl _ _) _
  have pre := h.below hbx
  have d0 := World.cell?_alloc_new w #[.int .i64 code, .int .i64 id, v, .string data] 36 0
  have d1 := World.cell?_alloc_new w #[.int .i64 code, .int .i64 id, v, .string data] 36 1
  have d2 := World.cell?_alloc_new w #[.int .i64 code, .int .i64 id, v, .string data] 36 2
  have d3 := World.cell?_alloc_new w #[.int .i64 code, .int .i64 id, v, .string data] 36 3
  clear h
  go_enter Tryz.func28, Tryz.ntmps28
  go_wp2_with fail
  refine (hput _ pre).mono ?_
  rintro e1 w1 ⟨rfl, hb1⟩
  replace d0 := fsm_below_cell hb1 d0
  replace d1 := fsm_below_cell hb1 d1
  replace d2 := fsm_below_cell hb1 d2
  replace d3 := fsm_below_cell hb1 d3
  have hbw := seqB hbx hb1
  clear hput pre hb1 hbx
  go_wp2_with fail
  refine (hcf _).mono ?_
  rintro e1 w2 ⟨rfl, rfl⟩
  clear hcf
  go_wp2_with (go_at_call 47; first | (refine (ho1 _).mono ?_; rintro e1 w3 ⟨rfl, rfl⟩) | (refine (ho2 _).mono ?_; rintro e1 w3 ⟨rfl, rfl⟩))
  go_ret2
  refine ⟨?_, allocB hbw _⟩
  simp only [HF.out.symm]
  rfl
end Go.Proofs.YtagnbdenecphcaaGreatDoor
/-! control.Put answers controlM. -/
namespace Go.Proofs.YtagnbdenecphcaaGreatDoor
open Go.RowKit
set_option linter.unusedVariables false
theorem octetM_le {c : Int} (h : octetM c = true) : 0 ≤ c ∧ c ≤ 255 := by unfold octetM at h; simp at h; exact h
theorem cput_any (v : Value) (p : PacketM) (w : World) (h : OptsAt w v p.opts) (hsz : p.data.size ≤ 4611686018427387904) :
    Calls Tryz.prog 28 #[.agg #[.int .i64 p.code, .int .i64 p.id, v, .string p.data]] w fun e w' => e = .returned (.tuple #[.string (bytesOf (controlM p).1), .int .i64 (controlM p).2]) ∧ Below w.heap.size w w' := by
  have hput : ∀ w, OptsAt w v p.opts → _ := fun w h => oput_any v p.opts w h
  have hcf := fun w => conf_any p.code w
  have ho1 := fun w => octet_any p.code w
  have ho2 := fun w => octet_any p.id w
  have herr := optsM_err p.opts
  have hle := optsM_le p.opts
  obtain ⟨code, id, os, data⟩ := p
  dsimp only at *
  have hts : (bytesOf (optsM os).1 ++ data).size = (optsM os).1.length + data.size := by rw [ByteArray.size_append, bytesOf_size]
  have hcc : ¬ 9223372036854775807 < (bytesOf (optsM os).1).size + data.size := by rw [bytesOf_size]; omega
  have htl : (bytesOf (optsM os).1 ++ data).data.toList = (optsM os).1 ++ data.data.toList := by simp [bytesOf]
  by_cases hb1 : octetM code = true
  · by_cases hb2 : octetM id = true
    · obtain ⟨hc0, hc1⟩ := octetM_le hb1
      obtain ⟨hi0, hi1⟩ := octetM_le hb2
      by_cases he : (optsM os).2 = 0
      · by_cases hf : confM code = true
        · cases hd : data.data.toList with
          | cons b bs =>
            have hM : controlM ⟨code, id, os, data⟩ = ([], 502) := by
              unfold controlM
              dsimp only
              rw [if_neg (by simp [hb1, hb2]), if_pos (.inr (.inr ⟨hf, by rw [hd]; simp⟩))]
            rw [hM]
            exact cput_data v code id os data w _ _ _ _ _ hput hcf ho1 ho2 h hb1 hb2 he hf b bs (by rw [ba_toList]; exact hd)
          | nil =>
            have hnc : ¬ ((optsM os).2 ≠ 0 ∨ (confM code = false ∧ os ≠ []) ∨ (confM code = true ∧ data.data.toList ≠ [])) := by
              rintro (h | h | h)
              · exact h he
              · rw [hf] at h; exact absurd h.1 (by decide)
              · exact h.2 hd
            by_cases hlo : 2044 < (bytesOf (optsM os).1 ++ data).size
            · have hM : controlM ⟨code, id, os, data⟩ = ([], 503) := by
                unfold controlM
                dsimp only
                rw [if_neg (by simp [hb1, hb2]), if_neg hnc, if_pos (by omega)]
              rw [hM]
              exact cput_long2 v code id os data w _ _ _ _ _ hput hcf ho1 ho2 h hb1 hb2 he _ rfl hcc (by omega) hf (by rw [ba_toList]; exact hd) hlo
            · have hM : controlM ⟨code, id, os, data⟩ = ([UInt8.ofNat code.toNat, UInt8.ofNat id.toNat, UInt8.ofNat ((4 + (bytesOf (optsM os).1 ++ data).size) / 256), UInt8.ofNat ((4 + (bytesOf (optsM os).1 ++ data).size) % 256)] ++ (bytesOf (optsM os).1 ++ data).data.toList, 0) := by
                unfold controlM
                dsimp only
                rw [if_neg (by simp [hb1, hb2]), if_neg hnc, if_neg (by omega), hts, htl]
              rw [hM]
              exact cput_good2 v code id os data w _ _ _ _ _ hput hcf ho1 ho2 h hb1 hb2 he _ rfl hcc (by omega) hc0 hc1 hi0 hi1 hf (by rw [ba_toList]; exact hd) (by omega)
        · have hf' : confM code = false := Bool.not_eq_true _ ▸ hf
          by_cases hl : os = []
          · have hnc : ¬ ((optsM os).2 ≠ 0 ∨ (confM code = false ∧ os ≠ []) ∨ (confM code = true ∧ data.data.toList ≠ [])) := by
              rintro (h | h | h)
              · exact h he
              · exact h.2 hl
              · exact hf h.1
            by_cases hlo : 2044 < (bytesOf (optsM os).1 ++ data).size
            · have hM : controlM ⟨code, id, os, data⟩ = ([], 503) := by
                unfold controlM
                dsimp only
                rw [if_neg (by simp [hb1, hb2]), if_neg hnc, if_pos (by omega)]
              rw [hM]
              exact cput_long1 v code id os data w _ _ _ _ _ hput hcf ho1 ho2 h hb1 hb2 he _ rfl hcc (by omega) hf' hl hlo
            · have hM : controlM ⟨code, id, os, data⟩ = ([UInt8.ofNat code.toNat, UInt8.ofNat id.toNat, UInt8.ofNat ((4 + (bytesOf (optsM os).1 ++ data).size) / 256), UInt8.ofNat ((4 + (bytesOf (optsM os).1 ++ data).size) % 256)] ++ (bytesOf (optsM os).1 ++ data).data.toList, 0) := by
                unfold controlM
                dsimp only
                rw [if_neg (by simp [hb1, hb2]), if_neg hnc, if_neg (by omega), hts, htl]
              rw [hM]
              exact cput_good1 v code id os data w _ _ _ _ _ hput hcf ho1 ho2 h hb1 hb2 he _ rfl hcc (by omega) hc0 hc1 hi0 hi1 hf' hl (by omega)
          · have hM : controlM ⟨code, id, os, data⟩ = ([], 502) := by
              unfold controlM
              dsimp only
              rw [if_neg (by simp [hb1, hb2]), if_pos (.inr (.inl ⟨hf', hl⟩))]
            rw [hM]
            exact cput_opts v code id os data w _ _ _ _ _ hput hcf ho1 ho2 h hb1 hb2 he hf' (List.length_pos_iff.2 hl)
      · have hM : controlM ⟨code, id, os, data⟩ = ([], 502) := by
          unfold controlM
          dsimp only
          rw [if_neg (by simp [hb1, hb2]), if_pos (.inl he)]
        rw [hM]
        exact cput_err v code id os data w _ _ _ _ _ hput hcf ho1 ho2 h hb1 hb2 (by rcases herr with h | h | h; exact absurd h he; exact .inl h; exact .inr h)
    · have hM : controlM ⟨code, id, os, data⟩ = ([], 501) := by
        unfold controlM
        dsimp only
        rw [if_pos (.inr (Bool.not_eq_true _ ▸ hb2))]
      rw [hM]
      exact cput_oct2 v code id os data w _ _ _ _ _ hput hcf ho1 ho2 h hb1 (Bool.not_eq_true _ ▸ hb2)
  · have hM : controlM ⟨code, id, os, data⟩ = ([], 501) := by
      unfold controlM
      dsimp only
      rw [if_pos (.inl (Bool.not_eq_true _ ▸ hb1))]
    rw [hM]
    exact cput_oct1 v code id os data w _ _ _ _ _ hput hcf ho1 ho2 h (Bool.not_eq_true _ ▸ hb1)
end Go.Proofs.YtagnbdenecphcaaGreatDoor
