/- awake answers true. -/
import Derived.Test.YtagnbdenecphcaaGreatDoorNegAw
namespace Go.Proofs.YtagnbdenecphcaaGreatDoor
open Go.RowKit
set_option linter.unusedVariables false
set_option linter.unusedSimpArgs false
set_option maxRecDepth 100000 in
theorem num_any (x : Int) (w : World) : Calls Tryz.prog 6 #[.int .i64 x] w fun e w' => e = .returned (.int .i64 x) ∧ w = w' := by
  go_enter Tryz.func6, Tryz.ntmps6
  go_wp2_with fail
  go_ret
  exact ⟨rfl, rfl⟩
theorem one_of {α β : Type} {f : α → β} {l : List α} {k : β} (h : l.map f = [k]) : ∃ x, l = [x] ∧ f x = k := by
  cases l with
  | nil => cases h
  | cons x l =>
    cases l with
    | nil => exact ⟨x, rfl, by simpa using h⟩
    | cons y l => simp at h
/-- a new side in memory -/
theorem new_side (l : LinkM) (tries ml : Int) (w : World) (hm : MaxLenIs w ml) (hk : mayM l = true) (h1 : 1 ≤ tries) (h2 : tries ≤ 10) :
    Calls Tryz.prog 4 #[.agg (linkCells l), .int .i64 tries] w fun e w' => ∃ p t, e = .returned (.tuple #[.pointer (some ⟨p, 0, none⟩), .int .i64 0]) ∧ Side w' p t (.slice none 0 0) (newM l tries) ∧ w.heap.size ≤ p ∧ MaxLenIs w' ml ∧ Below w.heap.size w w' := by
  refine (new_good l tries w hk h1 h2).mono ?_
  rintro e w' ⟨p, t, rfl, hb, ht, hp, htp, hbl⟩
  have hlt := block_lt_of_cell hm
  exact ⟨p, t, rfl, ⟨hb, ht, SeqAt.nil _ _, htp, (fun k hk => by cases hk), good_new hk h1 h2, fun e => by dsimp only at hlt; omega⟩, hp, hm.below hbl, hbl⟩
set_option maxRecDepth 100000 in
set_option maxHeartbeats 16000000 in
theorem awake_any (ml : Int) (w : World) (hm : MaxLenIs w ml) : Calls Tryz.prog 7 #[] w fun e w' => e = .returned (.bool true) ∧ Below w.heap.size w w' := by
  have hnew := new_side awL 4 ml w hm aw_may (by decide) (by decide)
  have hbad := fun w => new_bad ⟨1, 0, 0, false, ⟨#[]⟩, 0⟩ 4 w (by decide)
  unfold linkCells at hnew hbad
  simp only [awL] at hnew
  clear hm
  go_enter Tryz.func7, Tryz.ntmps7
  go_wp2_with fail
  refine hnew.mono ?_
  rintro e w1 ⟨p, t, rfl, hs1, hpw, hm1, hb1⟩
  clear hnew
  have hd := nDo_any p t (.slice none 0 0) _ 2 ml w1 hs1 hm1
  rw [show doM (newM ⟨1500, 0, 0, false, ⟨#[]⟩, 0⟩ 4) 2 = (awS1, [], 0) from aw1] at hd
  go_wp2_with (go_at_call 6; refine (num_any _ _).mono ?_; rintro e w' ⟨rfl, rfl⟩)
  refine hd.mono ?_
  rintro e w2 ⟨v2, l2, o2, rfl, hl2, hq2, hs2, -, hO2, hm2⟩
  clear hd hl2 hq2
  have hd := nDo_any p t o2 _ 0 ml w2 hs2 hm2
  rw [aw2] at hd
  go_wp2_with fail
  refine hd.mono ?_
  rintro e w3 ⟨v3, l3, o3, rfl, hl3, hq3, hs3, -, hO3, hm3⟩
  obtain ⟨x3, rfl, hx3⟩ := one_of hq3
  obtain ⟨a3, c3, rfl, -, -⟩ := SeqAt.form hl3.1.at
  obtain ⟨g, rfl, hg, hgl, -, hc31, hc32, d0, d1, -, -⟩ := hl3.cells 0 (by simp)
  simp only [List.getElem_cons_zero, hx3] at d0 d1
  clear hd hl3 hq3
  have hgp : g ≠ p := by have := hs2.blk.lt; omega
  have hd := nDo_any p t o3 _ 8 ml w3 hs3 hm3
  rw [aw3] at hd
  go_wp2_with fail
  refine hd.mono ?_
  rintro e w4 ⟨v4, l4, o4, rfl, -, -, hs4, -, hO4, hm4⟩
  clear hd
  have hd := nDo_any p t o4 _ 0 ml w4 hs4 hm4
  rw [aw4] at hd
  go_wp2_with fail
  refine hd.mono ?_
  rintro e w5 ⟨v5, l5, o5, rfl, -, -, hs5, -, hO5, hm5⟩
  clear hd
  have hd := nTake_any p t o5 (.slice none 0 0) _ ⟨1, 9, [], ⟨#[]⟩⟩ ml w5 hs5 hm5 (SeqAt.nil _ _) (by decide)
  rw [aw5] at hd
  unfold packCells at hd
  go_wp2_with fail
  refine hd.mono ?_
  rintro e w6 ⟨v6, l6, o6, rfl, hl6, hq6, hs6, -, hO6, hm6⟩
  obtain ⟨x6, rfl, hx6⟩ := one_of hq6
  obtain ⟨a6, c6, rfl, -, -⟩ := SeqAt.form hl6.1.at
  obtain ⟨f, rfl, hf, hfl, -, hc61, hc62, y0, y1, -, -⟩ := hl6.cells 0 (by simp)
  simp only [List.getElem_cons_zero, hx6] at y0 y1
  have z0 := hO6.cell (hO5.cell (hO4.cell (a := ⟨g, _, none⟩) d0 hgp) hgp) hgp
  have z1 := hO6.cell (hO5.cell (hO4.cell (a := ⟨g, _, none⟩) d1 hgp) hgp) hgp
  have hOp : Only (· = p) w1 w6 := (((hO2.trans hO3).trans hO4).trans hO5).trans hO6
  have hBp : Below w.heap.size w w6 := hb1.trans (hOp.below hb1.size (fun k e => by omega))
  clear hd hl6 hq6 d0 d1 hO2 hO3 hO4 hO5 hO6 hs1 hs2 hs3 hs4 hs5 hm1 hm2 hm3 hm4 hm5 hb1 hOp
  have hlf := fun w (h : Side w p t o6 awS3) => left_any p t o6 _ w h.blk
  have hst := fun w (h : Side w p t o6 awS3) => state_any p t o6 _ w h.blk
  have el : awS3.left = 3 := rfl
  have es : awS3.state = 8 := rfl
  rw [el] at hlf
  rw [es] at hst
  clear el es
  have hsz6 := hs6.blk.lt
  have hcc3 : c3 ≤ 9223372036854775807 := by unfold maxLen at hc32; omega
  have hcc6 : c6 ≤ 9223372036854775807 := by unfold maxLen at hc62; omega
  simp only [List.length_cons, List.length_nil, Nat.zero_add, Nat.zero_mul] at *
  go_wp2_with (first
    | (go_at_call 6; refine (num_any _ _).mono ?_; rintro e w' ⟨rfl, rfl⟩)
    | (go_at_call 4; refine (hbad _).mono ?_; rintro e w7 ⟨rfl, hb7⟩; have u0 := fsm_below_cell hb7 z0; have u1 := fsm_below_cell hb7 z1; have u2 := fsm_below_cell hb7 y0; have u3 := fsm_below_cell hb7 y1; have hs7 := hs6.below hb7; have hBf := seqB hBp hb7)
    | (go_at_call 16; refine (hst _ hs7).mono ?_; rintro e w' ⟨rfl, rfl⟩)
    | (go_at_call 19; refine (hlf _ hs7).mono ?_; rintro e w' ⟨rfl, rfl⟩))
  go_ret
  exact ⟨rfl, hBf⟩
end Go.Proofs.YtagnbdenecphcaaGreatDoor
