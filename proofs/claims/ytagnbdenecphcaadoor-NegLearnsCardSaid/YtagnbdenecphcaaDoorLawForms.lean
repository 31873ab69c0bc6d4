/- NegForms, walked. -/
import Derived.Test.YtagnbdenecphcaaDoorNegAw2
import Derived.Test.YtagnbdenecphcaaDoorNegQ
namespace Go.Proofs.YtagnbdenecphcaaDoor
open Go.RowKit
set_option linter.unusedVariables false
set_option linter.unusedSimpArgs false
theorem new_take (l : LinkM) (k : Int) : takeM (newM l k) ⟨1, 1, [], ⟨#[]⟩⟩ = (newM l k, [], 1501) := by
  unfold takeM
  rw [if_neg (by decide), if_pos (.inl rfl)]
def newDo (e : Int) : Int := if e = 0 ∨ e = 2 ∨ e = 3 then 0 else if e = 1 ∨ e = 4 then 1501 else 1500
theorem st00 : (stepSays 0 0).2.2 = 0 := by kernel_rfl
theorem st01 : (stepSays 0 1).2.2 = 1001 := by kernel_rfl
theorem st03 : (stepSays 0 3).2.2 = 0 := by kernel_rfl
theorem st05 : (stepSays 0 5).2.2 = 1001 := by kernel_rfl
theorem new_do (l : LinkM) (k e : Int) : (doM (newM l k) e).2.2 = newDo e := by
  have hs : (newM l k).state = 0 := rfl
  have hl : (newM l k).left = 0 := rfl
  have r1 : ∀ v, (stepSays 0 v).2.2 = 0 → (runM (newM l k) v replyZ).2.2 = 0 := fun v h => by
    unfold runM; rw [hs, if_neg (by omega)]
  have r2 : ∀ v, (stepSays 0 v).2.2 ≠ 0 → (runM (newM l k) v replyZ).2.2 = 1501 := fun v h => by
    unfold runM; rw [hs, if_pos h]
  by_cases h0 : e = 0
  · subst h0; exact (r1 0 st00)
  by_cases h1 : e = 1
  · subst h1; exact (r2 1 (by rw [st01]; decide))
  by_cases h2 : e = 2
  · subst h2; exact (r1 2 (by rw [st02]))
  by_cases h3 : e = 3
  · subst h3; exact (r1 3 st03)
  by_cases h4 : e = 4
  · subst h4
    have e1 : doM (newM l k) 4 = runM (newM l k) 5 replyZ := by
      unfold doM
      rw [if_neg (by decide), if_pos rfl, if_pos hl]
    rw [e1]
    exact r2 5 (by rw [st05]; decide)
  · have e1 : newDo e = 1500 := by unfold newDo; rw [if_neg (by omega), if_neg (by omega)]
    unfold doM
    rw [if_neg (by omega), if_neg h4, e1]
theorem linkBlk_cells {w w' : World} {l : LinkM} (hb : Below (w.alloc (.cells (linkCells l) 23)).heap.size (w.alloc (.cells (linkCells l) 23)) w') :
    w'.cell? ⟨w.heap.size, 0, none⟩ = some (.int .i64 l.mru) ∧ w'.cell? ⟨w.heap.size, 1, none⟩ = some (.int .i64 l.magic) ∧ w'.cell? ⟨w.heap.size, 2, none⟩ = some (.int .i64 l.mrru) ∧ w'.cell? ⟨w.heap.size, 3, none⟩ = some (.bool l.short) ∧ w'.cell? ⟨w.heap.size, 4, none⟩ = some (.string l.disc) ∧ w'.cell? ⟨w.heap.size, 5, none⟩ = some (.int .i64 l.num) := by
  have hh : w'.heap[w.heap.size]? = some (.cells (linkCells l) 23 (0, 0)) := below_of hb (heap_alloc_last _ _)
  exact link_cells hh
set_option maxRecDepth 100000 in
set_option maxHeartbeats 16000000 in
theorem forms_walk (l : LinkM) (tries ev ml : Int) (w : World) (hm : MaxLenIs w ml) :
    Calls Tryd.prog 6 #[.agg (linkCells l), .int .i64 tries, .int .i64 ev] w fun e w' => e = .returned (.bool true) ∧ Below w.heap.size w w' := by
  have hB : Below w.heap.size w (w.alloc (.cells (linkCells l) 23)) := allocB (Below.refl _ _) _
  have hma := hm.below hB
  have haw := awake_any ml _ hma
  have hrm := fun w => rmay_any l w
  have hcl := fun w' (hb : Below (w.alloc (.cells (linkCells l) 23)).heap.size (w.alloc (.cells (linkCells l) 23)) w') => linkBlk_cells (w := w) (l := l) hb
  obtain ⟨b, hb⟩ : ∃ b, mayM l = b := ⟨_, rfl⟩
  rw [hb] at hrm
  unfold linkCells at hB hma haw hrm hcl ⊢
  obtain ⟨W, hW⟩ : ∃ W, w.alloc (.cells #[.int .i64 l.mru, .int .i64 l.magic, .int .i64 l.mrru, .bool l.short, .string l.disc, .int .i64 l.num] 23) = W := ⟨_, rfl⟩
  rw [hW] at hB hma haw hcl
  go_enter Tryd.func6, Tryd.ntmps6
  go_wp2_with fail
  refine haw.mono ?_
  rintro e w1 ⟨rfl, hb1⟩
  obtain ⟨c0, c1, c2, c3, c4, c5⟩ := hcl _ hb1
  have hm1 := hma.below hb1
  have hB1 := seqB hB hb1
  clear hW haw hcl hb1 hma hB
  go_wp2_with fail
  by_cases hok : newOk l tries = true
  · have hok2 : b = true ∧ 1 ≤ tries ∧ tries ≤ 10 := by
      unfold newOk at hok
      rw [hb] at hok
      simp only [Bool.and_eq_true, decide_eq_true_eq] at hok
      exact ⟨hok.1.1, hok.1.2, hok.2⟩
    obtain ⟨rfl, hk1, hk2⟩ := hok2
    have hnew := new_side l tries ml w1 hm1 hb hk1 hk2
    unfold linkCells at hnew
    refine hnew.mono ?_
    rintro e w2 ⟨p, t, rfl, hs2, hp2, hm2, hb2⟩
    have hB2 := seqB hB1 hb2
    have d0 := fsm_below_cell hb2 c0
    have d1 := fsm_below_cell hb2 c1
    have d2 := fsm_below_cell hb2 c2
    have d3 := fsm_below_cell hb2 c3
    have d4 := fsm_below_cell hb2 c4
    have d5 := fsm_below_cell hb2 c5
    have hwp : w.heap.size ≤ p := Nat.le_trans hB1.size hp2
    have g1 : decide (1 ≤ tries) = true := decide_eq_true hk1
    have g2 : decide (tries ≤ 10) = true := decide_eq_true hk2
    clear hnew c0 c1 c2 c3 c4 c5 hb2 hok hb
    go_wp2_with (first
      | (go_at_call 13; refine (num_any _ _).mono ?_; rintro e w' ⟨rfl, rfl⟩)
      | (go_at_call 14; refine (hrm _).mono ?_; rintro e w3 ⟨rfl, hb3⟩; have hs3 := hs2.below hb3; have hm3 := hm2.below hb3; have hB3 := seqB hB2 hb3))
    have ht := nTake_any p t (.slice none 0 0) (.slice none 0 0) _ ⟨1, 1, [], ⟨#[]⟩⟩ ml w3 hs3 hm3 (SeqAt.nil _ _) (by decide)
    rw [new_take] at ht
    refine ht.mono ?_
    rintro e w4 ⟨v4, l4, o4, rfl, hl4, hq4, hs4, -, hO4, hm4⟩
    obtain rfl : l4 = [] := List.map_eq_nil_iff.1 hq4
    obtain ⟨a4, cc4, rfl, -, -⟩ := SeqAt.form hl4.1.at
    have hd := nDo_any p t o4 _ ev ml w4 hs4 hm4
    have hB4 : Below w.heap.size w w4 := ((Only.ofBelow (S := (· = p)) hB3).trans hO4).below (Nat.le_refl _) (fun k e => by omega)
    have hnd := new_do l tries ev
    obtain ⟨x, hx⟩ : ∃ x, (doM (newM l tries) ev).2.2 = x := ⟨_, rfl⟩
    unfold ActPost at hd
    rw [hx] at hd hnd
    clear ht hs3 hm3 hO4 hs4 hm4 hl4 hq4 hx
    have fin : ∀ w5, Only (· = p) w4 w5 → Below w.heap.size w w5 := fun w5 h => ((Only.ofBelow (S := (· = p)) hB4).trans h).below (Nat.le_refl _) (fun k e => by omega)
    by_cases hev : ev = 0 ∨ ev = 1 ∨ ev = 2 ∨ ev = 3 ∨ ev = 4
    · rcases hev with rfl | rfl | rfl | rfl | rfl
      all_goals
        first
          | (obtain rfl : x = 0 := hnd)
          | (obtain rfl : x = 1501 := hnd)
        try clear hnd
        go_wp2_with (first
          | (go_at_call 13; refine (num_any _ _).mono ?_; rintro e w' ⟨rfl, rfl⟩)
          | (go_at_call 15; refine hd.mono ?_; rintro e w5 ⟨v5, l5, o5, rfl, -, -, -, -, hO5, -⟩))
        go_ret
        exact ⟨rfl, fin _ hO5⟩
    · have q0 : (ev == 0) = false := beq_eq_false_iff_ne.2 (by omega)
      have q1 : (ev == 1) = false := beq_eq_false_iff_ne.2 (by omega)
      have q2 : (ev == 2) = false := beq_eq_false_iff_ne.2 (by omega)
      have q3 : (ev == 3) = false := beq_eq_false_iff_ne.2 (by omega)
      have q4 : (ev == 4) = false := beq_eq_false_iff_ne.2 (by omega)
      obtain rfl : x = 1500 := by rw [hnd]; unfold newDo; rw [if_neg (by omega), if_neg (by omega)]
      clear hev
      go_wp2_with (first
        | (go_at_call 13; refine (num_any _ _).mono ?_; rintro e w' ⟨rfl, rfl⟩)
        | (go_at_call 15; refine hd.mono ?_; rintro e w5 ⟨v5, l5, o5, rfl, -, -, -, -, hO5, -⟩))
      go_ret
      exact ⟨rfl, fin _ hO5⟩
  · have hbad := new_bad l tries w1 (by cases h : newOk l tries; rfl; exact absurd h hok)
    unfold linkCells at hbad
    refine hbad.mono ?_
    rintro e w2 ⟨rfl, hb2⟩
    have d0 := fsm_below_cell hb2 c0
    have d1 := fsm_below_cell hb2 c1
    have d2 := fsm_below_cell hb2 c2
    have d3 := fsm_below_cell hb2 c3
    have d4 := fsm_below_cell hb2 c4
    have d5 := fsm_below_cell hb2 c5
    have hB2 := seqB hB1 hb2
    unfold newOk at hok
    rw [hb] at hok
    clear hbad c0 c1 c2 c3 c4 c5 hb2 hb
    cases b with
    | false =>
      go_wp2_with (first
        | (go_at_call 13; refine (num_any _ _).mono ?_; rintro e w' ⟨rfl, rfl⟩)
        | (go_at_call 14; refine (hrm _).mono ?_; rintro e w3 ⟨rfl, hb3⟩))
      go_ret
      exact ⟨rfl, seqB hB2 hb3⟩
    | true =>
      by_cases h1 : 1 ≤ tries
      · have h2 : ¬ tries ≤ 10 := fun h => hok (by simp [h1, h])
        have g1 : decide (1 ≤ tries) = true := decide_eq_true h1
        have g2 : decide (tries ≤ 10) = false := decide_eq_false h2
        clear hok
        go_wp2_with (first
          | (go_at_call 13; refine (num_any _ _).mono ?_; rintro e w' ⟨rfl, rfl⟩)
          | (go_at_call 14; refine (hrm _).mono ?_; rintro e w3 ⟨rfl, hb3⟩))
        go_ret
        exact ⟨rfl, seqB hB2 hb3⟩
      · have g1 : decide (1 ≤ tries) = false := decide_eq_false h1
        clear hok
        go_wp2_with (first
          | (go_at_call 13; refine (num_any _ _).mono ?_; rintro e w' ⟨rfl, rfl⟩)
          | (go_at_call 14; refine (hrm _).mono ?_; rintro e w3 ⟨rfl, hb3⟩))
        go_ret
        exact ⟨rfl, seqB hB2 hb3⟩
end Go.Proofs.YtagnbdenecphcaaDoor
