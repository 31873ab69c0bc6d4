/- NegEchoes, walked. -/
import Derived.Test.YtagnbdenecphcaaDoorLawCloses
import Derived.Test.YtagnbdenecphcaaDoorSame
import Derived.Laws.Bits128
namespace Go.Proofs.YtagnbdenecphcaaDoor
open Go.RowKit
set_option linter.unusedVariables false
set_option linter.unusedSimpArgs false
def shortL : LinkM := ⟨0, 0, 0, true, ⟨#[]⟩, 0⟩
theorem short_may : mayM shortL = true := by decide
theorem i64_and255 (n : Int) : bits .and .i64 n 255 = n % 256 := by
  have := i64_low n 8 (by decide)
  rw [show ((2 ^ 8 - 1 : Nat) : Int) = 255 from rfl, show ((2 ^ 8 : Nat) : Int) = 256 from rfl] at this
  exact this
theorem i64_and127 (n : Int) : bits .and .i64 n 127 = n % 128 := by
  have := i64_low n 7 (by decide)
  rw [show ((2 ^ 7 - 1 : Nat) : Int) = 127 from rfl, show ((2 ^ 7 : Nat) : Int) = 128 from rfl] at this
  exact this
/-- a row of one packet that was just laid -/
theorem packs_one (w : World) (k : PacketM) (hk : k.opts = []) : PacksAt (w.alloc (.cells #[.int .i64 k.code, .int .i64 k.id, .slice none 0 0, .string k.data] 41)) (.slice (some ⟨w.heap.size, 0, none⟩) 1 1) [(k, none, 0)] := by
  refine ⟨.inr ⟨w.heap.size, 0, 1, rfl, by simp, by decide, by simp, fun j hj i hi => ?_⟩, fun x hx => ?_⟩
  · have : j = 0 := by simpa using hj
    subst this
    have e : packE.enc (k, none, 0) = [.int .i64 k.code, .int .i64 k.id, .slice none 0 0, .string k.data] := by
      show [Value.int .i64 k.code, .int .i64 k.id, .slice none k.opts.length 0, .string k.data] = _
      rw [hk]; rfl
    rw [List.getElem_cons_zero, e, World.cell?_alloc_new]
    simp
  · rw [List.mem_singleton] at hx
    subst hx
    have e : slOf (k, none, 0) = .slice none 0 0 := by
      show Value.slice none k.opts.length 0 = _
      rw [hk]; rfl
    rw [e, hk]
    exact SeqAt.nil _ _
set_option maxRecDepth 100000 in
set_option maxHeartbeats 32000000 in
theorem echoes_walk (l : LinkM) (id : Int) (data : ByteArray) (code ml : Int) (w : World) (hml : MaxLenIs w ml) :
    Calls Tryd.prog 5 #[.agg (linkCells l), .int .i64 id, .string data, .int .i64 code] w fun e w' => e = .returned (.bool true) ∧ Below w.heap.size w w' := by
  have hB : Below w.heap.size w (w.alloc (.cells (linkCells l) 23)) := allocB (Below.refl _ _) _
  have hh1 := link_new w l
  have hmW := hml.below hB
  have haw := awake_any ml _ hmW
  have hr1 := fun w => rmay_any l w
  obtain ⟨b1, hb1⟩ : ∃ b, mayM l = b := ⟨_, rfl⟩
  rw [hb1] at hr1
  have hfar : farM l shortL ∧ farM shortL l := ⟨.inl rfl, by by_cases h : l.magic = 0; exact .inl h; exact .inr h⟩
  have hopn := fun W h1 (h2 : mayM l = true) => open_any l shortL ml W h1 h2 short_may hfar.1 hfar.2
  unfold linkCells at hB hh1 haw hmW hr1 hopn ⊢
  simp only [shortL] at hopn
  obtain ⟨W, hW⟩ : ∃ W, w.alloc (.cells #[.int .i64 l.mru, .int .i64 l.magic, .int .i64 l.mrru, .bool l.short, .string l.disc, .int .i64 l.num] 23) = W := ⟨_, rfl⟩
  rw [hW] at hB hh1 haw hmW
  go_enter Tryd.func5, Tryd.ntmps5
  go_wp2_with fail
  refine haw.mono ?_
  rintro e w1 ⟨rfl, hbw⟩
  have hB1 := seqB hB hbw
  have hm1 := hmW.below hbw
  replace hh1 := below_of hbw hh1
  obtain ⟨c0, c1, c2, c3, c4, c5⟩ := link_cells (l := l) hh1
  clear hW haw hbw hB hmW
  cases b1 with
  | false =>
    go_wp2_with (go_at_call 14; refine (hr1 _).mono ?_; rintro e w2 ⟨rfl, hbr⟩)
    go_ret
    exact ⟨rfl, seqB hB1 hbr⟩
  | true =>
    have hopn2 := fun W h1 => hopn W h1 hb1
    clear hopn
    go_wp2_with (go_at_call 14; refine (hr1 _).mono ?_; rintro e w2 ⟨rfl, hbr⟩; have d0 := fsm_below_cell hbr c0; have d1 := fsm_below_cell hbr c1; have d2 := fsm_below_cell hbr c2; have d3 := fsm_below_cell hbr c3; have d4 := fsm_below_cell hbr c4; have d5 := fsm_below_cell hbr c5; have hB2 := seqB hB1 hbr; have hm2 := hm1.below hbr)
    refine (hopn2 _ hm2).mono ?_
    rintro e w3 ⟨B, px, tx, py, ty, ox, oy, rfl, hT, hp1, hp2, hBw, hm3, hb3⟩
    have hs9 : (concN l shortL (finG l.short true).x).state = 9 := by
      have e := (fin_rounds l.short true).2.1
      unfold goodG at e
      simp only [Bool.and_eq_true, decide_eq_true_eq] at e
      exact e.1.1.1
    have hT0 : TwoAt w3 B px tx py ty ox oy (concN l shortL (finG l.short true).x) (concN shortL l (finG l.short true).y) := hT
    clear hT
    obtain ⟨SX, hSX⟩ : ∃ s, concN l shortL (finG l.short true).x = s := ⟨_, rfl⟩
    obtain ⟨SY, hSY⟩ : ∃ s, concN shortL l (finG l.short true).y = s := ⟨_, rfl⟩
    rw [hSX] at hs9 hT0
    rw [hSY] at hT0
    have hT := hT0
    have hBq := seqB hB2 hb3
    have hpw1 : w.heap.size ≤ px := Nat.le_trans hB2.size hp1
    clear hT0 hSX hSY hopn2 hr1 hfar d0 d1 d2 d3 d4 d5 c0 c1 c2 c3 c4 c5 hh1 hm1 hm2 hB1 hbr hB2 hb3
    by_cases hbig : 100 < data.size
    · obtain ⟨D, hD⟩ : ∃ D, data.extract 0 100 = D := ⟨_, rfl⟩
      have hD100 : D.size ≤ 100 := by rw [← hD, prefix_size _ _ (by omega)]; omega
      have hDs : D.size ≤ 4611686018427387904 := by omega
      go_wp2_with fail
      rw [i64_and255 id]
      obtain ⟨q, hq⟩ : ∃ q, id % 256 = q := ⟨_, rfl⟩
      have hq2 : 0 ≤ q ∧ q ≤ 255 := by omega
      rw [hq]
      clear hq
      have ht := nTake_any px tx ox (.slice none 0 0) SX ⟨9, q, [], D⟩ ml w3 hT.x hm3 (SeqAt.nil _ _) hDs
      rw [open_echo hs9 q D hq2 hD100] at ht
      simp only [packCells] at ht
      refine ht.mono ?_
      rintro e w4 he
      obtain ⟨v4, l4, ox4, rfl, hl4, hq4, hT4, hO4, hm4⟩ := hT.act he
      obtain ⟨x4, rfl, hx4⟩ := one_of hq4
      obtain ⟨a4, c4, rfl, -, -⟩ := SeqAt.form hl4.1.at
      clear ht he
      go_wp2_with fail
      rw [i64_and127 code]
      obtain ⟨c, hc, hc1, hc2⟩ : ∃ c, wrap64 (12 + code % 128) = c ∧ 12 ≤ c ∧ c ≤ 139 := ⟨_, rfl, by (rw [IntWalk.wrap64_in _ ⟨by omega, by omega⟩]; omega), by (rw [IntWalk.wrap64_in _ ⟨by omega, by omega⟩]; omega)⟩
      rw [hc]
      clear hc
      have ht := nTake_any px tx ox4 (.slice none 0 0) SX ⟨c, q, [], D⟩ ml w4 hT4.x hm4 (SeqAt.nil _ _) hDs
      rw [open_refuse hs9 c q D ⟨hc1, hc2⟩ hq2 hD100] at ht
      obtain ⟨bd, hbd⟩ : ∃ bd, bytesOf ((controlM ⟨c, q, [], D⟩).1.take 64) = bd := ⟨_, rfl⟩
      have hbd64 : bd.size ≤ 64 := by rw [← hbd, bytesOf_size, List.length_take]; omega
      rw [hbd] at ht
      simp only [packCells] at ht
      refine ht.mono ?_
      rintro e w5 he
      obtain ⟨v5, l5, ox5, rfl, hl5, hq5, hT5, hO5, hm5⟩ := hT4.act he
      obtain ⟨x5, rfl, hx5⟩ := one_of hq5
      obtain ⟨a5, c5, rfl, -, -⟩ := SeqAt.form hl5.1.at
      obtain ⟨g5, rfl, hg5, hgl5, -, hc51, hc52, z0, -, -, z3⟩ := hl5.cells 0 (by simp)
      simp only [List.getElem_cons_zero, hx5] at z0 z3
      simp only [List.length_cons, List.length_nil, Nat.zero_add, Nat.zero_mul] at z0 z3 hc51 ⊢
      clear ht he hbd hq5 hx5
      have hs9' : (nextM SX).state = 9 := hs9
      have ht := nTake_any px tx ox5 (.slice none 0 0) (nextM SX) ⟨11, q, [], D⟩ ml w5 hT5.x hm5 (SeqAt.nil _ _) hDs
      rw [open_drop hs9' q D hq2 hD100] at ht
      simp only [packCells] at ht
      go_wp2_with fail
      refine ht.mono ?_
      rintro e w6 he
      obtain ⟨v6, l6, ox6, rfl, hl6, hq6, hT6, hO6, hm6⟩ := hT5.act he
      obtain rfl : l6 = [] := List.map_eq_nil_iff.1 hq6
      obtain ⟨a6, c6, rfl, -, -⟩ := SeqAt.form hl6.1.at
      clear ht he
      have hg5x : g5 ≠ px := by have := hT.pB.1; have := hO4.size; omega
      have k0 := hO6.cell (a := ⟨g5, 0, none⟩) z0 hg5x
      have k3 := hO6.cell (a := ⟨g5, 3, none⟩) z3 hg5x
      have hP4 : PacksOwn w6 w3.heap.size (.slice a4 [x4].length c4) [x4] := ((hl4.only hO5 (by have := hT.pB.1; omega)).only hO6 (by have := hT.pB.1; omega))
      have hst := fun w' (h : TwoAt w' B px tx py ty ox6 oy (nextM SX) SY) => state_any px tx ox6 _ w' h.x.blk
      rw [hs9'] at hst
      have hT6' : TwoAt w6 B px tx py ty ox6 oy (nextM SX) SY := hT6
      have hcc5 : c5 ≤ 9223372036854775807 := by unfold maxLen at hc52; omega
      have HBF : Hid (Below w.heap.size w w6) := Lib.hid (((Only.ofBelow (S := (· = px)) hBq).trans ((hO4.trans hO5).trans hO6)).below (Nat.le_refl _) (fun k e => by omega))
      have hsame := fun h => samepacks_any (.slice a4 [x4].length c4) (.slice (some ⟨w6.heap.size, 0, none⟩) 1 1) [x4] [(⟨10, q, [], D⟩, none, 0)] _ (hP4.at.below (allocB (Below.refl _ _) _)) (packs_one w6 ⟨10, q, [], D⟩ rfl) h
      have hsame2 := hsame (by rw [List.map_cons, List.map_cons, hx4])
      clear hsame hT hT4 hT5 hT6 hm3 hm4 hm5 hm6 hl4 hl5 hl6 hq4 hq6 hO4 hO5 hO6 z0 z3 hx4 hP4 hBq
      simp only [List.length_cons, List.length_nil, Nat.zero_add] at hsame2 ⊢
      go_wp2_with (go_at_call 13; refine (num_any _ _).mono ?_; rintro e w' ⟨rfl, rfl⟩)
      refine hsame2.mono ?_
      rintro e w7 ⟨rfl, hb7⟩
      have hB7 := seqB (allocB (Below.refl _ _) _) hb7
      have n0 := fsm_below_cell hB7 k0
      have n3 := fsm_below_cell hB7 k3
      have hT7 := hT6'.below hB7
      have HB7 : Hid (Below w.heap.size w w7) := Lib.hid (seqB HBF.out hB7)
      clear hsame2 hb7 hB7 k0 k3 HBF hT6'
      go_wp2_with (go_at_call 13; refine (num_any _ _).mono ?_; rintro e w' ⟨rfl, rfl⟩)
      refine (hst _ hT7).mono ?_
      rintro e w' ⟨rfl, rfl⟩
      go_wp2_with fail
      go_ret
      exact ⟨rfl, HB7.out⟩
    · obtain ⟨D, hD⟩ : ∃ D, data = D := ⟨_, rfl⟩
      have hD100 : D.size ≤ 100 := by rw [← hD]; omega
      rw [hD] at hbig ⊢
      have hDs : D.size ≤ 4611686018427387904 := by omega
      go_wp2_with fail
      rw [i64_and255 id]
      obtain ⟨q, hq⟩ : ∃ q, id % 256 = q := ⟨_, rfl⟩
      have hq2 : 0 ≤ q ∧ q ≤ 255 := by omega
      rw [hq]
      clear hq
      have ht := nTake_any px tx ox (.slice none 0 0) SX ⟨9, q, [], D⟩ ml w3 hT.x hm3 (SeqAt.nil _ _) hDs
      rw [open_echo hs9 q D hq2 hD100] at ht
      simp only [packCells] at ht
      refine ht.mono ?_
      rintro e w4 he
      obtain ⟨v4, l4, ox4, rfl, hl4, hq4, hT4, hO4, hm4⟩ := hT.act he
      obtain ⟨x4, rfl, hx4⟩ := one_of hq4
      obtain ⟨a4, c4, rfl, -, -⟩ := SeqAt.form hl4.1.at
      clear ht he
      go_wp2_with fail
      rw [i64_and127 code]
      obtain ⟨c, hc, hc1, hc2⟩ : ∃ c, wrap64 (12 + code % 128) = c ∧ 12 ≤ c ∧ c ≤ 139 := ⟨_, rfl, by (rw [IntWalk.wrap64_in _ ⟨by omega, by omega⟩]; omega), by (rw [IntWalk.wrap64_in _ ⟨by omega, by omega⟩]; omega)⟩
      rw [hc]
      clear hc
      have ht := nTake_any px tx ox4 (.slice none 0 0) SX ⟨c, q, [], D⟩ ml w4 hT4.x hm4 (SeqAt.nil _ _) hDs
      rw [open_refuse hs9 c q D ⟨hc1, hc2⟩ hq2 hD100] at ht
      obtain ⟨bd, hbd⟩ : ∃ bd, bytesOf ((controlM ⟨c, q, [], D⟩).1.take 64) = bd := ⟨_, rfl⟩
      have hbd64 : bd.size ≤ 64 := by rw [← hbd, bytesOf_size, List.length_take]; omega
      rw [hbd] at ht
      simp only [packCells] at ht
      refine ht.mono ?_
      rintro e w5 he
      obtain ⟨v5, l5, ox5, rfl, hl5, hq5, hT5, hO5, hm5⟩ := hT4.act he
      obtain ⟨x5, rfl, hx5⟩ := one_of hq5
      obtain ⟨a5, c5, rfl, -, -⟩ := SeqAt.form hl5.1.at
      obtain ⟨g5, rfl, hg5, hgl5, -, hc51, hc52, z0, -, -, z3⟩ := hl5.cells 0 (by simp)
      simp only [List.getElem_cons_zero, hx5] at z0 z3
      simp only [List.length_cons, List.length_nil, Nat.zero_add, Nat.zero_mul] at z0 z3 hc51 ⊢
      clear ht he hbd hq5 hx5
      have hs9' : (nextM SX).state = 9 := hs9
      have ht := nTake_any px tx ox5 (.slice none 0 0) (nextM SX) ⟨11, q, [], D⟩ ml w5 hT5.x hm5 (SeqAt.nil _ _) hDs
      rw [open_drop hs9' q D hq2 hD100] at ht
      simp only [packCells] at ht
      go_wp2_with fail
      refine ht.mono ?_
      rintro e w6 he
      obtain ⟨v6, l6, ox6, rfl, hl6, hq6, hT6, hO6, hm6⟩ := hT5.act he
      obtain rfl : l6 = [] := List.map_eq_nil_iff.1 hq6
      obtain ⟨a6, c6, rfl, -, -⟩ := SeqAt.form hl6.1.at
      clear ht he
      have hg5x : g5 ≠ px := by have := hT.pB.1; have := hO4.size; omega
      have k0 := hO6.cell (a := ⟨g5, 0, none⟩) z0 hg5x
      have k3 := hO6.cell (a := ⟨g5, 3, none⟩) z3 hg5x
      have hP4 : PacksOwn w6 w3.heap.size (.slice a4 [x4].length c4) [x4] := ((hl4.only hO5 (by have := hT.pB.1; omega)).only hO6 (by have := hT.pB.1; omega))
      have hst := fun w' (h : TwoAt w' B px tx py ty ox6 oy (nextM SX) SY) => state_any px tx ox6 _ w' h.x.blk
      rw [hs9'] at hst
      have hT6' : TwoAt w6 B px tx py ty ox6 oy (nextM SX) SY := hT6
      have hcc5 : c5 ≤ 9223372036854775807 := by unfold maxLen at hc52; omega
      have HBF : Hid (Below w.heap.size w w6) := Lib.hid (((Only.ofBelow (S := (· = px)) hBq).trans ((hO4.trans hO5).trans hO6)).below (Nat.le_refl _) (fun k e => by omega))
      have hsame := fun h => samepacks_any (.slice a4 [x4].length c4) (.slice (some ⟨w6.heap.size, 0, none⟩) 1 1) [x4] [(⟨10, q, [], D⟩, none, 0)] _ (hP4.at.below (allocB (Below.refl _ _) _)) (packs_one w6 ⟨10, q, [], D⟩ rfl) h
      have hsame2 := hsame (by rw [List.map_cons, List.map_cons, hx4])
      clear hsame hT hT4 hT5 hT6 hm3 hm4 hm5 hm6 hl4 hl5 hl6 hq4 hq6 hO4 hO5 hO6 z0 z3 hx4 hP4 hBq
      simp only [List.length_cons, List.length_nil, Nat.zero_add] at hsame2 ⊢
      go_wp2_with (go_at_call 13; refine (num_any _ _).mono ?_; rintro e w' ⟨rfl, rfl⟩)
      refine hsame2.mono ?_
      rintro e w7 ⟨rfl, hb7⟩
      have hB7 := seqB (allocB (Below.refl _ _) _) hb7
      have n0 := fsm_below_cell hB7 k0
      have n3 := fsm_below_cell hB7 k3
      have hT7 := hT6'.below hB7
      have HB7 : Hid (Below w.heap.size w w7) := Lib.hid (seqB HBF.out hB7)
      clear hsame2 hb7 hB7 k0 k3 HBF hT6'
      go_wp2_with (go_at_call 13; refine (num_any _ _).mono ?_; rintro e w' ⟨rfl, rfl⟩)
      refine (hst _ hT7).mono ?_
      rintro e w' ⟨rfl, rfl⟩
      go_wp2_with fail
      go_ret
      exact ⟨rfl, HB7.out⟩
end Go.Proofs.YtagnbdenecphcaaDoor
