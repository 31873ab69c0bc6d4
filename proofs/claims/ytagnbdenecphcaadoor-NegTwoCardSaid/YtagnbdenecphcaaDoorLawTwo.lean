/- NegTwo, walked. -/
import Derived.Test.YtagnbdenecphcaaDoorLawCloses
import Derived.Test.YtagnbdenecphcaaDoorLinkEq
import Derived.Laws.Bits128
import Derived.Deep.CutRange
import Derived.Deep.DeepCutAuto
namespace Go.Proofs.YtagnbdenecphcaaDoor
open Go.RowKit
set_option linter.unusedVariables false
set_option linter.unusedSimpArgs false
theorem i64_and1 (n : Int) : bits .and .i64 n 1 = n % 2 := by
  have := i64_low n 1 (by decide)
  rw [show ((2 ^ 1 - 1 : Nat) : Int) = 1 from rfl, show ((2 ^ 1 : Nat) : Int) = 2 from rfl] at this
  exact this
/-- the wires: a row of two slices -/
def Wires (w : World) (b : Nat) (v0 v1 : Value) : Prop := w.heap[b]? = some (.cells #[v0, v1] 50 (0, 0))
theorem Wires.c0 {w : World} {b : Nat} {v0 v1 : Value} (h : Wires w b v0 v1) : w.cell? ⟨b, 0, none⟩ = some v0 := by unfold Wires at h; simp [World.cell?, h]
theorem Wires.c1 {w : World} {b : Nat} {v0 v1 : Value} (h : Wires w b v0 v1) : w.cell? ⟨b, 1, none⟩ = some v1 := by unfold Wires at h; simp [World.cell?, h]
theorem Wires.f {w : World} {b : Nat} {v0 v1 : Value} (h : Wires w b v0 v1) (i : Nat) : w.frozen? ⟨b, i, none⟩ = false := by unfold Wires at h; simp [World.frozen?, h]
theorem Wires.only {S : Nat → Prop} {w w' : World} {b : Nat} {v0 v1 : Value} (h : Wires w b v0 v1) (ho : Only S w w') (hn : ¬ S b) : Wires w' b v0 v1 := ho.heap h hn
theorem Wires.set1 {w : World} {b : Nat} {v0 v1 : Value} (h : Wires w b v0 v1) (v : Value) : Wires (w.setCell ⟨b, 1, none⟩ v) b v0 v := heap_setCell_same w b 1 _ _ v h
theorem Wires.set0 {w : World} {b : Nat} {v0 v1 : Value} (h : Wires w b v0 v1) (v : Value) : Wires (w.setCell ⟨b, 0, none⟩ v) b v v1 := heap_setCell_same w b 0 _ _ v h
theorem opt_wire {w : World} {b : Nat} {v0 v1 o : Value} (h : OptBlk w o) (hw : Wires w b v0 v1) : ∀ k, o.ownBlock = some k → ¬ k = b := by
  intro k hk e
  subst e
  obtain ⟨cs, fz, hh⟩ := h k hk
  unfold Wires at hw
  rw [hw] at hh
  simp only [Option.some.injEq, Obj.cells.injEq] at hh
  exact absurd hh.2.1 (by decide)
theorem two_alloc {w : World} {px py : Nat} {W : World} (hW : (w.alloc (.cells #[.pointer (some ⟨px, 0, none⟩), .pointer (some ⟨py, 0, none⟩)] 26)).alloc (.cells #[.slice none 0 0, .slice none 0 0] 50) = W) :
    W.heap.size = w.heap.size + 2 ∧ Wires W (w.heap.size + 1) (.slice none 0 0) (.slice none 0 0) ∧ W.cell? ⟨w.heap.size, 0, none⟩ = some (.pointer (some ⟨px, 0, none⟩)) ∧ W.cell? ⟨w.heap.size, 1, none⟩ = some (.pointer (some ⟨py, 0, none⟩)) ∧ Below w.heap.size w W := by
  subst hW
  have hs : (w.alloc (.cells #[.pointer (some ⟨px, 0, none⟩), .pointer (some ⟨py, 0, none⟩)] 26)).heap.size = w.heap.size + 1 := by simp
  refine ⟨by simp, ?_, ?_, ?_, allocB (allocB (Below.refl _ _) _) _⟩
  · unfold Wires; rw [← hs]; exact heap_alloc_last _ _
  · exact fsm_below_cell (allocB (Below.refl _ _) _) (by rw [World.cell?_alloc_new]; rfl)
  · exact fsm_below_cell (allocB (Below.refl _ _) _) (by rw [World.cell?_alloc_new]; rfl)
theorem stepG_y {ls ms : Bool} {g g' : SyG} {p : SyP} {r : List SyP} (h : g.toy = p :: r) (hs : stepG ls ms g true = some g') : ∃ y out, takeS ms ls g.y p = some (y, out) ∧ g' = ⟨g.x, y, g.tox ++ out, r⟩ := by
  have h1 : sideG g true = true := by unfold sideG; rw [if_pos rfl, h]; rfl
  unfold stepG at hs
  rw [h1, if_pos rfl, h] at hs
  dsimp only at hs
  cases hk : takeS ms ls g.y p with
  | none => rw [hk] at hs; cases hs
  | some X => obtain ⟨y, out⟩ := X; rw [hk] at hs; exact ⟨y, out, rfl, (Option.some.inj hs).symm⟩
theorem stepG_x {ls ms : Bool} {g g' : SyG} {p : SyP} {r : List SyP} (h : g.tox = p :: r) (hs : stepG ls ms g false = some g') : ∃ x out, takeS ls ms g.x p = some (x, out) ∧ g' = ⟨x, g.y, r, g.toy ++ out⟩ := by
  have h1 : sideG g false = false := by unfold sideG; rw [if_neg (by simp), h]; rfl
  unfold stepG at hs
  rw [h1, if_neg (by simp), h] at hs
  dsimp only at hs
  cases hk : takeS ls ms g.x p with
  | none => rw [hk] at hs; cases hs
  | some X => obtain ⟨x, out⟩ := X; rw [hk] at hs; exact ⟨x, out, rfl, (Option.some.inj hs).symm⟩
theorem addr_add (g o n : Nat) : (⟨g, o, none⟩ : Addr).add n = ⟨g, o + n, none⟩ := by unfold Addr.add; split <;> simp_all
/-- a row without its first -/
theorem tail_at {w : World} {b gb n c : Nat} {y0 : PackV} {l : List PackV} (h : OwnE packE w b (.slice (some ⟨gb, 0, none⟩) n c) (y0 :: l)) (hn : n = l.length + 1) : SeqAt packE w (.slice (if c = 1 then some ⟨gb, 0, none⟩ else some ⟨gb, 4, none⟩) (n - 1) (c - 1)) l := by
  rcases OwnE.at h with ⟨h0, _⟩ | ⟨g, o, c', hv, h1, h2, hg, hc⟩
  · cases h0
  · cases hv
    rw [List.length_cons] at h1
    have e1 : (y0 :: l).length - 1 = l.length := by simp
    rw [e1]
    by_cases hc1 : c = 1
    · rw [if_pos hc1]
      have : l = [] := List.eq_nil_of_length_eq_zero (by omega)
      subst this
      exact .inr ⟨gb, 0, c - 1, rfl, by simp, by omega, hg, fun j hj => absurd hj (by simp)⟩
    · rw [if_neg hc1]
      refine .inr ⟨gb, 4, c - 1, rfl, by omega, by omega, hg, fun j hj i hi => ?_⟩
      have := hc (j + 1) (by rw [List.length_cons]; omega) i hi
      rw [List.getElem_cons_succ] at this
      rw [← this]
      congr 2
      show 4 + j * 4 + i = 0 + (j + 1) * 4 + i
      omega
theorem row_fresh {w : World} {b : Nat} {v : Value} {l : List PackV} (h : PacksOwn w b v l) (n : Nat) (hn : w.heap.size ≤ n) : ∀ k, v.ownBlock = some k → (Value.slice (some ⟨n, 0, none⟩) 0 0).ownBlock ≠ some k := by
  intro k hk e
  have h1 := SeqAt.lt h.1.at k hk
  have h2 : n = k := Option.some.inj e
  omega
/-- a packet's box, a row without packets -/
theorem box_alloc {w W : World} {NB : Nat} {x0 x1 x2 x3 : Value} (hW : (w.alloc (.cells #[x0, x1, x2, x3] 41)).alloc (.cells #[] 41) = W) (hs : NB + 2 ≤ w.heap.size) :
    W.heap.size = w.heap.size + 2 ∧ Below w.heap.size w W ∧ OwnE packE W (NB + 2) (.slice (some ⟨w.heap.size + 1, 0, none⟩) 0 0) [] ∧ W.cell? ⟨w.heap.size, 0, none⟩ = some x0 ∧ W.cell? ⟨w.heap.size, 1, none⟩ = some x1 ∧ W.cell? ⟨w.heap.size, 2, none⟩ = some x2 ∧ W.cell? ⟨w.heap.size, 3, none⟩ = some x3 := by
  subst hW
  have h1 : (w.alloc (.cells #[x0, x1, x2, x3] 41)).heap.size = w.heap.size + 1 := by simp
  have hb : Below (w.alloc (.cells #[x0, x1, x2, x3] 41)).heap.size (w.alloc (.cells #[x0, x1, x2, x3] 41)) ((w.alloc (.cells #[x0, x1, x2, x3] 41)).alloc (.cells #[] 41)) := allocB (Below.refl _ _) _
  refine ⟨by simp, allocB (allocB (Below.refl _ _) _) _, ⟨rfl, .inr ⟨w.heap.size + 1, 0, #[], rfl, by omega, ?_, Nat.le_refl _, by decide, rfl, rfl⟩⟩, ?_, ?_, ?_, ?_⟩
  · rw [← h1]; exact heap_alloc_last _ _
  · exact fsm_below_cell hb (by rw [World.cell?_alloc_new]; rfl)
  · exact fsm_below_cell hb (by rw [World.cell?_alloc_new]; rfl)
  · exact fsm_below_cell hb (by rw [World.cell?_alloc_new]; rfl)
  · exact fsm_below_cell hb (by rw [World.cell?_alloc_new]; rfl)
/-- a row grew, and was laid into the wires -/
theorem wire_step {S : Nat → Prop} {w8 w9 W6 : World} {NB px tx py ty b' : Nat} {ox oy v v9 vo v0 v1 : Value} {sx sy : NegM} {l l2 lo : List PackV} {ml : Int} (i : Nat) (hT : TwoAt w8 NB px tx py ty ox oy sx sy) (hw : Wires w8 (NB + 1) v0 v1) (h : PacksOwn w8 (NB + 2) v l) (h2 : ∀ y ∈ l2, OwnE optE w8 b' (slOf y) y.1.opts) (hb : NB + 2 ≤ b') (ho : PacksOwn w8 (NB + 2) vo lo) (hne : ∀ k, vo.ownBlock = some k → v.ownBlock ≠ some k) (hm : MaxLenIs w8 ml) (hg : 0 < NB)
    (h9 : OwnE packE w9 (NB + 2) v9 (l ++ l2)) (hO9 : Only (fun k => v.ownBlock = some k) w8 w9) (hat : v9.ownBlock = v.ownBlock ∨ ∃ k, v9.ownBlock = some k ∧ w8.heap.size ≤ k) (hW : W6.heap.size = NB + 2) (hO : Only S W6 w8) (hS : S (NB + 1)) :
    Wires w9 (NB + 1) v0 v1 ∧ PacksOwn (w9.setCell ⟨NB + 1, i, none⟩ v9) (NB + 2) v9 (l ++ l2) ∧ PacksOwn (w9.setCell ⟨NB + 1, i, none⟩ v9) (NB + 2) vo lo ∧ (∀ k, vo.ownBlock = some k → v9.ownBlock ≠ some k) ∧ TwoAt (w9.setCell ⟨NB + 1, i, none⟩ v9) NB px tx py ty ox oy sx sy ∧ MaxLenIs (w9.setCell ⟨NB + 1, i, none⟩ v9) ml ∧ Only S W6 (w9.setCell ⟨NB + 1, i, none⟩ v9) := by
  have hbk := h.1.block
  have hw9 : Wires w9 (NB + 1) v0 v1 := hw.only hO9 (fun e => by have := hbk _ e; omega)
  have hset : Only (· = NB + 1) w9 (w9.setCell ⟨NB + 1, i, none⟩ v9) := Only.set (S := (· = NB + 1)) (Only.refl _ _) (.inl rfl) _
  have hp9 : PacksOwn w9 (NB + 2) v9 (l ++ l2) := by
    refine ⟨h9, fun y hy => ?_⟩
    rcases List.mem_append.1 hy with hy | hy
    · exact (h.2 y hy).only hO9 fun k hk e => own_ne opt_pack_ne (h.2 y hy) h.1 k hk e
    · exact ((h2 y hy).only hO9 fun k hk e => own_ne opt_pack_ne (h2 y hy) h.1 k hk e).base hb
  have ho9 : PacksOwn w9 (NB + 2) vo lo := ho.apart h.1 hne hO9
  have hT9 : TwoAt w9 NB px tx py ty ox oy sx sy := hT.grow h.1 (by omega) hO9
  refine ⟨hw9, hp9.only hset (by omega), ho9.only hset (by omega), ?_, hT9.only hset (fun k hk e => by omega) (opt_wire hT9.xb hw9) (opt_wire hT9.yb hw9), ?_, ?_⟩
  · intro k hk e
    rcases hat with h' | ⟨q, h', hq⟩
    · exact hne k hk (by rw [← h']; exact e)
    · rw [h'] at e
      cases e
      have := SeqAt.lt ho.1.at k hk
      omega
  · exact maxLen_only (maxLen_only hm hO9 (fun e => by have := hbk _ e; omega)) hset (by omega)
  · exact ((hO.and hO9 (fun k e => .inr (by have := hbk _ e; omega))).and hset (fun k e => .inl (by rw [e]; exact hS)))
set_option maxRecDepth 100000 in
set_option maxHeartbeats 32000000 in
theorem two_walk (l m : LinkM) (pa : Option Addr) (len cap : Nat) (zs : List Int) (ml : Int) (w : World) (hml : MaxLenIs w ml) (hin : IsRow .i64 w pa len cap zs) :
    Calls Tryd.prog 9 #[.agg (linkCells l), .agg (linkCells m), .slice pa len cap] w fun e w' => e = .returned (.bool true) ∧ Below w.heap.size w w' := by
  have hB : Below w.heap.size w ((w.alloc (.cells (linkCells l) 23)).alloc (.cells (linkCells m) 23)) := allocB (allocB (Below.refl _ _) _) _
  have hh1 := below_of (allocB (Below.refl _ (w.alloc (.cells (linkCells l) 23))) (.cells (linkCells m) 23)) (link_new w l)
  have hh2 := link_new (w.alloc (.cells (linkCells l) 23)) m
  rw [show (w.alloc (.cells (linkCells l) 23)).heap.size = w.heap.size + 1 by simp] at hh2
  have haw := awake_any ml _ (hml.below hB)
  have hmW := hml.below hB
  have hr1 := fun w => rmay_any l w
  have hr2 := fun w => rmay_any m w
  obtain ⟨b1, hb1⟩ : ∃ b, mayM l = b := ⟨_, rfl⟩
  obtain ⟨b2, hb2⟩ : ∃ b, mayM m = b := ⟨_, rfl⟩
  rw [hb1] at hr1
  rw [hb2] at hr2
  have hnx := fun W (hW : MaxLenIs W ml) (hl : mayM l = true) => new_side l 10 ml W hW hl (by decide) (by decide)
  have hny := fun W (hW : MaxLenIs W ml) (hm : mayM m = true) => new_side m 10 ml W hW hm (by decide) (by decide)
  unfold linkCells at hB hh1 hh2 haw hmW hr1 hr2 hnx hny ⊢
  obtain ⟨W, hW⟩ : ∃ W, (w.alloc (.cells #[.int .i64 l.mru, .int .i64 l.magic, .int .i64 l.mrru, .bool l.short, .string l.disc, .int .i64 l.num] 23)).alloc (.cells #[.int .i64 m.mru, .int .i64 m.magic, .int .i64 m.mrru, .bool m.short, .string m.disc, .int .i64 m.num] 23) = W := ⟨_, rfl⟩
  rw [hW] at hB hh1 hh2 haw hmW
  go_enter Tryd.func9, Tryd.ntmps9
  go_wp2_with fail
  refine haw.mono ?_
  rintro e w1 ⟨rfl, hbw⟩
  have hB1 := seqB hB hbw
  have hm1 := hmW.below hbw
  replace hh1 := below_of hbw hh1
  replace hh2 := below_of hbw hh2
  obtain ⟨c0, c1, c2, c3, c4, c5⟩ := link_cells (l := l) hh1
  obtain ⟨d0, d1, d2, d3, d4, d5⟩ := link_cells (l := m) hh2
  clear hW haw hbw hB hmW
  cases b1 with
  | false =>
    go_wp2_with (go_at_call 14; refine (hr1 _).mono ?_; rintro e w2 ⟨rfl, hbr⟩)
    go_ret
    exact ⟨rfl, seqB hB1 hbr⟩
  | true =>
    cases b2 with
    | false =>
      go_wp2_with fail
      refine (hr1 _).mono ?_
      rintro e w2 ⟨rfl, hbr⟩
      have e0 := fsm_below_cell hbr d0
      have e1 := fsm_below_cell hbr d1
      have e2 := fsm_below_cell hbr d2
      have e3 := fsm_below_cell hbr d3
      have e4 := fsm_below_cell hbr d4
      have e5 := fsm_below_cell hbr d5
      have hB2 := seqB hB1 hbr
      clear c0 c1 c2 c3 c4 c5 d0 d1 d2 d3 d4 d5
      go_wp2_with fail
      refine (hr2 _).mono ?_
      rintro e w3 ⟨rfl, hbr3⟩
      go_wp2_with fail
      go_ret
      exact ⟨rfl, seqB hB2 hbr3⟩
    | true =>
      by_cases h0 : l.magic = 0
      · have hno : ¬ (l.magic ≠ 0 ∧ l.magic = m.magic) := by omega
        obtain ⟨hf1, hf2⟩ := far_both hno
        have hnx2 := fun W h => hnx W h hb1
        have hny2 := fun W h => hny W h hb2
        clear hnx hny hno
        have hq0 : (l.magic != 0) = false := by simp [h0]
        clear h0
        go_wp2_with fail
        refine (hr1 _).mono ?_
        rintro e w2 ⟨rfl, hbr⟩
        have e0 := fsm_below_cell hbr d0
        have e1 := fsm_below_cell hbr d1
        have e2 := fsm_below_cell hbr d2
        have e3 := fsm_below_cell hbr d3
        have e4 := fsm_below_cell hbr d4
        have e5 := fsm_below_cell hbr d5
        have f0 := fsm_below_cell hbr c0
        have f1 := fsm_below_cell hbr c1
        have f2 := fsm_below_cell hbr c2
        have f3 := fsm_below_cell hbr c3
        have f4 := fsm_below_cell hbr c4
        have f5 := fsm_below_cell hbr c5
        have hB2 := seqB hB1 hbr
        have hm2 := hm1.below hbr
        clear c0 c1 c2 c3 c4 c5 d0 d1 d2 d3 d4 d5 hm1 hbr hB1
        go_wp2_with fail
        refine (hr2 _).mono ?_
        rintro e w3 ⟨rfl, hbr3⟩
        replace e0 := fsm_below_cell hbr3 e0
        replace e1 := fsm_below_cell hbr3 e1
        replace e2 := fsm_below_cell hbr3 e2
        replace e3 := fsm_below_cell hbr3 e3
        replace e4 := fsm_below_cell hbr3 e4
        replace e5 := fsm_below_cell hbr3 e5
        replace f0 := fsm_below_cell hbr3 f0
        replace f1 := fsm_below_cell hbr3 f1
        replace f2 := fsm_below_cell hbr3 f2
        replace f3 := fsm_below_cell hbr3 f3
        replace f4 := fsm_below_cell hbr3 f4
        replace f5 := fsm_below_cell hbr3 f5
        replace hB2 := seqB hB2 hbr3
        replace hm2 := hm2.below hbr3
        clear hbr3 hh1 hh2
        go_wp2_with fail
        refine (hnx2 _ hm2).mono ?_
        rintro e w4 ⟨px, tx, rfl, hsx1, hp1, hmx, hbx⟩
        replace e0 := fsm_below_cell hbx e0
        replace e1 := fsm_below_cell hbx e1
        replace e2 := fsm_below_cell hbx e2
        replace e3 := fsm_below_cell hbx e3
        replace e4 := fsm_below_cell hbx e4
        replace e5 := fsm_below_cell hbx e5
        have hB3 := seqB hB2 hbx
        go_wp2_with fail
        refine (hny2 _ hmx).mono ?_
        rintro e w5 ⟨py, ty, rfl, hsy2, hp2, hmy, hby⟩
        have hT2 := two_new hsx1 hsy2 hby hp2
        have hB5 := seqB hB3 hby
        have hpw1 : w.heap.size ≤ px := Nat.le_trans hB2.size hp1
        have hpw2 : w.heap.size ≤ py := Nat.le_trans hB3.size hp2
        clear hnx2 hny2 e0 e1 e2 e3 e4 e5 f0 f1 f2 f3 f4 f5 hm2 hr1 hr2 hsx1 hsy2 hbx hby hB2 hB3 hmx
        go_wp2_with (go_at_call 13; refine (num_any _ _).mono ?_; rintro e w' ⟨rfl, rfl⟩)
        obtain ⟨W6, hW6⟩ : ∃ W6, (w5.alloc (.cells #[.pointer (some ⟨px, 0, none⟩), .pointer (some ⟨py, 0, none⟩)] 26)).alloc (.cells #[.slice none 0 0, .slice none 0 0] 50) = W6 := ⟨_, rfl⟩
        obtain ⟨hsz, hwi, n0, n1, hb6⟩ := two_alloc hW6
        have hB6 := seqB hB5 hb6
        have hT6 := hT2.below hb6
        have hm6 := hmy.below hb6
        obtain ⟨NB, hNB⟩ : ∃ NB, w5.heap.size = NB := ⟨_, rfl⟩
        rw [hW6]
        rw [hNB] at hsz hwi n0 n1 hT6 ⊢
        have hwN : w.heap.size ≤ NB := by rw [← hNB]; exact hB5.size
        have hgN0 : 0 < NB := by have := block_lt_of_cell hml; dsimp only at this; omega
        clear hW6 hb6 hT2 hmy hB5 hNB
        go_loopw [13] (fun i wr => MaxLenIs wr ml ∧ Only (fun b => b = px ∨ b = py ∨ b = NB + 1) W6 wr ∧ ((i = .int .i64 0 ∧ wr = W6) ∨ (i = .int .i64 1 ∧ ∃ v1 ly ox, Wires wr (NB + 1) (.slice none 0 0) v1 ∧ PacksOwn wr (NB + 2) v1 ly ∧ Hid (ly.map (·.1) = [concP l m ⟨1, 1, false⟩]) ∧ TwoAt wr NB px tx py ty ox (.slice none 0 0) (concN l m (upS 10)) (newM m 10)) ∨ (i = .int .i64 2 ∧ ∃ v0 v1 lx ly ox oy, Wires wr (NB + 1) v0 v1 ∧ PacksOwn wr (NB + 2) v0 lx ∧ Hid (lx.map (·.1) = [concP m l ⟨1, 1, false⟩]) ∧ PacksOwn wr (NB + 2) v1 ly ∧ Hid (ly.map (·.1) = [concP l m ⟨1, 1, false⟩]) ∧ (∀ k, v0.ownBlock = some k → v1.ownBlock ≠ some k) ∧ TwoAt wr NB px tx py ty ox oy (concN l m (upS 10)) (concN m l (upS 10))))) (fun i _ => 3 - (intOf i).toNat)
        case atStart => exact ⟨hm6, Only.refl _ _, .inl ⟨rfl, rfl⟩⟩
        case round =>
          obtain ⟨hmr, hOr, hcase⟩ := hrel
          have hpB := hT6.pB
          have hN0 : ¬ (NB = px ∨ NB = py ∨ NB = NB + 1) := by omega
          have r0 := hOr.cell (a := ⟨NB, 0, none⟩) n0 hN0
          have r1 := hOr.cell (a := ⟨NB, 1, none⟩) n1 hN0
          have hszr := hOr.size
          have hgN : 0 < NB := hgN0
          rcases hcase with ⟨rfl, hwe⟩ | ⟨rfl, v1, ly, ox, hwr, hly, HLY, hTr⟩ | ⟨rfl, v0, v1, lx, ly, ox, oy, hwr, hlx, HLX, hly, HLY, hne, hTr⟩
          · have hTw : TwoAt wr NB px tx py ty (.slice none 0 0) (.slice none 0 0) (newM l 10) (newM m 10) := by rw [hwe]; exact hT6
            have hww : Wires wr (NB + 1) (.slice none 0 0) (.slice none 0 0) := by rw [hwe]; exact hwi
            clear hwe
            have hd := nDo_any px tx (.slice none 0 0) _ 2 ml wr hTw.x hmr
            rw [quit_open] at hd
            go_wp2_with fail
            refine hd.mono ?_
            rintro e w7 he
            obtain ⟨v7, l7, ox7, rfl, -, -, hT7, hO7, hm7⟩ := hTw.act he
            have s0 := hO7.cell (a := ⟨NB, 0, none⟩) r0 (by show ¬ NB = px; omega)
            clear hd he
            have hd := nDo_any px tx ox7 _ 0 ml w7 hT7.x hm7
            rw [quit_up l 10 (by decide), up_quit l m, up_pack l m] at hd
            go_wp2_with fail
            refine hd.mono ?_
            rintro e w8 he
            obtain ⟨v8, ly8, ox8, rfl, hl8, hq8, hT8, hO8, hm8⟩ := hT7.act he
            obtain ⟨x8, rfl, hx8⟩ := one_of hq8
            obtain ⟨a8, c8, rfl, -, -⟩ := SeqAt.form hl8.1.at
            have hO78 : Only (· = px) wr w8 := hO7.trans hO8
            have hw8 := hww.only hO78 (by show ¬ NB + 1 = px; omega)
            have y0 := hw8.c1
            have hO68 : Only (fun b => b = px ∨ b = py ∨ b = NB + 1) W6 w8 := hOr.trans (hO78.mono fun _ _ h => .inl h)
            have hs8 := hO68.size
            have hs7 : NB + 2 ≤ w7.heap.size := by have := hO7.size; omega
            have HQ8 := Lib.hid hq8
            simp only [List.length_cons, List.length_nil, Nat.zero_add]
            clear hd he hT7 hm7 hq8 hx8 s0
            go_wp2_with (at_builtin; go_loud (refine wpList_appPs rfl _ _ rfl (NB + 2) (by omega) (.slice none 0 0) (.slice a8 [x8].length c8) [] [x8] (OwnE.nil _ _ _) hl8.1.at rfl rfl (by simp) ?_; intro v9 w9 hv9 ho9 hat9; obtain ⟨a9, c9, rfl, -, -⟩ := SeqAt.form hv9.at; obtain ⟨hw9, hp9, hpo9, hne9, hT9, hm9, hO9⟩ := wire_step 1 hT8 hw8 ⟨OwnE.nil _ _ _, fun x hx => absurd hx (by simp)⟩ hl8.2 hs7 ⟨OwnE.nil _ _ _, fun x hx => absurd hx (by simp)⟩ (vo := .slice none 0 0) (lo := []) (fun k hk => by cases hk) hm8 hgN hv9 ho9 hat9 hsz hO68 (.inr (.inr rfl)); have u0 := hw9.c1; have u1 := hw9.f 1))
            go_roundw
            case rel => exact ⟨hm9, hO9, .inr (.inl ⟨by simp [go_sem], _, _, ox8, hw9.set1 _, hp9, HQ8, hT9⟩)⟩
            case measure => simp [intOf]
          · have hd := nDo_any py ty (.slice none 0 0) _ 2 ml wr hTr.swap.x hmr
            rw [quit_open] at hd
            go_wp2_with fail
            refine hd.mono ?_
            rintro e w7 he
            obtain ⟨v7, l7, ox7, rfl, -, -, hT7, hO7, hm7⟩ := hTr.swap.act he
            have s0 := hO7.cell (a := ⟨NB, 1, none⟩) r1 (by show ¬ NB = py; omega)
            clear hd he
            have hd := nDo_any py ty ox7 _ 0 ml w7 hT7.x hm7
            rw [quit_up m 10 (by decide), up_quit m l, up_pack m l] at hd
            go_wp2_with fail
            refine hd.mono ?_
            rintro e w8 he
            obtain ⟨v8, ly8, ox8, rfl, hl8, hq8, hT8, hO8, hm8⟩ := hT7.act he
            obtain ⟨x8, rfl, hx8⟩ := one_of hq8
            obtain ⟨a8, c8, rfl, -, -⟩ := SeqAt.form hl8.1.at
            have hO78 : Only (· = py) wr w8 := hO7.trans hO8
            have hw8 := hwr.only hO78 (by show ¬ NB + 1 = py; omega)
            have y0 := hw8.c0
            have hO68 : Only (fun b => b = px ∨ b = py ∨ b = NB + 1) W6 w8 := hOr.trans (hO78.mono fun _ _ h => .inr (.inl h))
            have hs8 := hO68.size
            have hs7 : NB + 2 ≤ w7.heap.size := by have := hO7.size; omega
            have HQ8 := Lib.hid hq8
            simp only [List.length_cons, List.length_nil, Nat.zero_add]
            clear hd he hT7 hm7 hq8 hx8 s0
            go_wp2_with (at_builtin; go_loud (refine wpList_appPs rfl _ _ rfl (NB + 2) (by omega) (.slice none 0 0) (.slice a8 [x8].length c8) [] [x8] (OwnE.nil _ _ _) hl8.1.at rfl rfl (by simp) ?_; intro v9 w9 hv9 ho9 hat9; obtain ⟨a9, c9, rfl, -, -⟩ := SeqAt.form hv9.at; obtain ⟨hw9, hp9, hpo9, hne9, hT9, hm9, hO9⟩ := wire_step 0 hT8.swap hw8 ⟨OwnE.nil _ _ _, fun x hx => absurd hx (by simp)⟩ hl8.2 hs7 (hly.only hO78 (by omega)) (fun k hk => by intro e; cases e) hm8 hgN hv9 ho9 hat9 hsz hO68 (.inr (.inr rfl)); have u0 := hw9.c0; have u1 := hw9.f 0))
            go_roundw
            case rel => exact ⟨hm9, hO9, .inr (.inr ⟨by simp [go_sem], _, v1, _, ly, ox, ox8, hw9.set0 _, hp9, HQ8, hpo9, HLY, (fun k hk e => hne9 k e hk), hT9⟩)⟩
            case measure => simp [intOf]
          · go_wp2_with fail
            go_loopw [16] (fun i wr => ∃ (n : Nat) (g : SyG) (v0 v1 : Value) (lx ly : List PackV) (ox oy : Value), i = .int .i64 (n : Nat) ∧ Hid (AtG l.short m.short 10 n g) ∧ Wires wr (NB + 1) v0 v1 ∧ PacksOwn wr (NB + 2) v0 lx ∧ Hid (lx.map (·.1) = g.tox.map (concP m l)) ∧ PacksOwn wr (NB + 2) v1 ly ∧ Hid (ly.map (·.1) = g.toy.map (concP l m)) ∧ Hid (∀ k, v0.ownBlock = some k → v1.ownBlock ≠ some k) ∧ TwoAt wr NB px tx py ty ox oy (concN l m g.x) (concN m l g.y) ∧ MaxLenIs wr ml ∧ Only (fun b => b = px ∨ b = py ∨ b = NB + 1) W6 wr) (fun i _ => 40 - (intOf i).toNat)
            case atStart => exact ⟨0, initG 10, v0, v1, lx, ly, ox, oy, rfl, Lib.hid (atG_init _ _ _), hwr, hlx, HLX, hly, HLY, Lib.hid hne, hTr, hmr, hOr⟩
            case round =>
              clear hTr hwr hlx hly hne hmr hOr r0 r1 hszr HLX HLY
              obtain ⟨n, g, v0, v1, lx, ly, ox, oy, rfl, HAT, hwr, hlx, HLX, hly, HLY, HNE, hTr, hmr, hOr⟩ := hrel
              obtain ⟨hn40, hok⟩ := two_ok _ _ HAT.out
              have HOK := Lib.hid hok
              obtain ⟨hfx, hfy⟩ := ok_few hok
              clear hok
              obtain ⟨a0, c0, rfl, hc01, hc02⟩ := SeqAt.form hlx.1.at
              obtain ⟨a1, c1, rfl, hc11, hc12⟩ := SeqAt.form hly.1.at
              have q0 := hwr.c0
              have q1 := hwr.c1
              have r0 := hOr.cell (a := ⟨NB, 0, none⟩) n0 hN0
              have r1 := hOr.cell (a := ⟨NB, 1, none⟩) n1 hN0
              have hszr := hOr.size
              have hNs : NB + 1 < wr.heap.size := by omega
              have hNs0 : NB < wr.heap.size := by omega
              have hly1 : ly.length = g.toy.length := by have := congrArg List.length HLY.out; simpa using this
              have hlx1 : lx.length = g.tox.length := by have := congrArg List.length HLX.out; simpa using this
              obtain ⟨ny, hny⟩ : ∃ n, ly.length = n := ⟨_, rfl⟩
              obtain ⟨nx, hnx⟩ : ∃ n, lx.length = n := ⟨_, rfl⟩
              have HNY := Lib.hid hny
              have HNX := Lib.hid hnx
              rw [hny] at hly1 hc11 q1 hly
              rw [hnx] at hlx1 hc01 q0 hlx
              have hwr' := hwr
              rw [hny, hnx] at hwr'
              clear hwr hny hnx
              have hnx8 : nx ≤ 8 := by omega
              have hny8 : ny ≤ 8 := by omega
              have hn200 : (n : Int) < 200 := by omega
              have hn200d : decide ((n : Int) < 200) = true := decide_eq_true hn200
              have hc0m : c0 ≤ 9223372036854775807 := by unfold maxLen at hc02; omega
              have hc1m : c1 ≤ 9223372036854775807 := by unfold maxLen at hc12; omega
              cases hd : doneG g with
              | true =>
                have hz : ny = 0 ∧ nx = 0 := by
                  unfold doneG at hd
                  simp only [Bool.and_eq_true, List.isEmpty_iff] at hd
                  rw [hd.1] at hlx1; rw [hd.2] at hly1
                  exact ⟨hly1, hlx1⟩
                obtain ⟨rfl, rfl⟩ := hz
                have hgd := ok_done HOK.out hd
                have hsx := state_any px tx ox _ wr hTr.x.blk
                have hsy := state_any py ty oy _ wr hTr.y.blk
                rw [show (concN l m g.x).state = 9 from hgd.1] at hsx
                rw [show (concN m l g.y).state = 9 from hgd.2.1] at hsy
                obtain ⟨L1, hL1⟩ : ∃ x, lk m g.y.cut = x := ⟨_, rfl⟩
                obtain ⟨L2, hL2⟩ : ∃ x, lk l g.x.cut = x := ⟨_, rfl⟩
                have z1 : (concN l m g.x).other = L1 := by rw [← hL1]; simp only [concN, hgd.2.2.1]
                have z2 : (concN m l g.y).own = L1 := hL1
                have z3 : (concN m l g.y).other = L2 := by rw [← hL2]; simp only [concN, hgd.2.2.2]
                have z4 : (concN l m g.x).own = L2 := hL2
                have ho1 := other_any px tx ox _ wr hTr.x.blk
                have ho2 := fun w' (h : TwoAt w' NB px tx py ty ox oy (concN l m g.x) (concN m l g.y)) => own_any py ty oy _ w' h.y.blk
                have ho3 := fun w' (h : TwoAt w' NB px tx py ty ox oy (concN l m g.x) (concN m l g.y)) => other_any py ty oy _ w' h.y.blk
                have ho4 := fun w' (h : TwoAt w' NB px tx py ty ox oy (concN l m g.x) (concN m l g.y)) => own_any px tx ox _ w' h.x.blk
                rw [z1] at ho1
                rw [z2] at ho2
                rw [z3] at ho3
                rw [z4] at ho4
                have hle1 := link_eql L1
                have hle2 := link_eql L2
                unfold linkCells at ho1 ho2 ho3 ho4 hle1 hle2
                have HTF := Lib.hid hTr
                have HBF : Hid (Below w.heap.size w wr) := Lib.hid (((Only.ofBelow (S := fun b => b = px ∨ b = py ∨ b = NB + 1) hB6).trans hOr).below (Nat.le_refl _) (fun k e => by omega))
                have hsumw : IntKind.i64.wrap (((0 : Nat) : Int) + ((0 : Nat) : Int)) = 0 := by decide
                have hsumd : decide ((0 : Int) < 0) = false := by decide
                clear hTr hlx hly hmr hOr hgd HAT HLX HLY hd HOK z1 z2 z3 z4 hL1 hL2 hly1 hlx1 hT6 hm6 hwi HNE
                go_wp2_with fail
                refine hsx.mono ?_
                rintro e w' ⟨rfl, rfl⟩
                go_wp2_with fail
                refine hsy.mono ?_
                rintro e w' ⟨rfl, rfl⟩
                go_wp2_with fail
                refine ho1.mono ?_
                rintro e w7 ⟨rfl, hb7⟩
                have HT7 := Lib.hid (HTF.out.below hb7)
                go_wp2_with fail
                refine (ho2 _ HT7.out).mono ?_
                rintro e w8 ⟨rfl, hb8⟩
                have HT8 := Lib.hid (HT7.out.below hb8)
                go_wp2_with fail
                refine (ho3 _ HT8.out).mono ?_
                rintro e w9 ⟨rfl, hb9⟩
                have HT9 := Lib.hid (HT8.out.below hb9)
                go_wp2_with fail
                refine (ho4 _ HT9.out).mono ?_
                rintro e w10 ⟨rfl, hb10⟩
                go_wp2_with fail
                go_ret
                exact ⟨rfl, seqB (seqB (seqB (seqB HBF.out hb7) hb8) hb9) hb10⟩
              | false =>
                have hpos : 0 < nx + ny := by
                  rcases Nat.eq_zero_or_pos (nx + ny) with h0 | h0
                  · exfalso
                    have e1 : g.toy = [] := List.eq_nil_of_length_eq_zero (by omega)
                    have e2 : g.tox = [] := List.eq_nil_of_length_eq_zero (by omega)
                    unfold doneG at hd
                    rw [e1, e2] at hd
                    cases hd
                  · exact h0
                have hposd : decide ((0 : Int) < (nx : Int) + (ny : Int)) = true := decide_eq_true (by omega)
                have hposw : IntKind.i64.wrap ((nx : Int) + (ny : Int)) = (nx : Int) + (ny : Int) := IntWalk.i64_in _ (by omega)
                have HD := Lib.hid hd
                have HLY1 := Lib.hid hly1
                have HLX1 := Lib.hid hlx1
                clear hd hly1 hlx1
                have hbt1 : bits BinOp.and IntKind.i64 (n : Int) 1 = (n : Int) % 2 := i64_and1 n
                obtain ⟨kn, hkn⟩ : ∃ kn : Nat, (n : Int) % 2 = kn := ⟨n % 2, by omega⟩
                have hkn2 : kn < 2 := by omega
                rw [hkn] at hbt1
                clear hkn
                go_upto_if 109 with fail
                go_cut [17] from 90 to 155 (fun k wx => ∃ kk : Nat, kk < 2 ∧ k = .int .i64 (kk : Nat) ∧ wr = wx)
                case first =>
                  by_cases hpl : n < len
                  · have hpd : decide ((n : Int) < (len : Int)) = true := decide_eq_true (by omega)
                    rcases hin with ⟨-, rfl, -⟩ | ⟨⟨gx, og, sx⟩, rfl, hlc, hcm, hzl, hzc, -⟩
                    · omega
                    have hz0 := hzc n (by omega)
                    obtain rfl : sx = none := by
                      have := World.cell?_spot (hzc 0 (by omega))
                      simpa [Addr.add] using this
                    have hadd : (⟨gx, og, none⟩ : Addr).add n = ⟨gx, og + n, none⟩ := addr_add gx og n
                    rw [hadd] at hz0
                    have hgw := block_lt_of_cell hz0
                    dsimp only at hgw
                    have hz1 := (fsm_below_cell hB6 hz0)
                    have hz2 := hOr.cell (a := ⟨gx, og + n, none⟩) hz1 (by show ¬ (gx = px ∨ gx = py ∨ gx = NB + 1); omega)
                    obtain ⟨ev, hev⟩ : ∃ ev, zs.getD n 0 = ev := ⟨_, rfl⟩
                    rw [hev] at hz2
                    have hbt2 : bits BinOp.and IntKind.i64 ev 1 = ev % 2 := i64_and1 ev
                    obtain ⟨kk, hkk⟩ : ∃ kk : Nat, ev % 2 = kk := ⟨(ev % 2).toNat, by omega⟩
                    have hkk2 : kk < 2 := by omega
                    rw [hkk] at hbt2
                    have hnl : (n : Int) < (len : Int) := by omega
                    clear hz0 hz1 hadd hev hzc hzl hkk hgw
                    go_wp2_with fail
                    go_meet
                    case rel => exact ⟨kk, hkk2, rfl, rfl⟩
                  · have hpd : decide ((n : Int) < (len : Int)) = false := decide_eq_false (by omega)
                    have hnl : ¬ (n : Int) < (len : Int) := by omega
                    go_wp2_with fail
                    go_meet
                    case rel => exact ⟨kn, hkn2, rfl, rfl⟩
                case rest =>
                  obtain ⟨kk, hkk2, rfl, rfl⟩ := hcut
                  clear hbt1
                  go_upto_region 23 with fail
                  go_cut [17, 119] from 90 to 155 (fun k e wx => wr = wx ∧ ((k = .int .i64 0 ∧ e = .bool true ∧ nx = 0 ∧ 0 < ny) ∨ (k = .int .i64 0 ∧ e = .bool false ∧ 0 < nx) ∨ (k = .int .i64 1 ∧ e = .bool true ∧ ny = 0 ∧ 0 < nx) ∨ (k = .int .i64 1 ∧ e = .bool false ∧ 0 < ny)))
                  case first =>
                    obtain rfl | rfl : kk = 0 ∨ kk = 1 := by omega
                    · by_cases hx0 : nx = 0
                      · have hy1 : 0 < ny := by omega
                        have hxe : ((nx : Int) == 0) = true := by simp [hx0]
                        have hxd : decide ((nx : Int) = 0) = true := by simp [hx0]
                        have HX0 := Lib.hid hx0
                        clear hx0
                        go_wp2_with fail
                        go_meet
                        case rel => exact ⟨rfl, .inl ⟨rfl, rfl, HX0.out, hy1⟩⟩
                      · have hx1 : 0 < nx := by omega
                        have hxe : ((nx : Int) == 0) = false := by simp [hx0]
                        have hxd : decide ((nx : Int) = 0) = false := by simp [hx0]
                        go_wp2_with fail
                        go_meet
                        case rel => exact ⟨rfl, .inr (.inl ⟨rfl, rfl, hx1⟩)⟩
                    · by_cases hy0 : ny = 0
                      · have hx1 : 0 < nx := by omega
                        have hxe : ((ny : Int) == 0) = true := by simp [hy0]
                        have hxd : decide ((ny : Int) = 0) = true := by simp [hy0]
                        have HY0 := Lib.hid hy0
                        clear hy0
                        go_wp2_with fail
                        go_meet
                        case rel => exact ⟨rfl, .inr (.inr (.inl ⟨rfl, rfl, HY0.out, hx1⟩))⟩
                      · have hy1 : 0 < ny := by omega
                        have hxe : ((ny : Int) == 0) = false := by simp [hy0]
                        have hxd : decide ((ny : Int) = 0) = false := by simp [hy0]
                        go_wp2_with fail
                        go_meet
                        case rel => exact ⟨rfl, .inr (.inr (.inr ⟨rfl, rfl, hy1⟩))⟩
                  case rest =>
                    obtain ⟨rfl, hcc⟩ := hcut
                    go_upto_if 119 with fail
                    go_cut [17] from 90 to 155 (fun k wx => wr = wx ∧ ((k = .int .i64 1 ∧ 0 < ny) ∨ (k = .int .i64 0 ∧ 0 < nx)))
                    case first =>
                      rcases hcc with ⟨rfl, rfl, -, hy1⟩ | ⟨rfl, rfl, hx1⟩ | ⟨rfl, rfl, -, hx1⟩ | ⟨rfl, rfl, hy1⟩
                      · go_wp2_with fail
                        go_meet
                        case rel => exact ⟨rfl, .inl ⟨rfl, hy1⟩⟩
                      · go_wp2_with fail
                        go_meet
                        case rel => exact ⟨rfl, .inr ⟨rfl, hx1⟩⟩
                      · go_wp2_with fail
                        go_meet
                        case rel => exact ⟨rfl, .inr ⟨rfl, hx1⟩⟩
                      · go_wp2_with fail
                        go_meet
                        case rel => exact ⟨rfl, .inl ⟨rfl, hy1⟩⟩
                    case rest =>
                      clear hcc
                      obtain ⟨rfl, ⟨rfl, hy1⟩ | ⟨rfl, hx1⟩⟩ := hcut
                      · have he1 : ¬ ((ny : Int) = 0) := by omega
                        obtain ⟨y0, lyr, rfl⟩ : ∃ y r, ly = y :: r := by
                          cases ly with
                          | nil => exact absurd HNY.out (by simp; omega)
                          | cons y r => exact ⟨y, r, rfl⟩
                        obtain ⟨gb, hgb, hgB, hgl, -, hgc1, hgc2, z0, z1, z2, z3⟩ := hly.cells 0 (by simp)
                        cases hgb
                        simp only [List.getElem_cons_zero, Nat.zero_mul, Nat.zero_add] at z0 z1 z2 z3
                        obtain ⟨tp, tr, htoy, hek, HLR⟩ : ∃ tp tr, g.toy = tp :: tr ∧ y0.1 = concP l m tp ∧ Hid (lyr.map (·.1) = tr.map (concP l m)) := by
                          have e := HLY.out
                          cases hq : g.toy with
                          | nil => rw [hq] at e; cases e
                          | cons tp tr =>
                            rw [hq, List.map_cons, List.map_cons] at e
                            injection e with e1 e2
                            exact ⟨tp, tr, rfl, e1, Lib.hid e2⟩
                        obtain ⟨g', hgs⟩ := ok_step HOK.out HD.out true
                        obtain ⟨sy, out, htk, hge⟩ := stepG_y htoy hgs
                        have HAT2 := Lib.hid (atG_step HAT.out HD.out hgs)
                        have hfew := ok_few (two_ok _ _ HAT2.out).2
                        rw [hge] at HAT2 hfew
                        have hsim := sim_take hb2 hb1 hf2 _ _ _ _ htk
                        obtain ⟨pk, hpk⟩ : ∃ x, concP l m tp = x := ⟨_, rfl⟩
                        have hpkd : pk.data.size ≤ 4611686018427387904 := by rw [← hpk]; exact (show (⟨#[]⟩ : ByteArray).size ≤ 4611686018427387904 by decide)
                        rw [hpk] at hsim hek
                        have ht : ∀ W, TwoAt W NB px tx py ty ox oy (concN l m g.x) (concN m l g.y) → MaxLenIs W ml → OptsAt W (slOf y0) pk.opts → Calls Tryd.prog 18 #[.pointer (some ⟨py, 0, none⟩), .agg (packCells pk (slOf y0))] W (ActPost py ty oy (concN m l g.y) (concN m l sy, out.map (concP m l), 0) ml W) := fun W h1 h2 h3 => by rw [← hsim]; exact nTake_any py ty oy (slOf y0) _ pk ml W h1.y h2 h3 hpkd
                        have hop := hly.2 y0 (List.mem_cons_self ..)
                        rw [hek] at z0 z1 z3 hop
                        have z2' := z2
                        unfold slOf at z2'
                        rw [hek] at z2'
                        unfold packCells slOf at ht
                        rw [hek] at ht
                        have HNL : Hid (ny = lyr.length + 1) := Lib.hid (by rw [← HNY.out]; rfl)
                        obtain ⟨W, hWd⟩ : ∃ W, (wr.alloc (.cells #[.int .i64 pk.code, .int .i64 pk.id, .slice y0.2.1 pk.opts.length y0.2.2, .string pk.data] 41)).alloc (.cells #[] 41) = W := ⟨_, rfl⟩
                        obtain ⟨hWs, hbW, hemp, p0, p1, p2, p3⟩ := box_alloc (NB := NB) hWd (by omega)
                        have hTW := hTr.below hbW
                        have hwW : Wires W (NB + 1) _ _ := below_of hbW hwr'
                        have vK := Wires.c1 hwW
                        have hmW := hmr.below hbW
                        have hOW := hOr.then hbW
                        have hsrc := tail_at (hly.1.below hbW) HNL.out
                        obtain ⟨sv, hsv⟩ : ∃ a : Option Addr, (if c1 = 1 then some ⟨gb, 0, none⟩ else some ⟨gb, 4, none⟩) = a := ⟨_, rfl⟩
                        rw [hsv] at hsrc
                        have hvo := PacksOwn.below hlx hbW
                        have hvn := row_fresh hlx (wr.heap.size + 1) (by omega)
                        have hl2 : ∀ y ∈ lyr, OwnE optE W (NB + 2) (slOf y) y.1.opts := fun y hy => (hly.2 y (List.mem_cons_of_mem _ hy)).below hbW
                        have hopW := hop.below hbW
                        have hoplt := SeqAt.lt hop.at
                        have hopge := hop.block
                        have rW := fsm_below_cell hbW r1
                        have hlyl : lyr.length ≤ 8 := by have := HNL.out; omega
                        have HNW := Lib.hid hWs
                        have HBW := Lib.hid hbW
                        have HTW := Lib.hid hTW
                        have HWW := Lib.hid hwW
                        have HSRC := Lib.hid hsrc
                        have HEMP := Lib.hid hemp
                        have HOPW := Lib.hid hopW
                        have hbase : NB + 2 ≤ W.heap.size := by omega
                        clear z2 hsim hpk htoy hge hgs htk hWs hbW hTW hwW hsrc hemp hopW r0 r1
                        go_wp2_with (at_builtin; (try rw [hWd]); (try rw [hsv]); go_loud (refine wpList_appPs rfl _ _ rfl (NB + 2) hbase (.slice (some ⟨wr.heap.size + 1, 0, none⟩) 0 0) (.slice sv (ny - 1) (c1 - 1)) [] lyr HEMP.out HSRC.out rfl rfl (by simp; omega) ?_; intro v9 w9 hv9 ho9 hat9; obtain ⟨a9, c9, rfl, -, -⟩ := SeqAt.form hv9.at; obtain ⟨hw9, hp9, hpo9, hne9, hT9, hm9, hO9⟩ := wire_step 1 HTW.out HWW.out ⟨HEMP.out, fun x hx => absurd hx (by simp)⟩ hl2 (Nat.le_refl _) hvo hvn hmW hgN hv9 ho9 hat9 hsz hOW (.inr (.inr rfl)); have u1 := hw9.c1; have u2 := hw9.f 1; have hNs9 : NB + 1 < w9.heap.size := by have := ho9.size; omega))
                        obtain ⟨w10, hw10⟩ : ∃ W10, w9.setCell ⟨NB + 1, 1, none⟩ (.slice a9 lyr.length c9) = W10 := ⟨_, rfl⟩
                        have hw10' : w9.setCell ⟨NB + 1, 1, none⟩ (.slice a9 ([] ++ lyr).length c9) = w10 := hw10
                        have hset : Only (· = NB + 1) w9 w10 := by rw [← hw10]; exact Only.set (S := (· = NB + 1)) (Only.refl _ _) (.inl rfl) _
                        have hWW : Only (fun b => b = wr.heap.size + 1 ∨ b = NB + 1) W w10 := (ho9.mono fun k hk e => .inl (Option.some.inj e).symm).trans (hset.mono fun k hk e => .inr e)
                        have hb9 : ∀ i, ¬ ((⟨wr.heap.size, i, none⟩ : Addr).block = wr.heap.size + 1 ∨ (⟨wr.heap.size, i, none⟩ : Addr).block = NB + 1) := fun i => by show ¬ (wr.heap.size = wr.heap.size + 1 ∨ wr.heap.size = NB + 1); omega
                        have b0 := hWW.cell (a := ⟨wr.heap.size, 0, none⟩) p0 (hb9 0)
                        have b1 := hWW.cell (a := ⟨wr.heap.size, 1, none⟩) p1 (hb9 1)
                        have b2 := hWW.cell (a := ⟨wr.heap.size, 2, none⟩) p2 (hb9 2)
                        have b3 := hWW.cell (a := ⟨wr.heap.size, 3, none⟩) p3 (hb9 3)
                        have m1 := hWW.cell (a := ⟨NB, 1, none⟩) rW (by show ¬ (NB = wr.heap.size + 1 ∨ NB = NB + 1); omega)
                        have hop10 : OwnE optE w10 (NB + 2) (slOf y0) pk.opts := HOPW.out.only hWW (fun k hk e => by have := hoplt k hk; have := hopge k hk; omega)
                        have hw10W := hw9.set1 (.slice a9 lyr.length c9)
                        rw [hw10] at hw10W ⊢
                        rw [hw10'] at hT9 hp9 hpo9 hm9 hO9
                        have hp10 : PacksOwn w10 (NB + 2) (.slice a9 lyr.length c9) lyr := hp9
                        have hTd := hT9.below (Below.refl _ _).drew
                        have hmd := hm9.below (Below.refl _ _).drew
                        have hopd : OptsAt w10.drew (slOf y0) pk.opts := SeqAt.below hop10.at (Below.refl _ _).drew
                        unfold slOf at hopd
                        rw [hek] at hopd
                        have htd := ht _ hTd hmd hopd
                        have hs10 : NB + 2 ≤ w10.drew.heap.size := hO9.drew.size |> Nat.le_trans (by omega)
                        have hPn : ¬ NB = py := by omega
                        have hPs : ¬ wr.heap.size = py := by omega
                        clear hw10 hw10' hset hWW hb9 p0 p1 p2 p3 rW hop10 hp9 u1 u2 hmd hopd ht hWd hsv HSRC HEMP HOPW HTW HWW hvo hvn hl2 hmW hOW hv9 ho9 hat9 hw9 z0 z1 z3 z2' q0 q1 vK
                        refine wp_schedL (fun w' => w'.cell? ⟨NB, 1, none⟩ = some (.pointer (some ⟨py, 0, none⟩)) ∧ w'.cell? ⟨wr.heap.size, 0, none⟩ = some (.int .i64 pk.code) ∧ w'.cell? ⟨wr.heap.size, 1, none⟩ = some (.int .i64 pk.id) ∧ w'.cell? ⟨wr.heap.size, 2, none⟩ = some (.slice y0.2.1 pk.opts.length y0.2.2) ∧ w'.cell? ⟨wr.heap.size, 3, none⟩ = some (.string pk.data)) [(0, true), (1, true), (2, true), (3, true), (4, true), (5, false), (6, true), (7, true), (8, true), (9, true), (10, true)] (by kernel_rfl) (by kernel_rfl) rfl (by kernel_rfl) (by kernel_rfl) ⟨m1, b0, b1, b2, b3⟩ (fun _ d _ _ _ h => by cases d <;> exact h) ?_
                        simp only [schedOps, List.filterMap_cons, List.filterMap_nil, List.getElem?_toArray, List.getElem?_cons_zero, List.getElem?_cons_succ, Option.map_some]
                        repeat (first | (refine' wpSched_take _ (by rfl) (fun wS hS => ?_) ?_; rotate_left; (focus (obtain ⟨j0, j1, j2, j3, j4⟩ := hS; go_simp; first | done | rfl)); (try simp only [Act.put, List.setIfInBounds_toArray, List.set_cons_zero, List.set_cons_succ])) | (refine wpSched_skip (by rfl) ?_; try simp only [Act.put, List.setIfInBounds_toArray, List.set_cons_zero, List.set_cons_succ]))
                        refine wpSched_run (fun K hK => ?_)
                        go_wp2_with (go_at_call 18; refine htd.mono ?_; rintro e w11 he; obtain ⟨v11, l11, o11, rfl, hl11, hq11, hT11, hO11, hm11⟩ := hTd.swap.act he; obtain ⟨a11, c11, rfl, -, -⟩ := SeqAt.form hl11.1.at)
                        refine QRun_normal (hK.out _ _ ⟨hO11.cell (w := w10.drew) (a := ⟨NB, 1, none⟩) m1 hPn, hO11.cell (w := w10.drew) (a := ⟨wr.heap.size, 0, none⟩) b0 hPs, hO11.cell (w := w10.drew) (a := ⟨wr.heap.size, 1, none⟩) b1 hPs, hO11.cell (w := w10.drew) (a := ⟨wr.heap.size, 2, none⟩) b2 hPs, hO11.cell (w := w10.drew) (a := ⟨wr.heap.size, 3, none⟩) b3 hPs⟩ ?_)
                        clear hK K
                        repeat (first | (refine' wpSched_take _ (by rfl) (fun wS hS => ?_) ?_; rotate_left; (focus (obtain ⟨j0, j1, j2, j3, j4⟩ := hS; go_simp; first | done | rfl)); (try simp only [Act.put, List.setIfInBounds_toArray, List.set_cons_zero, List.set_cons_succ])) | (refine wpSched_skip (by rfl) ?_; try simp only [Act.put, List.setIfInBounds_toArray, List.set_cons_zero, List.set_cons_succ]))
                        refine wpSched_done ?_
                        have hT12 : TwoAt w11 NB px tx py ty ox o11 (concN l m g.x) (concN m l sy) := hT11.swap
                        have hO1011 : Only (· = py) w10 w11 := ((Only.refl (· = py) w10).drew).trans hO11
                        have hw11 := hw10W.only hO1011 (by show ¬ NB + 1 = py; omega)
                        have hp11 := PacksOwn.only hp10 hO1011 (by omega)
                        have hpo11 := PacksOwn.only hpo9 hO1011 (by omega)
                        have hO611 : Only (fun b => b = px ∨ b = py ∨ b = NB + 1) W6 w11 := hO9.trans (hO1011.mono fun _ _ h => .inr (.inl h))
                        have t0 := Wires.c0 hw11
                        have hs11 : NB + 2 ≤ w11.heap.size := Nat.le_trans hs10 hO11.size
                        have HLEN : Hid (lx.length + l11.length ≤ 8) := Lib.hid (by
                          have e1 := congrArg List.length hq11
                          have e2 := congrArg List.length HLX.out
                          simp only [List.length_map] at e1 e2
                          have e3 := hfew
                          simp only [List.length_append] at e3
                          omega)
                        have HQ11 := Lib.hid hq11
                        clear htd hTd m1 b0 b1 b2 b3 hT11 hO11 hO1011 hw10W hp10 hpo9 hT9 hm9 hO9 hq11 hfew
                        go_wp2_with (first
                          | (go_at_call 13; refine (num_any _ _).mono ?_; rintro e w' ⟨rfl, rfl⟩)
                          | (at_builtin; go_loud (refine wpList_appPs rfl _ _ rfl (NB + 2) hs11 (.slice a0 _ c0) (.slice a11 l11.length c11) lx l11 hpo11.1 hl11.1.at rfl rfl (by have := HLEN.out; omega) ?_; intro v12 w12 hv12 ho12 hat12; obtain ⟨a12, c12, rfl, -, -⟩ := SeqAt.form hv12.at; obtain ⟨hw12, hp12, hpo12, hne12, hT13, hm12, hO12⟩ := wire_step 0 hT12 hw11 hpo11 hl11.2 hs10 hp11 (fun k hk e => hne9 k e hk) hm11 hgN hv12 ho12 hat12 hsz hO611 (.inr (.inr rfl)); have u3 := Wires.c0 hw12; have u4 := hw12.f 0; have hNs12 : NB + 1 < w12.heap.size := by have := ho12.size; omega)))
                        rw [List.length_append] at hp12 hpo12 hne12 hT13 hm12 hO12
                        go_roundw
                        case rel => exact ⟨n + 1, ⟨g.x, sy, g.tox ++ out, tr⟩, _, _, lx ++ l11, lyr, ox, o11, by simp [go_sem], HAT2, hw12.set0 _, hp12, Lib.hid (by rw [List.map_append, HLX.out, HQ11.out, List.map_append]), hpo12, HLR, Lib.hid (fun k hk e => hne12 k e hk), hT13, hm12, hO12⟩
                        case measure => simp [intOf]; omega
                      · have he1 : ¬ ((nx : Int) = 0) := by omega
                        obtain ⟨y0, lyr, rfl⟩ : ∃ y r, lx = y :: r := by
                          cases lx with
                          | nil => exact absurd HNX.out (by simp; omega)
                          | cons y r => exact ⟨y, r, rfl⟩
                        obtain ⟨gb, hgb, hgB, hgl, -, hgc1, hgc2, z0, z1, z2, z3⟩ := hlx.cells 0 (by simp)
                        cases hgb
                        simp only [List.getElem_cons_zero, Nat.zero_mul, Nat.zero_add] at z0 z1 z2 z3
                        obtain ⟨tp, tr, htoy, hek, HLR⟩ : ∃ tp tr, g.tox = tp :: tr ∧ y0.1 = concP m l tp ∧ Hid (lyr.map (·.1) = tr.map (concP m l)) := by
                          have e := HLX.out
                          cases hq : g.tox with
                          | nil => rw [hq] at e; cases e
                          | cons tp tr =>
                            rw [hq, List.map_cons, List.map_cons] at e
                            injection e with e1 e2
                            exact ⟨tp, tr, rfl, e1, Lib.hid e2⟩
                        obtain ⟨g', hgs⟩ := ok_step HOK.out HD.out false
                        obtain ⟨sy, out, htk, hge⟩ := stepG_x htoy hgs
                        have HAT2 := Lib.hid (atG_step HAT.out HD.out hgs)
                        have hfew := ok_few (two_ok _ _ HAT2.out).2
                        rw [hge] at HAT2 hfew
                        have hsim := sim_take hb1 hb2 hf1 _ _ _ _ htk
                        obtain ⟨pk, hpk⟩ : ∃ x, concP m l tp = x := ⟨_, rfl⟩
                        have hpkd : pk.data.size ≤ 4611686018427387904 := by rw [← hpk]; exact (show (⟨#[]⟩ : ByteArray).size ≤ 4611686018427387904 by decide)
                        rw [hpk] at hsim hek
                        have ht : ∀ W, TwoAt W NB px tx py ty ox oy (concN l m g.x) (concN m l g.y) → MaxLenIs W ml → OptsAt W (slOf y0) pk.opts → Calls Tryd.prog 18 #[.pointer (some ⟨px, 0, none⟩), .agg (packCells pk (slOf y0))] W (ActPost px tx ox (concN l m g.x) (concN l m sy, out.map (concP l m), 0) ml W) := fun W h1 h2 h3 => by rw [← hsim]; exact nTake_any px tx ox (slOf y0) _ pk ml W h1.x h2 h3 hpkd
                        have hop := hlx.2 y0 (List.mem_cons_self ..)
                        rw [hek] at z0 z1 z3 hop
                        have z2' := z2
                        unfold slOf at z2'
                        rw [hek] at z2'
                        unfold packCells slOf at ht
                        rw [hek] at ht
                        have HNL : Hid (nx = lyr.length + 1) := Lib.hid (by rw [← HNX.out]; rfl)
                        obtain ⟨W, hWd⟩ : ∃ W, (wr.alloc (.cells #[.int .i64 pk.code, .int .i64 pk.id, .slice y0.2.1 pk.opts.length y0.2.2, .string pk.data] 41)).alloc (.cells #[] 41) = W := ⟨_, rfl⟩
                        obtain ⟨hWs, hbW, hemp, p0, p1, p2, p3⟩ := box_alloc (NB := NB) hWd (by omega)
                        have hTW := hTr.below hbW
                        have hwW : Wires W (NB + 1) _ _ := below_of hbW hwr'
                        have vK := Wires.c0 hwW
                        have hmW := hmr.below hbW
                        have hOW := hOr.then hbW
                        have hsrc := tail_at (hlx.1.below hbW) HNL.out
                        obtain ⟨sv, hsv⟩ : ∃ a : Option Addr, (if c0 = 1 then some ⟨gb, 0, none⟩ else some ⟨gb, 4, none⟩) = a := ⟨_, rfl⟩
                        rw [hsv] at hsrc
                        have hvo := PacksOwn.below hly hbW
                        have hvn := row_fresh hly (wr.heap.size + 1) (by omega)
                        have hl2 : ∀ y ∈ lyr, OwnE optE W (NB + 2) (slOf y) y.1.opts := fun y hy => (hlx.2 y (List.mem_cons_of_mem _ hy)).below hbW
                        have hopW := hop.below hbW
                        have hoplt := SeqAt.lt hop.at
                        have hopge := hop.block
                        have rW := fsm_below_cell hbW r0
                        have hlyl : lyr.length ≤ 8 := by have := HNL.out; omega
                        have HNW := Lib.hid hWs
                        have HBW := Lib.hid hbW
                        have HTW := Lib.hid hTW
                        have HWW := Lib.hid hwW
                        have HSRC := Lib.hid hsrc
                        have HEMP := Lib.hid hemp
                        have HOPW := Lib.hid hopW
                        have hbase : NB + 2 ≤ W.heap.size := by omega
                        clear z2 hsim hpk htoy hge hgs htk hWs hbW hTW hwW hsrc hemp hopW r0 r1
                        go_wp2_with (at_builtin; (try rw [hWd]); (try rw [hsv]); go_loud (refine wpList_appPs rfl _ _ rfl (NB + 2) hbase (.slice (some ⟨wr.heap.size + 1, 0, none⟩) 0 0) (.slice sv (nx - 1) (c0 - 1)) [] lyr HEMP.out HSRC.out rfl rfl (by simp; omega) ?_; intro v9 w9 hv9 ho9 hat9; obtain ⟨a9, c9, rfl, -, -⟩ := SeqAt.form hv9.at; obtain ⟨hw9, hp9, hpo9, hne9, hT9, hm9, hO9⟩ := wire_step 0 HTW.out HWW.out ⟨HEMP.out, fun x hx => absurd hx (by simp)⟩ hl2 (Nat.le_refl _) hvo hvn hmW hgN hv9 ho9 hat9 hsz hOW (.inr (.inr rfl)); have u1 := hw9.c0; have u2 := hw9.f 0; have hNs9 : NB + 1 < w9.heap.size := by have := ho9.size; omega))
                        obtain ⟨w10, hw10⟩ : ∃ W10, w9.setCell ⟨NB + 1, 0, none⟩ (.slice a9 lyr.length c9) = W10 := ⟨_, rfl⟩
                        have hw10' : w9.setCell ⟨NB + 1, 0, none⟩ (.slice a9 ([] ++ lyr).length c9) = w10 := hw10
                        have hset : Only (· = NB + 1) w9 w10 := by rw [← hw10]; exact Only.set (S := (· = NB + 1)) (Only.refl _ _) (.inl rfl) _
                        have hWW : Only (fun b => b = wr.heap.size + 1 ∨ b = NB + 1) W w10 := (ho9.mono fun k hk e => .inl (Option.some.inj e).symm).trans (hset.mono fun k hk e => .inr e)
                        have hb9 : ∀ i, ¬ ((⟨wr.heap.size, i, none⟩ : Addr).block = wr.heap.size + 1 ∨ (⟨wr.heap.size, i, none⟩ : Addr).block = NB + 1) := fun i => by show ¬ (wr.heap.size = wr.heap.size + 1 ∨ wr.heap.size = NB + 1); omega
                        have b0 := hWW.cell (a := ⟨wr.heap.size, 0, none⟩) p0 (hb9 0)
                        have b1 := hWW.cell (a := ⟨wr.heap.size, 1, none⟩) p1 (hb9 1)
                        have b2 := hWW.cell (a := ⟨wr.heap.size, 2, none⟩) p2 (hb9 2)
                        have b3 := hWW.cell (a := ⟨wr.heap.size, 3, none⟩) p3 (hb9 3)
                        have m1 := hWW.cell (a := ⟨NB, 0, none⟩) rW (by show ¬ (NB = wr.heap.size + 1 ∨ NB = NB + 1); omega)
                        have hop10 : OwnE optE w10 (NB + 2) (slOf y0) pk.opts := HOPW.out.only hWW (fun k hk e => by have := hoplt k hk; have := hopge k hk; omega)
                        have hw10W := hw9.set0 (.slice a9 lyr.length c9)
                        rw [hw10] at hw10W ⊢
                        rw [hw10'] at hT9 hp9 hpo9 hm9 hO9
                        have hp10 : PacksOwn w10 (NB + 2) (.slice a9 lyr.length c9) lyr := hp9
                        have hTd := hT9.below (Below.refl _ _).drew
                        have hmd := hm9.below (Below.refl _ _).drew
                        have hopd : OptsAt w10.drew (slOf y0) pk.opts := SeqAt.below hop10.at (Below.refl _ _).drew
                        unfold slOf at hopd
                        rw [hek] at hopd
                        have htd := ht _ hTd hmd hopd
                        have hs10 : NB + 2 ≤ w10.drew.heap.size := hO9.drew.size |> Nat.le_trans (by omega)
                        have hPn : ¬ NB = px := by omega
                        have hPs : ¬ wr.heap.size = px := by omega
                        clear hw10 hw10' hset hWW hb9 p0 p1 p2 p3 rW hop10 hp9 u1 u2 hmd hopd ht hWd hsv HSRC HEMP HOPW HTW HWW hvo hvn hl2 hmW hOW hv9 ho9 hat9 hw9 z0 z1 z3 z2' q0 q1 vK
                        refine wp_schedL (fun w' => w'.cell? ⟨NB, 0, none⟩ = some (.pointer (some ⟨px, 0, none⟩)) ∧ w'.cell? ⟨wr.heap.size, 0, none⟩ = some (.int .i64 pk.code) ∧ w'.cell? ⟨wr.heap.size, 1, none⟩ = some (.int .i64 pk.id) ∧ w'.cell? ⟨wr.heap.size, 2, none⟩ = some (.slice y0.2.1 pk.opts.length y0.2.2) ∧ w'.cell? ⟨wr.heap.size, 3, none⟩ = some (.string pk.data)) [(0, true), (1, true), (2, true), (3, true), (4, true), (5, false), (6, true), (7, true), (8, true), (9, true), (10, true)] (by kernel_rfl) (by kernel_rfl) rfl (by kernel_rfl) (by kernel_rfl) ⟨m1, b0, b1, b2, b3⟩ (fun _ d _ _ _ h => by cases d <;> exact h) ?_
                        simp only [schedOps, List.filterMap_cons, List.filterMap_nil, List.getElem?_toArray, List.getElem?_cons_zero, List.getElem?_cons_succ, Option.map_some]
                        repeat (first | (refine' wpSched_take _ (by rfl) (fun wS hS => ?_) ?_; rotate_left; (focus (obtain ⟨j0, j1, j2, j3, j4⟩ := hS; go_simp; first | done | rfl)); (try simp only [Act.put, List.setIfInBounds_toArray, List.set_cons_zero, List.set_cons_succ])) | (refine wpSched_skip (by rfl) ?_; try simp only [Act.put, List.setIfInBounds_toArray, List.set_cons_zero, List.set_cons_succ]))
                        refine wpSched_run (fun K hK => ?_)
                        go_wp2_with (go_at_call 18; refine htd.mono ?_; rintro e w11 he; obtain ⟨v11, l11, o11, rfl, hl11, hq11, hT11, hO11, hm11⟩ := hTd.act he; obtain ⟨a11, c11, rfl, -, -⟩ := SeqAt.form hl11.1.at)
                        refine QRun_normal (hK.out _ _ ⟨hO11.cell (w := w10.drew) (a := ⟨NB, 0, none⟩) m1 hPn, hO11.cell (w := w10.drew) (a := ⟨wr.heap.size, 0, none⟩) b0 hPs, hO11.cell (w := w10.drew) (a := ⟨wr.heap.size, 1, none⟩) b1 hPs, hO11.cell (w := w10.drew) (a := ⟨wr.heap.size, 2, none⟩) b2 hPs, hO11.cell (w := w10.drew) (a := ⟨wr.heap.size, 3, none⟩) b3 hPs⟩ ?_)
                        clear hK K
                        repeat (first | (refine' wpSched_take _ (by rfl) (fun wS hS => ?_) ?_; rotate_left; (focus (obtain ⟨j0, j1, j2, j3, j4⟩ := hS; go_simp; first | done | rfl)); (try simp only [Act.put, List.setIfInBounds_toArray, List.set_cons_zero, List.set_cons_succ])) | (refine wpSched_skip (by rfl) ?_; try simp only [Act.put, List.setIfInBounds_toArray, List.set_cons_zero, List.set_cons_succ]))
                        refine wpSched_done ?_
                        have hT12 : TwoAt w11 NB px tx py ty o11 oy (concN l m sy) (concN m l g.y) := hT11
                        have hO1011 : Only (· = px) w10 w11 := ((Only.refl (· = px) w10).drew).trans hO11
                        have hw11 := hw10W.only hO1011 (by show ¬ NB + 1 = px; omega)
                        have hp11 := PacksOwn.only hp10 hO1011 (by omega)
                        have hpo11 := PacksOwn.only hpo9 hO1011 (by omega)
                        have hO611 : Only (fun b => b = px ∨ b = py ∨ b = NB + 1) W6 w11 := hO9.trans (hO1011.mono fun _ _ h => .inl h)
                        have t0 := Wires.c1 hw11
                        have hs11 : NB + 2 ≤ w11.heap.size := Nat.le_trans hs10 hO11.size
                        have HLEN : Hid (ly.length + l11.length ≤ 8) := Lib.hid (by
                          have e1 := congrArg List.length hq11
                          have e2 := congrArg List.length HLY.out
                          simp only [List.length_map] at e1 e2
                          have e3 := hfew
                          simp only [List.length_append] at e3
                          omega)
                        have HQ11 := Lib.hid hq11
                        clear htd hTd m1 b0 b1 b2 b3 hT11 hO11 hO1011 hw10W hp10 hpo9 hT9 hm9 hO9 hq11 hfew
                        go_wp2_with (first
                          | (go_at_call 13; refine (num_any _ _).mono ?_; rintro e w' ⟨rfl, rfl⟩)
                          | (at_builtin; go_loud (refine wpList_appPs rfl _ _ rfl (NB + 2) hs11 (.slice a1 _ c1) (.slice a11 l11.length c11) ly l11 hpo11.1 hl11.1.at rfl rfl (by have := HLEN.out; omega) ?_; intro v12 w12 hv12 ho12 hat12; obtain ⟨a12, c12, rfl, -, -⟩ := SeqAt.form hv12.at; obtain ⟨hw12, hp12, hpo12, hne12, hT13, hm12, hO12⟩ := wire_step 1 hT12 hw11 hpo11 hl11.2 hs10 hp11 (fun k hk e => hne9 k e hk) hm11 hgN hv12 ho12 hat12 hsz hO611 (.inr (.inr rfl)); have u3 := Wires.c1 hw12; have u4 := hw12.f 1; have hNs12 : NB + 1 < w12.heap.size := by have := ho12.size; omega)))
                        rw [List.length_append] at hp12 hpo12 hne12 hT13 hm12 hO12
                        go_roundw
                        case rel => exact ⟨n + 1, ⟨sy, g.y, tr, g.toy ++ out⟩, _, _, lyr, ly ++ l11, o11, oy, by simp [go_sem], HAT2, hw12.set1 _, hpo12, HLR, hp12, Lib.hid (by rw [List.map_append, HLY.out, HQ11.out, List.map_append]), Lib.hid hne12, hT13, hm12, hO12⟩
                        case measure => simp [intOf]; omega
      · by_cases h1 : l.magic = m.magic
        · have hq0 : (l.magic != 0) = true := bne_iff_ne.2 h0
          have hq1 : (l.magic == m.magic) = true := beq_iff_eq.2 h1
          clear h0 h1
          go_wp2_with fail
          refine (hr1 _).mono ?_
          rintro e w2 ⟨rfl, hbr⟩
          have e0 := fsm_below_cell hbr d0
          have e1 := fsm_below_cell hbr d1
          have e2 := fsm_below_cell hbr d2
          have e3 := fsm_below_cell hbr d3
          have e4 := fsm_below_cell hbr d4
          have e5 := fsm_below_cell hbr d5
          have f0 := fsm_below_cell hbr c0
          have f1 := fsm_below_cell hbr c1
          have f2 := fsm_below_cell hbr c2
          have f3 := fsm_below_cell hbr c3
          have f4 := fsm_below_cell hbr c4
          have f5 := fsm_below_cell hbr c5
          have hB2 := seqB hB1 hbr
          have hm2 := hm1.below hbr
          clear c0 c1 c2 c3 c4 c5 d0 d1 d2 d3 d4 d5 hm1 hbr hB1
          go_wp2_with fail
          refine (hr2 _).mono ?_
          rintro e w3 ⟨rfl, hbr3⟩
          replace e0 := fsm_below_cell hbr3 e0
          replace e1 := fsm_below_cell hbr3 e1
          replace e2 := fsm_below_cell hbr3 e2
          replace e3 := fsm_below_cell hbr3 e3
          replace e4 := fsm_below_cell hbr3 e4
          replace e5 := fsm_below_cell hbr3 e5
          replace f0 := fsm_below_cell hbr3 f0
          replace f1 := fsm_below_cell hbr3 f1
          replace f2 := fsm_below_cell hbr3 f2
          replace f3 := fsm_below_cell hbr3 f3
          replace f4 := fsm_below_cell hbr3 f4
          replace f5 := fsm_below_cell hbr3 f5
          replace hB2 := seqB hB2 hbr3
          replace hm2 := hm2.below hbr3
          clear hbr3 hh1 hh2
          go_wp2_with fail
          go_ret
          exact ⟨rfl, hB2⟩
        · have hno : ¬ (l.magic ≠ 0 ∧ l.magic = m.magic) := by omega
          obtain ⟨hf1, hf2⟩ := far_both hno
          have hnx2 := fun W h => hnx W h hb1
          have hny2 := fun W h => hny W h hb2
          clear hnx hny hno
          have hq0 : (l.magic != 0) = true := bne_iff_ne.2 h0
          have hq1 : (l.magic == m.magic) = false := beq_eq_false_iff_ne.2 h1
          clear h0 h1
          go_wp2_with fail
          refine (hr1 _).mono ?_
          rintro e w2 ⟨rfl, hbr⟩
          have e0 := fsm_below_cell hbr d0
          have e1 := fsm_below_cell hbr d1
          have e2 := fsm_below_cell hbr d2
          have e3 := fsm_below_cell hbr d3
          have e4 := fsm_below_cell hbr d4
          have e5 := fsm_below_cell hbr d5
          have f0 := fsm_below_cell hbr c0
          have f1 := fsm_below_cell hbr c1
          have f2 := fsm_below_cell hbr c2
          have f3 := fsm_below_cell hbr c3
          have f4 := fsm_below_cell hbr c4
          have f5 := fsm_below_cell hbr c5
          have hB2 := seqB hB1 hbr
          have hm2 := hm1.below hbr
          clear c0 c1 c2 c3 c4 c5 d0 d1 d2 d3 d4 d5 hm1 hbr hB1
          go_wp2_with fail
          refine (hr2 _).mono ?_
          rintro e w3 ⟨rfl, hbr3⟩
          replace e0 := fsm_below_cell hbr3 e0
          replace e1 := fsm_below_cell hbr3 e1
          replace e2 := fsm_below_cell hbr3 e2
          replace e3 := fsm_below_cell hbr3 e3
          replace e4 := fsm_below_cell hbr3 e4
          replace e5 := fsm_below_cell hbr3 e5
          replace f0 := fsm_below_cell hbr3 f0
          replace f1 := fsm_below_cell hbr3 f1
          replace f2 := fsm_below_cell hbr3 f2
          replace f3 := fsm_below_cell hbr3 f3
          replace f4 := fsm_below_cell hbr3 f4
          replace f5 := fsm_below_cell hbr3 f5
          replace hB2 := seqB hB2 hbr3
          replace hm2 := hm2.below hbr3
          clear hbr3 hh1 hh2
          go_wp2_with fail
          refine (hnx2 _ hm2).mono ?_
          rintro e w4 ⟨px, tx, rfl, hsx1, hp1, hmx, hbx⟩
          replace e0 := fsm_below_cell hbx e0
          replace e1 := fsm_below_cell hbx e1
          replace e2 := fsm_below_cell hbx e2
          replace e3 := fsm_below_cell hbx e3
          replace e4 := fsm_below_cell hbx e4
          replace e5 := fsm_below_cell hbx e5
          have hB3 := seqB hB2 hbx
          go_wp2_with fail
          refine (hny2 _ hmx).mono ?_
          rintro e w5 ⟨py, ty, rfl, hsy2, hp2, hmy, hby⟩
          have hT2 := two_new hsx1 hsy2 hby hp2
          have hB5 := seqB hB3 hby
          have hpw1 : w.heap.size ≤ px := Nat.le_trans hB2.size hp1
          have hpw2 : w.heap.size ≤ py := Nat.le_trans hB3.size hp2
          clear hnx2 hny2 e0 e1 e2 e3 e4 e5 f0 f1 f2 f3 f4 f5 hm2 hr1 hr2 hsx1 hsy2 hbx hby hB2 hB3 hmx
          go_wp2_with (go_at_call 13; refine (num_any _ _).mono ?_; rintro e w' ⟨rfl, rfl⟩)
          obtain ⟨W6, hW6⟩ : ∃ W6, (w5.alloc (.cells #[.pointer (some ⟨px, 0, none⟩), .pointer (some ⟨py, 0, none⟩)] 26)).alloc (.cells #[.slice none 0 0, .slice none 0 0] 50) = W6 := ⟨_, rfl⟩
          obtain ⟨hsz, hwi, n0, n1, hb6⟩ := two_alloc hW6
          have hB6 := seqB hB5 hb6
          have hT6 := hT2.below hb6
          have hm6 := hmy.below hb6
          obtain ⟨NB, hNB⟩ : ∃ NB, w5.heap.size = NB := ⟨_, rfl⟩
          rw [hW6]
          rw [hNB] at hsz hwi n0 n1 hT6 ⊢
          have hwN : w.heap.size ≤ NB := by rw [← hNB]; exact hB5.size
          have hgN0 : 0 < NB := by have := block_lt_of_cell hml; dsimp only at this; omega
          clear hW6 hb6 hT2 hmy hB5 hNB
          go_loopw [13] (fun i wr => MaxLenIs wr ml ∧ Only (fun b => b = px ∨ b = py ∨ b = NB + 1) W6 wr ∧ ((i = .int .i64 0 ∧ wr = W6) ∨ (i = .int .i64 1 ∧ ∃ v1 ly ox, Wires wr (NB + 1) (.slice none 0 0) v1 ∧ PacksOwn wr (NB + 2) v1 ly ∧ Hid (ly.map (·.1) = [concP l m ⟨1, 1, false⟩]) ∧ TwoAt wr NB px tx py ty ox (.slice none 0 0) (concN l m (upS 10)) (newM m 10)) ∨ (i = .int .i64 2 ∧ ∃ v0 v1 lx ly ox oy, Wires wr (NB + 1) v0 v1 ∧ PacksOwn wr (NB + 2) v0 lx ∧ Hid (lx.map (·.1) = [concP m l ⟨1, 1, false⟩]) ∧ PacksOwn wr (NB + 2) v1 ly ∧ Hid (ly.map (·.1) = [concP l m ⟨1, 1, false⟩]) ∧ (∀ k, v0.ownBlock = some k → v1.ownBlock ≠ some k) ∧ TwoAt wr NB px tx py ty ox oy (concN l m (upS 10)) (concN m l (upS 10))))) (fun i _ => 3 - (intOf i).toNat)
          case atStart => exact ⟨hm6, Only.refl _ _, .inl ⟨rfl, rfl⟩⟩
          case round =>
            obtain ⟨hmr, hOr, hcase⟩ := hrel
            have hpB := hT6.pB
            have hN0 : ¬ (NB = px ∨ NB = py ∨ NB = NB + 1) := by omega
            have r0 := hOr.cell (a := ⟨NB, 0, none⟩) n0 hN0
            have r1 := hOr.cell (a := ⟨NB, 1, none⟩) n1 hN0
            have hszr := hOr.size
            have hgN : 0 < NB := hgN0
            rcases hcase with ⟨rfl, hwe⟩ | ⟨rfl, v1, ly, ox, hwr, hly, HLY, hTr⟩ | ⟨rfl, v0, v1, lx, ly, ox, oy, hwr, hlx, HLX, hly, HLY, hne, hTr⟩
            · have hTw : TwoAt wr NB px tx py ty (.slice none 0 0) (.slice none 0 0) (newM l 10) (newM m 10) := by rw [hwe]; exact hT6
              have hww : Wires wr (NB + 1) (.slice none 0 0) (.slice none 0 0) := by rw [hwe]; exact hwi
              clear hwe
              have hd := nDo_any px tx (.slice none 0 0) _ 2 ml wr hTw.x hmr
              rw [quit_open] at hd
              go_wp2_with fail
              refine hd.mono ?_
              rintro e w7 he
              obtain ⟨v7, l7, ox7, rfl, -, -, hT7, hO7, hm7⟩ := hTw.act he
              have s0 := hO7.cell (a := ⟨NB, 0, none⟩) r0 (by show ¬ NB = px; omega)
              clear hd he
              have hd := nDo_any px tx ox7 _ 0 ml w7 hT7.x hm7
              rw [quit_up l 10 (by decide), up_quit l m, up_pack l m] at hd
              go_wp2_with fail
              refine hd.mono ?_
              rintro e w8 he
              obtain ⟨v8, ly8, ox8, rfl, hl8, hq8, hT8, hO8, hm8⟩ := hT7.act he
              obtain ⟨x8, rfl, hx8⟩ := one_of hq8
              obtain ⟨a8, c8, rfl, -, -⟩ := SeqAt.form hl8.1.at
              have hO78 : Only (· = px) wr w8 := hO7.trans hO8
              have hw8 := hww.only hO78 (by show ¬ NB + 1 = px; omega)
              have y0 := hw8.c1
              have hO68 : Only (fun b => b = px ∨ b = py ∨ b = NB + 1) W6 w8 := hOr.trans (hO78.mono fun _ _ h => .inl h)
              have hs8 := hO68.size
              have hs7 : NB + 2 ≤ w7.heap.size := by have := hO7.size; omega
              have HQ8 := Lib.hid hq8
              simp only [List.length_cons, List.length_nil, Nat.zero_add]
              clear hd he hT7 hm7 hq8 hx8 s0
              go_wp2_with (at_builtin; go_loud (refine wpList_appPs rfl _ _ rfl (NB + 2) (by omega) (.slice none 0 0) (.slice a8 [x8].length c8) [] [x8] (OwnE.nil _ _ _) hl8.1.at rfl rfl (by simp) ?_; intro v9 w9 hv9 ho9 hat9; obtain ⟨a9, c9, rfl, -, -⟩ := SeqAt.form hv9.at; obtain ⟨hw9, hp9, hpo9, hne9, hT9, hm9, hO9⟩ := wire_step 1 hT8 hw8 ⟨OwnE.nil _ _ _, fun x hx => absurd hx (by simp)⟩ hl8.2 hs7 ⟨OwnE.nil _ _ _, fun x hx => absurd hx (by simp)⟩ (vo := .slice none 0 0) (lo := []) (fun k hk => by cases hk) hm8 hgN hv9 ho9 hat9 hsz hO68 (.inr (.inr rfl)); have u0 := hw9.c1; have u1 := hw9.f 1))
              go_roundw
              case rel => exact ⟨hm9, hO9, .inr (.inl ⟨by simp [go_sem], _, _, ox8, hw9.set1 _, hp9, HQ8, hT9⟩)⟩
              case measure => simp [intOf]
            · have hd := nDo_any py ty (.slice none 0 0) _ 2 ml wr hTr.swap.x hmr
              rw [quit_open] at hd
              go_wp2_with fail
              refine hd.mono ?_
              rintro e w7 he
              obtain ⟨v7, l7, ox7, rfl, -, -, hT7, hO7, hm7⟩ := hTr.swap.act he
              have s0 := hO7.cell (a := ⟨NB, 1, none⟩) r1 (by show ¬ NB = py; omega)
              clear hd he
              have hd := nDo_any py ty ox7 _ 0 ml w7 hT7.x hm7
              rw [quit_up m 10 (by decide), up_quit m l, up_pack m l] at hd
              go_wp2_with fail
              refine hd.mono ?_
              rintro e w8 he
              obtain ⟨v8, ly8, ox8, rfl, hl8, hq8, hT8, hO8, hm8⟩ := hT7.act he
              obtain ⟨x8, rfl, hx8⟩ := one_of hq8
              obtain ⟨a8, c8, rfl, -, -⟩ := SeqAt.form hl8.1.at
              have hO78 : Only (· = py) wr w8 := hO7.trans hO8
              have hw8 := hwr.only hO78 (by show ¬ NB + 1 = py; omega)
              have y0 := hw8.c0
              have hO68 : Only (fun b => b = px ∨ b = py ∨ b = NB + 1) W6 w8 := hOr.trans (hO78.mono fun _ _ h => .inr (.inl h))
              have hs8 := hO68.size
              have hs7 : NB + 2 ≤ w7.heap.size := by have := hO7.size; omega
              have HQ8 := Lib.hid hq8
              simp only [List.length_cons, List.length_nil, Nat.zero_add]
              clear hd he hT7 hm7 hq8 hx8 s0
              go_wp2_with (at_builtin; go_loud (refine wpList_appPs rfl _ _ rfl (NB + 2) (by omega) (.slice none 0 0) (.slice a8 [x8].length c8) [] [x8] (OwnE.nil _ _ _) hl8.1.at rfl rfl (by simp) ?_; intro v9 w9 hv9 ho9 hat9; obtain ⟨a9, c9, rfl, -, -⟩ := SeqAt.form hv9.at; obtain ⟨hw9, hp9, hpo9, hne9, hT9, hm9, hO9⟩ := wire_step 0 hT8.swap hw8 ⟨OwnE.nil _ _ _, fun x hx => absurd hx (by simp)⟩ hl8.2 hs7 (hly.only hO78 (by omega)) (fun k hk => by intro e; cases e) hm8 hgN hv9 ho9 hat9 hsz hO68 (.inr (.inr rfl)); have u0 := hw9.c0; have u1 := hw9.f 0))
              go_roundw
              case rel => exact ⟨hm9, hO9, .inr (.inr ⟨by simp [go_sem], _, v1, _, ly, ox, ox8, hw9.set0 _, hp9, HQ8, hpo9, HLY, (fun k hk e => hne9 k e hk), hT9⟩)⟩
              case measure => simp [intOf]
            · go_wp2_with fail
              go_loopw [16] (fun i wr => ∃ (n : Nat) (g : SyG) (v0 v1 : Value) (lx ly : List PackV) (ox oy : Value), i = .int .i64 (n : Nat) ∧ Hid (AtG l.short m.short 10 n g) ∧ Wires wr (NB + 1) v0 v1 ∧ PacksOwn wr (NB + 2) v0 lx ∧ Hid (lx.map (·.1) = g.tox.map (concP m l)) ∧ PacksOwn wr (NB + 2) v1 ly ∧ Hid (ly.map (·.1) = g.toy.map (concP l m)) ∧ Hid (∀ k, v0.ownBlock = some k → v1.ownBlock ≠ some k) ∧ TwoAt wr NB px tx py ty ox oy (concN l m g.x) (concN m l g.y) ∧ MaxLenIs wr ml ∧ Only (fun b => b = px ∨ b = py ∨ b = NB + 1) W6 wr) (fun i _ => 40 - (intOf i).toNat)
              case atStart => exact ⟨0, initG 10, v0, v1, lx, ly, ox, oy, rfl, Lib.hid (atG_init _ _ _), hwr, hlx, HLX, hly, HLY, Lib.hid hne, hTr, hmr, hOr⟩
              case round =>
                clear hTr hwr hlx hly hne hmr hOr r0 r1 hszr HLX HLY
                obtain ⟨n, g, v0, v1, lx, ly, ox, oy, rfl, HAT, hwr, hlx, HLX, hly, HLY, HNE, hTr, hmr, hOr⟩ := hrel
                obtain ⟨hn40, hok⟩ := two_ok _ _ HAT.out
                have HOK := Lib.hid hok
                obtain ⟨hfx, hfy⟩ := ok_few hok
                clear hok
                obtain ⟨a0, c0, rfl, hc01, hc02⟩ := SeqAt.form hlx.1.at
                obtain ⟨a1, c1, rfl, hc11, hc12⟩ := SeqAt.form hly.1.at
                have q0 := hwr.c0
                have q1 := hwr.c1
                have r0 := hOr.cell (a := ⟨NB, 0, none⟩) n0 hN0
                have r1 := hOr.cell (a := ⟨NB, 1, none⟩) n1 hN0
                have hszr := hOr.size
                have hNs : NB + 1 < wr.heap.size := by omega
                have hNs0 : NB < wr.heap.size := by omega
                have hly1 : ly.length = g.toy.length := by have := congrArg List.length HLY.out; simpa using this
                have hlx1 : lx.length = g.tox.length := by have := congrArg List.length HLX.out; simpa using this
                obtain ⟨ny, hny⟩ : ∃ n, ly.length = n := ⟨_, rfl⟩
                obtain ⟨nx, hnx⟩ : ∃ n, lx.length = n := ⟨_, rfl⟩
                have HNY := Lib.hid hny
                have HNX := Lib.hid hnx
                rw [hny] at hly1 hc11 q1 hly
                rw [hnx] at hlx1 hc01 q0 hlx
                have hwr' := hwr
                rw [hny, hnx] at hwr'
                clear hwr hny hnx
                have hnx8 : nx ≤ 8 := by omega
                have hny8 : ny ≤ 8 := by omega
                have hn200 : (n : Int) < 200 := by omega
                have hn200d : decide ((n : Int) < 200) = true := decide_eq_true hn200
                have hc0m : c0 ≤ 9223372036854775807 := by unfold maxLen at hc02; omega
                have hc1m : c1 ≤ 9223372036854775807 := by unfold maxLen at hc12; omega
                cases hd : doneG g with
                | true =>
                  have hz : ny = 0 ∧ nx = 0 := by
                    unfold doneG at hd
                    simp only [Bool.and_eq_true, List.isEmpty_iff] at hd
                    rw [hd.1] at hlx1; rw [hd.2] at hly1
                    exact ⟨hly1, hlx1⟩
                  obtain ⟨rfl, rfl⟩ := hz
                  have hgd := ok_done HOK.out hd
                  have hsx := state_any px tx ox _ wr hTr.x.blk
                  have hsy := state_any py ty oy _ wr hTr.y.blk
                  rw [show (concN l m g.x).state = 9 from hgd.1] at hsx
                  rw [show (concN m l g.y).state = 9 from hgd.2.1] at hsy
                  obtain ⟨L1, hL1⟩ : ∃ x, lk m g.y.cut = x := ⟨_, rfl⟩
                  obtain ⟨L2, hL2⟩ : ∃ x, lk l g.x.cut = x := ⟨_, rfl⟩
                  have z1 : (concN l m g.x).other = L1 := by rw [← hL1]; simp only [concN, hgd.2.2.1]
                  have z2 : (concN m l g.y).own = L1 := hL1
                  have z3 : (concN m l g.y).other = L2 := by rw [← hL2]; simp only [concN, hgd.2.2.2]
                  have z4 : (concN l m g.x).own = L2 := hL2
                  have ho1 := other_any px tx ox _ wr hTr.x.blk
                  have ho2 := fun w' (h : TwoAt w' NB px tx py ty ox oy (concN l m g.x) (concN m l g.y)) => own_any py ty oy _ w' h.y.blk
                  have ho3 := fun w' (h : TwoAt w' NB px tx py ty ox oy (concN l m g.x) (concN m l g.y)) => other_any py ty oy _ w' h.y.blk
                  have ho4 := fun w' (h : TwoAt w' NB px tx py ty ox oy (concN l m g.x) (concN m l g.y)) => own_any px tx ox _ w' h.x.blk
                  rw [z1] at ho1
                  rw [z2] at ho2
                  rw [z3] at ho3
                  rw [z4] at ho4
                  have hle1 := link_eql L1
                  have hle2 := link_eql L2
                  unfold linkCells at ho1 ho2 ho3 ho4 hle1 hle2
                  have HTF := Lib.hid hTr
                  have HBF : Hid (Below w.heap.size w wr) := Lib.hid (((Only.ofBelow (S := fun b => b = px ∨ b = py ∨ b = NB + 1) hB6).trans hOr).below (Nat.le_refl _) (fun k e => by omega))
                  have hsumw : IntKind.i64.wrap (((0 : Nat) : Int) + ((0 : Nat) : Int)) = 0 := by decide
                  have hsumd : decide ((0 : Int) < 0) = false := by decide
                  clear hTr hlx hly hmr hOr hgd HAT HLX HLY hd HOK z1 z2 z3 z4 hL1 hL2 hly1 hlx1 hT6 hm6 hwi HNE
                  go_wp2_with fail
                  refine hsx.mono ?_
                  rintro e w' ⟨rfl, rfl⟩
                  go_wp2_with fail
                  refine hsy.mono ?_
                  rintro e w' ⟨rfl, rfl⟩
                  go_wp2_with fail
                  refine ho1.mono ?_
                  rintro e w7 ⟨rfl, hb7⟩
                  have HT7 := Lib.hid (HTF.out.below hb7)
                  go_wp2_with fail
                  refine (ho2 _ HT7.out).mono ?_
                  rintro e w8 ⟨rfl, hb8⟩
                  have HT8 := Lib.hid (HT7.out.below hb8)
                  go_wp2_with fail
                  refine (ho3 _ HT8.out).mono ?_
                  rintro e w9 ⟨rfl, hb9⟩
                  have HT9 := Lib.hid (HT8.out.below hb9)
                  go_wp2_with fail
                  refine (ho4 _ HT9.out).mono ?_
                  rintro e w10 ⟨rfl, hb10⟩
                  go_wp2_with fail
                  go_ret
                  exact ⟨rfl, seqB (seqB (seqB (seqB HBF.out hb7) hb8) hb9) hb10⟩
                | false =>
                  have hpos : 0 < nx + ny := by
                    rcases Nat.eq_zero_or_pos (nx + ny) with h0 | h0
                    · exfalso
                      have e1 : g.toy = [] := List.eq_nil_of_length_eq_zero (by omega)
                      have e2 : g.tox = [] := List.eq_nil_of_length_eq_zero (by omega)
                      unfold doneG at hd
                      rw [e1, e2] at hd
                      cases hd
                    · exact h0
                  have hposd : decide ((0 : Int) < (nx : Int) + (ny : Int)) = true := decide_eq_true (by omega)
                  have hposw : IntKind.i64.wrap ((nx : Int) + (ny : Int)) = (nx : Int) + (ny : Int) := IntWalk.i64_in _ (by omega)
                  have HD := Lib.hid hd
                  have HLY1 := Lib.hid hly1
                  have HLX1 := Lib.hid hlx1
                  clear hd hly1 hlx1
                  have hbt1 : bits BinOp.and IntKind.i64 (n : Int) 1 = (n : Int) % 2 := i64_and1 n
                  obtain ⟨kn, hkn⟩ : ∃ kn : Nat, (n : Int) % 2 = kn := ⟨n % 2, by omega⟩
                  have hkn2 : kn < 2 := by omega
                  rw [hkn] at hbt1
                  clear hkn
                  go_upto_if 109 with fail
                  go_cut [17] from 90 to 155 (fun k wx => ∃ kk : Nat, kk < 2 ∧ k = .int .i64 (kk : Nat) ∧ wr = wx)
                  case first =>
                    by_cases hpl : n < len
                    · have hpd : decide ((n : Int) < (len : Int)) = true := decide_eq_true (by omega)
                      rcases hin with ⟨-, rfl, -⟩ | ⟨⟨gx, og, sx⟩, rfl, hlc, hcm, hzl, hzc, -⟩
                      · omega
                      have hz0 := hzc n (by omega)
                      obtain rfl : sx = none := by
                        have := World.cell?_spot (hzc 0 (by omega))
                        simpa [Addr.add] using this
                      have hadd : (⟨gx, og, none⟩ : Addr).add n = ⟨gx, og + n, none⟩ := addr_add gx og n
                      rw [hadd] at hz0
                      have hgw := block_lt_of_cell hz0
                      dsimp only at hgw
                      have hz1 := (fsm_below_cell hB6 hz0)
                      have hz2 := hOr.cell (a := ⟨gx, og + n, none⟩) hz1 (by show ¬ (gx = px ∨ gx = py ∨ gx = NB + 1); omega)
                      obtain ⟨ev, hev⟩ : ∃ ev, zs.getD n 0 = ev := ⟨_, rfl⟩
                      rw [hev] at hz2
                      have hbt2 : bits BinOp.and IntKind.i64 ev 1 = ev % 2 := i64_and1 ev
                      obtain ⟨kk, hkk⟩ : ∃ kk : Nat, ev % 2 = kk := ⟨(ev % 2).toNat, by omega⟩
                      have hkk2 : kk < 2 := by omega
                      rw [hkk] at hbt2
                      have hnl : (n : Int) < (len : Int) := by omega
                      clear hz0 hz1 hadd hev hzc hzl hkk hgw
                      go_wp2_with fail
                      go_meet
                      case rel => exact ⟨kk, hkk2, rfl, rfl⟩
                    · have hpd : decide ((n : Int) < (len : Int)) = false := decide_eq_false (by omega)
                      have hnl : ¬ (n : Int) < (len : Int) := by omega
                      go_wp2_with fail
                      go_meet
                      case rel => exact ⟨kn, hkn2, rfl, rfl⟩
                  case rest =>
                    obtain ⟨kk, hkk2, rfl, rfl⟩ := hcut
                    clear hbt1
                    go_upto_region 23 with fail
                    go_cut [17, 119] from 90 to 155 (fun k e wx => wr = wx ∧ ((k = .int .i64 0 ∧ e = .bool true ∧ nx = 0 ∧ 0 < ny) ∨ (k = .int .i64 0 ∧ e = .bool false ∧ 0 < nx) ∨ (k = .int .i64 1 ∧ e = .bool true ∧ ny = 0 ∧ 0 < nx) ∨ (k = .int .i64 1 ∧ e = .bool false ∧ 0 < ny)))
                    case first =>
                      obtain rfl | rfl : kk = 0 ∨ kk = 1 := by omega
                      · by_cases hx0 : nx = 0
                        · have hy1 : 0 < ny := by omega
                          have hxe : ((nx : Int) == 0) = true := by simp [hx0]
                          have hxd : decide ((nx : Int) = 0) = true := by simp [hx0]
                          have HX0 := Lib.hid hx0
                          clear hx0
                          go_wp2_with fail
                          go_meet
                          case rel => exact ⟨rfl, .inl ⟨rfl, rfl, HX0.out, hy1⟩⟩
                        · have hx1 : 0 < nx := by omega
                          have hxe : ((nx : Int) == 0) = false := by simp [hx0]
                          have hxd : decide ((nx : Int) = 0) = false := by simp [hx0]
                          go_wp2_with fail
                          go_meet
                          case rel => exact ⟨rfl, .inr (.inl ⟨rfl, rfl, hx1⟩)⟩
                      · by_cases hy0 : ny = 0
                        · have hx1 : 0 < nx := by omega
                          have hxe : ((ny : Int) == 0) = true := by simp [hy0]
                          have hxd : decide ((ny : Int) = 0) = true := by simp [hy0]
                          have HY0 := Lib.hid hy0
                          clear hy0
                          go_wp2_with fail
                          go_meet
                          case rel => exact ⟨rfl, .inr (.inr (.inl ⟨rfl, rfl, HY0.out, hx1⟩))⟩
                        · have hy1 : 0 < ny := by omega
                          have hxe : ((ny : Int) == 0) = false := by simp [hy0]
                          have hxd : decide ((ny : Int) = 0) = false := by simp [hy0]
                          go_wp2_with fail
                          go_meet
                          case rel => exact ⟨rfl, .inr (.inr (.inr ⟨rfl, rfl, hy1⟩))⟩
                    case rest =>
                      obtain ⟨rfl, hcc⟩ := hcut
                      go_upto_if 119 with fail
                      go_cut [17] from 90 to 155 (fun k wx => wr = wx ∧ ((k = .int .i64 1 ∧ 0 < ny) ∨ (k = .int .i64 0 ∧ 0 < nx)))
                      case first =>
                        rcases hcc with ⟨rfl, rfl, -, hy1⟩ | ⟨rfl, rfl, hx1⟩ | ⟨rfl, rfl, -, hx1⟩ | ⟨rfl, rfl, hy1⟩
                        · go_wp2_with fail
                          go_meet
                          case rel => exact ⟨rfl, .inl ⟨rfl, hy1⟩⟩
                        · go_wp2_with fail
                          go_meet
                          case rel => exact ⟨rfl, .inr ⟨rfl, hx1⟩⟩
                        · go_wp2_with fail
                          go_meet
                          case rel => exact ⟨rfl, .inr ⟨rfl, hx1⟩⟩
                        · go_wp2_with fail
                          go_meet
                          case rel => exact ⟨rfl, .inl ⟨rfl, hy1⟩⟩
                      case rest =>
                        clear hcc
                        obtain ⟨rfl, ⟨rfl, hy1⟩ | ⟨rfl, hx1⟩⟩ := hcut
                        · have he1 : ¬ ((ny : Int) = 0) := by omega
                          obtain ⟨y0, lyr, rfl⟩ : ∃ y r, ly = y :: r := by
                            cases ly with
                            | nil => exact absurd HNY.out (by simp; omega)
                            | cons y r => exact ⟨y, r, rfl⟩
                          obtain ⟨gb, hgb, hgB, hgl, -, hgc1, hgc2, z0, z1, z2, z3⟩ := hly.cells 0 (by simp)
                          cases hgb
                          simp only [List.getElem_cons_zero, Nat.zero_mul, Nat.zero_add] at z0 z1 z2 z3
                          obtain ⟨tp, tr, htoy, hek, HLR⟩ : ∃ tp tr, g.toy = tp :: tr ∧ y0.1 = concP l m tp ∧ Hid (lyr.map (·.1) = tr.map (concP l m)) := by
                            have e := HLY.out
                            cases hq : g.toy with
                            | nil => rw [hq] at e; cases e
                            | cons tp tr =>
                              rw [hq, List.map_cons, List.map_cons] at e
                              injection e with e1 e2
                              exact ⟨tp, tr, rfl, e1, Lib.hid e2⟩
                          obtain ⟨g', hgs⟩ := ok_step HOK.out HD.out true
                          obtain ⟨sy, out, htk, hge⟩ := stepG_y htoy hgs
                          have HAT2 := Lib.hid (atG_step HAT.out HD.out hgs)
                          have hfew := ok_few (two_ok _ _ HAT2.out).2
                          rw [hge] at HAT2 hfew
                          have hsim := sim_take hb2 hb1 hf2 _ _ _ _ htk
                          obtain ⟨pk, hpk⟩ : ∃ x, concP l m tp = x := ⟨_, rfl⟩
                          have hpkd : pk.data.size ≤ 4611686018427387904 := by rw [← hpk]; exact (show (⟨#[]⟩ : ByteArray).size ≤ 4611686018427387904 by decide)
                          rw [hpk] at hsim hek
                          have ht : ∀ W, TwoAt W NB px tx py ty ox oy (concN l m g.x) (concN m l g.y) → MaxLenIs W ml → OptsAt W (slOf y0) pk.opts → Calls Tryd.prog 18 #[.pointer (some ⟨py, 0, none⟩), .agg (packCells pk (slOf y0))] W (ActPost py ty oy (concN m l g.y) (concN m l sy, out.map (concP m l), 0) ml W) := fun W h1 h2 h3 => by rw [← hsim]; exact nTake_any py ty oy (slOf y0) _ pk ml W h1.y h2 h3 hpkd
                          have hop := hly.2 y0 (List.mem_cons_self ..)
                          rw [hek] at z0 z1 z3 hop
                          have z2' := z2
                          unfold slOf at z2'
                          rw [hek] at z2'
                          unfold packCells slOf at ht
                          rw [hek] at ht
                          have HNL : Hid (ny = lyr.length + 1) := Lib.hid (by rw [← HNY.out]; rfl)
                          obtain ⟨W, hWd⟩ : ∃ W, (wr.alloc (.cells #[.int .i64 pk.code, .int .i64 pk.id, .slice y0.2.1 pk.opts.length y0.2.2, .string pk.data] 41)).alloc (.cells #[] 41) = W := ⟨_, rfl⟩
                          obtain ⟨hWs, hbW, hemp, p0, p1, p2, p3⟩ := box_alloc (NB := NB) hWd (by omega)
                          have hTW := hTr.below hbW
                          have hwW : Wires W (NB + 1) _ _ := below_of hbW hwr'
                          have vK := Wires.c1 hwW
                          have hmW := hmr.below hbW
                          have hOW := hOr.then hbW
                          have hsrc := tail_at (hly.1.below hbW) HNL.out
                          obtain ⟨sv, hsv⟩ : ∃ a : Option Addr, (if c1 = 1 then some ⟨gb, 0, none⟩ else some ⟨gb, 4, none⟩) = a := ⟨_, rfl⟩
                          rw [hsv] at hsrc
                          have hvo := PacksOwn.below hlx hbW
                          have hvn := row_fresh hlx (wr.heap.size + 1) (by omega)
                          have hl2 : ∀ y ∈ lyr, OwnE optE W (NB + 2) (slOf y) y.1.opts := fun y hy => (hly.2 y (List.mem_cons_of_mem _ hy)).below hbW
                          have hopW := hop.below hbW
                          have hoplt := SeqAt.lt hop.at
                          have hopge := hop.block
                          have rW := fsm_below_cell hbW r1
                          have hlyl : lyr.length ≤ 8 := by have := HNL.out; omega
                          have HNW := Lib.hid hWs
                          have HBW := Lib.hid hbW
                          have HTW := Lib.hid hTW
                          have HWW := Lib.hid hwW
                          have HSRC := Lib.hid hsrc
                          have HEMP := Lib.hid hemp
                          have HOPW := Lib.hid hopW
                          have hbase : NB + 2 ≤ W.heap.size := by omega
                          clear z2 hsim hpk htoy hge hgs htk hWs hbW hTW hwW hsrc hemp hopW r0 r1
                          go_wp2_with (at_builtin; (try rw [hWd]); (try rw [hsv]); go_loud (refine wpList_appPs rfl _ _ rfl (NB + 2) hbase (.slice (some ⟨wr.heap.size + 1, 0, none⟩) 0 0) (.slice sv (ny - 1) (c1 - 1)) [] lyr HEMP.out HSRC.out rfl rfl (by simp; omega) ?_; intro v9 w9 hv9 ho9 hat9; obtain ⟨a9, c9, rfl, -, -⟩ := SeqAt.form hv9.at; obtain ⟨hw9, hp9, hpo9, hne9, hT9, hm9, hO9⟩ := wire_step 1 HTW.out HWW.out ⟨HEMP.out, fun x hx => absurd hx (by simp)⟩ hl2 (Nat.le_refl _) hvo hvn hmW hgN hv9 ho9 hat9 hsz hOW (.inr (.inr rfl)); have u1 := hw9.c1; have u2 := hw9.f 1; have hNs9 : NB + 1 < w9.heap.size := by have := ho9.size; omega))
                          obtain ⟨w10, hw10⟩ : ∃ W10, w9.setCell ⟨NB + 1, 1, none⟩ (.slice a9 lyr.length c9) = W10 := ⟨_, rfl⟩
                          have hw10' : w9.setCell ⟨NB + 1, 1, none⟩ (.slice a9 ([] ++ lyr).length c9) = w10 := hw10
                          have hset : Only (· = NB + 1) w9 w10 := by rw [← hw10]; exact Only.set (S := (· = NB + 1)) (Only.refl _ _) (.inl rfl) _
                          have hWW : Only (fun b => b = wr.heap.size + 1 ∨ b = NB + 1) W w10 := (ho9.mono fun k hk e => .inl (Option.some.inj e).symm).trans (hset.mono fun k hk e => .inr e)
                          have hb9 : ∀ i, ¬ ((⟨wr.heap.size, i, none⟩ : Addr).block = wr.heap.size + 1 ∨ (⟨wr.heap.size, i, none⟩ : Addr).block = NB + 1) := fun i => by show ¬ (wr.heap.size = wr.heap.size + 1 ∨ wr.heap.size = NB + 1); omega
                          have b0 := hWW.cell (a := ⟨wr.heap.size, 0, none⟩) p0 (hb9 0)
                          have b1 := hWW.cell (a := ⟨wr.heap.size, 1, none⟩) p1 (hb9 1)
                          have b2 := hWW.cell (a := ⟨wr.heap.size, 2, none⟩) p2 (hb9 2)
                          have b3 := hWW.cell (a := ⟨wr.heap.size, 3, none⟩) p3 (hb9 3)
                          have m1 := hWW.cell (a := ⟨NB, 1, none⟩) rW (by show ¬ (NB = wr.heap.size + 1 ∨ NB = NB + 1); omega)
                          have hop10 : OwnE optE w10 (NB + 2) (slOf y0) pk.opts := HOPW.out.only hWW (fun k hk e => by have := hoplt k hk; have := hopge k hk; omega)
                          have hw10W := hw9.set1 (.slice a9 lyr.length c9)
                          rw [hw10] at hw10W ⊢
                          rw [hw10'] at hT9 hp9 hpo9 hm9 hO9
                          have hp10 : PacksOwn w10 (NB + 2) (.slice a9 lyr.length c9) lyr := hp9
                          have hTd := hT9.below (Below.refl _ _).drew
                          have hmd := hm9.below (Below.refl _ _).drew
                          have hopd : OptsAt w10.drew (slOf y0) pk.opts := SeqAt.below hop10.at (Below.refl _ _).drew
                          unfold slOf at hopd
                          rw [hek] at hopd
                          have htd := ht _ hTd hmd hopd
                          have hs10 : NB + 2 ≤ w10.drew.heap.size := hO9.drew.size |> Nat.le_trans (by omega)
                          have hPn : ¬ NB = py := by omega
                          have hPs : ¬ wr.heap.size = py := by omega
                          clear hw10 hw10' hset hWW hb9 p0 p1 p2 p3 rW hop10 hp9 u1 u2 hmd hopd ht hWd hsv HSRC HEMP HOPW HTW HWW hvo hvn hl2 hmW hOW hv9 ho9 hat9 hw9 z0 z1 z3 z2' q0 q1 vK
                          refine wp_schedL (fun w' => w'.cell? ⟨NB, 1, none⟩ = some (.pointer (some ⟨py, 0, none⟩)) ∧ w'.cell? ⟨wr.heap.size, 0, none⟩ = some (.int .i64 pk.code) ∧ w'.cell? ⟨wr.heap.size, 1, none⟩ = some (.int .i64 pk.id) ∧ w'.cell? ⟨wr.heap.size, 2, none⟩ = some (.slice y0.2.1 pk.opts.length y0.2.2) ∧ w'.cell? ⟨wr.heap.size, 3, none⟩ = some (.string pk.data)) [(0, true), (1, true), (2, true), (3, true), (4, true), (5, false), (6, true), (7, true), (8, true), (9, true), (10, true)] (by kernel_rfl) (by kernel_rfl) rfl (by kernel_rfl) (by kernel_rfl) ⟨m1, b0, b1, b2, b3⟩ (fun _ d _ _ _ h => by cases d <;> exact h) ?_
                          simp only [schedOps, List.filterMap_cons, List.filterMap_nil, List.getElem?_toArray, List.getElem?_cons_zero, List.getElem?_cons_succ, Option.map_some]
                          repeat (first | (refine' wpSched_take _ (by rfl) (fun wS hS => ?_) ?_; rotate_left; (focus (obtain ⟨j0, j1, j2, j3, j4⟩ := hS; go_simp; first | done | rfl)); (try simp only [Act.put, List.setIfInBounds_toArray, List.set_cons_zero, List.set_cons_succ])) | (refine wpSched_skip (by rfl) ?_; try simp only [Act.put, List.setIfInBounds_toArray, List.set_cons_zero, List.set_cons_succ]))
                          refine wpSched_run (fun K hK => ?_)
                          go_wp2_with (go_at_call 18; refine htd.mono ?_; rintro e w11 he; obtain ⟨v11, l11, o11, rfl, hl11, hq11, hT11, hO11, hm11⟩ := hTd.swap.act he; obtain ⟨a11, c11, rfl, -, -⟩ := SeqAt.form hl11.1.at)
                          refine QRun_normal (hK.out _ _ ⟨hO11.cell (w := w10.drew) (a := ⟨NB, 1, none⟩) m1 hPn, hO11.cell (w := w10.drew) (a := ⟨wr.heap.size, 0, none⟩) b0 hPs, hO11.cell (w := w10.drew) (a := ⟨wr.heap.size, 1, none⟩) b1 hPs, hO11.cell (w := w10.drew) (a := ⟨wr.heap.size, 2, none⟩) b2 hPs, hO11.cell (w := w10.drew) (a := ⟨wr.heap.size, 3, none⟩) b3 hPs⟩ ?_)
                          clear hK K
                          repeat (first | (refine' wpSched_take _ (by rfl) (fun wS hS => ?_) ?_; rotate_left; (focus (obtain ⟨j0, j1, j2, j3, j4⟩ := hS; go_simp; first | done | rfl)); (try simp only [Act.put, List.setIfInBounds_toArray, List.set_cons_zero, List.set_cons_succ])) | (refine wpSched_skip (by rfl) ?_; try simp only [Act.put, List.setIfInBounds_toArray, List.set_cons_zero, List.set_cons_succ]))
                          refine wpSched_done ?_
                          have hT12 : TwoAt w11 NB px tx py ty ox o11 (concN l m g.x) (concN m l sy) := hT11.swap
                          have hO1011 : Only (· = py) w10 w11 := ((Only.refl (· = py) w10).drew).trans hO11
                          have hw11 := hw10W.only hO1011 (by show ¬ NB + 1 = py; omega)
                          have hp11 := PacksOwn.only hp10 hO1011 (by omega)
                          have hpo11 := PacksOwn.only hpo9 hO1011 (by omega)
                          have hO611 : Only (fun b => b = px ∨ b = py ∨ b = NB + 1) W6 w11 := hO9.trans (hO1011.mono fun _ _ h => .inr (.inl h))
                          have t0 := Wires.c0 hw11
                          have hs11 : NB + 2 ≤ w11.heap.size := Nat.le_trans hs10 hO11.size
                          have HLEN : Hid (lx.length + l11.length ≤ 8) := Lib.hid (by
                            have e1 := congrArg List.length hq11
                            have e2 := congrArg List.length HLX.out
                            simp only [List.length_map] at e1 e2
                            have e3 := hfew
                            simp only [List.length_append] at e3
                            omega)
                          have HQ11 := Lib.hid hq11
                          clear htd hTd m1 b0 b1 b2 b3 hT11 hO11 hO1011 hw10W hp10 hpo9 hT9 hm9 hO9 hq11 hfew
                          go_wp2_with (first
                            | (go_at_call 13; refine (num_any _ _).mono ?_; rintro e w' ⟨rfl, rfl⟩)
                            | (at_builtin; go_loud (refine wpList_appPs rfl _ _ rfl (NB + 2) hs11 (.slice a0 _ c0) (.slice a11 l11.length c11) lx l11 hpo11.1 hl11.1.at rfl rfl (by have := HLEN.out; omega) ?_; intro v12 w12 hv12 ho12 hat12; obtain ⟨a12, c12, rfl, -, -⟩ := SeqAt.form hv12.at; obtain ⟨hw12, hp12, hpo12, hne12, hT13, hm12, hO12⟩ := wire_step 0 hT12 hw11 hpo11 hl11.2 hs10 hp11 (fun k hk e => hne9 k e hk) hm11 hgN hv12 ho12 hat12 hsz hO611 (.inr (.inr rfl)); have u3 := Wires.c0 hw12; have u4 := hw12.f 0; have hNs12 : NB + 1 < w12.heap.size := by have := ho12.size; omega)))
                          rw [List.length_append] at hp12 hpo12 hne12 hT13 hm12 hO12
                          go_roundw
                          case rel => exact ⟨n + 1, ⟨g.x, sy, g.tox ++ out, tr⟩, _, _, lx ++ l11, lyr, ox, o11, by simp [go_sem], HAT2, hw12.set0 _, hp12, Lib.hid (by rw [List.map_append, HLX.out, HQ11.out, List.map_append]), hpo12, HLR, Lib.hid (fun k hk e => hne12 k e hk), hT13, hm12, hO12⟩
                          case measure => simp [intOf]; omega
                        · have he1 : ¬ ((nx : Int) = 0) := by omega
                          obtain ⟨y0, lyr, rfl⟩ : ∃ y r, lx = y :: r := by
                            cases lx with
                            | nil => exact absurd HNX.out (by simp; omega)
                            | cons y r => exact ⟨y, r, rfl⟩
                          obtain ⟨gb, hgb, hgB, hgl, -, hgc1, hgc2, z0, z1, z2, z3⟩ := hlx.cells 0 (by simp)
                          cases hgb
                          simp only [List.getElem_cons_zero, Nat.zero_mul, Nat.zero_add] at z0 z1 z2 z3
                          obtain ⟨tp, tr, htoy, hek, HLR⟩ : ∃ tp tr, g.tox = tp :: tr ∧ y0.1 = concP m l tp ∧ Hid (lyr.map (·.1) = tr.map (concP m l)) := by
                            have e := HLX.out
                            cases hq : g.tox with
                            | nil => rw [hq] at e; cases e
                            | cons tp tr =>
                              rw [hq, List.map_cons, List.map_cons] at e
                              injection e with e1 e2
                              exact ⟨tp, tr, rfl, e1, Lib.hid e2⟩
                          obtain ⟨g', hgs⟩ := ok_step HOK.out HD.out false
                          obtain ⟨sy, out, htk, hge⟩ := stepG_x htoy hgs
                          have HAT2 := Lib.hid (atG_step HAT.out HD.out hgs)
                          have hfew := ok_few (two_ok _ _ HAT2.out).2
                          rw [hge] at HAT2 hfew
                          have hsim := sim_take hb1 hb2 hf1 _ _ _ _ htk
                          obtain ⟨pk, hpk⟩ : ∃ x, concP m l tp = x := ⟨_, rfl⟩
                          have hpkd : pk.data.size ≤ 4611686018427387904 := by rw [← hpk]; exact (show (⟨#[]⟩ : ByteArray).size ≤ 4611686018427387904 by decide)
                          rw [hpk] at hsim hek
                          have ht : ∀ W, TwoAt W NB px tx py ty ox oy (concN l m g.x) (concN m l g.y) → MaxLenIs W ml → OptsAt W (slOf y0) pk.opts → Calls Tryd.prog 18 #[.pointer (some ⟨px, 0, none⟩), .agg (packCells pk (slOf y0))] W (ActPost px tx ox (concN l m g.x) (concN l m sy, out.map (concP l m), 0) ml W) := fun W h1 h2 h3 => by rw [← hsim]; exact nTake_any px tx ox (slOf y0) _ pk ml W h1.x h2 h3 hpkd
                          have hop := hlx.2 y0 (List.mem_cons_self ..)
                          rw [hek] at z0 z1 z3 hop
                          have z2' := z2
                          unfold slOf at z2'
                          rw [hek] at z2'
                          unfold packCells slOf at ht
                          rw [hek] at ht
                          have HNL : Hid (nx = lyr.length + 1) := Lib.hid (by rw [← HNX.out]; rfl)
                          obtain ⟨W, hWd⟩ : ∃ W, (wr.alloc (.cells #[.int .i64 pk.code, .int .i64 pk.id, .slice y0.2.1 pk.opts.length y0.2.2, .string pk.data] 41)).alloc (.cells #[] 41) = W := ⟨_, rfl⟩
                          obtain ⟨hWs, hbW, hemp, p0, p1, p2, p3⟩ := box_alloc (NB := NB) hWd (by omega)
                          have hTW := hTr.below hbW
                          have hwW : Wires W (NB + 1) _ _ := below_of hbW hwr'
                          have vK := Wires.c0 hwW
                          have hmW := hmr.below hbW
                          have hOW := hOr.then hbW
                          have hsrc := tail_at (hlx.1.below hbW) HNL.out
                          obtain ⟨sv, hsv⟩ : ∃ a : Option Addr, (if c0 = 1 then some ⟨gb, 0, none⟩ else some ⟨gb, 4, none⟩) = a := ⟨_, rfl⟩
                          rw [hsv] at hsrc
                          have hvo := PacksOwn.below hly hbW
                          have hvn := row_fresh hly (wr.heap.size + 1) (by omega)
                          have hl2 : ∀ y ∈ lyr, OwnE optE W (NB + 2) (slOf y) y.1.opts := fun y hy => (hlx.2 y (List.mem_cons_of_mem _ hy)).below hbW
                          have hopW := hop.below hbW
                          have hoplt := SeqAt.lt hop.at
                          have hopge := hop.block
                          have rW := fsm_below_cell hbW r0
                          have hlyl : lyr.length ≤ 8 := by have := HNL.out; omega
                          have HNW := Lib.hid hWs
                          have HBW := Lib.hid hbW
                          have HTW := Lib.hid hTW
                          have HWW := Lib.hid hwW
                          have HSRC := Lib.hid hsrc
                          have HEMP := Lib.hid hemp
                          have HOPW := Lib.hid hopW
                          have hbase : NB + 2 ≤ W.heap.size := by omega
                          clear z2 hsim hpk htoy hge hgs htk hWs hbW hTW hwW hsrc hemp hopW r0 r1
                          go_wp2_with (at_builtin; (try rw [hWd]); (try rw [hsv]); go_loud (refine wpList_appPs rfl _ _ rfl (NB + 2) hbase (.slice (some ⟨wr.heap.size + 1, 0, none⟩) 0 0) (.slice sv (nx - 1) (c0 - 1)) [] lyr HEMP.out HSRC.out rfl rfl (by simp; omega) ?_; intro v9 w9 hv9 ho9 hat9; obtain ⟨a9, c9, rfl, -, -⟩ := SeqAt.form hv9.at; obtain ⟨hw9, hp9, hpo9, hne9, hT9, hm9, hO9⟩ := wire_step 0 HTW.out HWW.out ⟨HEMP.out, fun x hx => absurd hx (by simp)⟩ hl2 (Nat.le_refl _) hvo hvn hmW hgN hv9 ho9 hat9 hsz hOW (.inr (.inr rfl)); have u1 := hw9.c0; have u2 := hw9.f 0; have hNs9 : NB + 1 < w9.heap.size := by have := ho9.size; omega))
                          obtain ⟨w10, hw10⟩ : ∃ W10, w9.setCell ⟨NB + 1, 0, none⟩ (.slice a9 lyr.length c9) = W10 := ⟨_, rfl⟩
                          have hw10' : w9.setCell ⟨NB + 1, 0, none⟩ (.slice a9 ([] ++ lyr).length c9) = w10 := hw10
                          have hset : Only (· = NB + 1) w9 w10 := by rw [← hw10]; exact Only.set (S := (· = NB + 1)) (Only.refl _ _) (.inl rfl) _
                          have hWW : Only (fun b => b = wr.heap.size + 1 ∨ b = NB + 1) W w10 := (ho9.mono fun k hk e => .inl (Option.some.inj e).symm).trans (hset.mono fun k hk e => .inr e)
                          have hb9 : ∀ i, ¬ ((⟨wr.heap.size, i, none⟩ : Addr).block = wr.heap.size + 1 ∨ (⟨wr.heap.size, i, none⟩ : Addr).block = NB + 1) := fun i => by show ¬ (wr.heap.size = wr.heap.size + 1 ∨ wr.heap.size = NB + 1); omega
                          have b0 := hWW.cell (a := ⟨wr.heap.size, 0, none⟩) p0 (hb9 0)
                          have b1 := hWW.cell (a := ⟨wr.heap.size, 1, none⟩) p1 (hb9 1)
                          have b2 := hWW.cell (a := ⟨wr.heap.size, 2, none⟩) p2 (hb9 2)
                          have b3 := hWW.cell (a := ⟨wr.heap.size, 3, none⟩) p3 (hb9 3)
                          have m1 := hWW.cell (a := ⟨NB, 0, none⟩) rW (by show ¬ (NB = wr.heap.size + 1 ∨ NB = NB + 1); omega)
                          have hop10 : OwnE optE w10 (NB + 2) (slOf y0) pk.opts := HOPW.out.only hWW (fun k hk e => by have := hoplt k hk; have := hopge k hk; omega)
                          have hw10W := hw9.set0 (.slice a9 lyr.length c9)
                          rw [hw10] at hw10W ⊢
                          rw [hw10'] at hT9 hp9 hpo9 hm9 hO9
                          have hp10 : PacksOwn w10 (NB + 2) (.slice a9 lyr.length c9) lyr := hp9
                          have hTd := hT9.below (Below.refl _ _).drew
                          have hmd := hm9.below (Below.refl _ _).drew
                          have hopd : OptsAt w10.drew (slOf y0) pk.opts := SeqAt.below hop10.at (Below.refl _ _).drew
                          unfold slOf at hopd
                          rw [hek] at hopd
                          have htd := ht _ hTd hmd hopd
                          have hs10 : NB + 2 ≤ w10.drew.heap.size := hO9.drew.size |> Nat.le_trans (by omega)
                          have hPn : ¬ NB = px := by omega
                          have hPs : ¬ wr.heap.size = px := by omega
                          clear hw10 hw10' hset hWW hb9 p0 p1 p2 p3 rW hop10 hp9 u1 u2 hmd hopd ht hWd hsv HSRC HEMP HOPW HTW HWW hvo hvn hl2 hmW hOW hv9 ho9 hat9 hw9 z0 z1 z3 z2' q0 q1 vK
                          refine wp_schedL (fun w' => w'.cell? ⟨NB, 0, none⟩ = some (.pointer (some ⟨px, 0, none⟩)) ∧ w'.cell? ⟨wr.heap.size, 0, none⟩ = some (.int .i64 pk.code) ∧ w'.cell? ⟨wr.heap.size, 1, none⟩ = some (.int .i64 pk.id) ∧ w'.cell? ⟨wr.heap.size, 2, none⟩ = some (.slice y0.2.1 pk.opts.length y0.2.2) ∧ w'.cell? ⟨wr.heap.size, 3, none⟩ = some (.string pk.data)) [(0, true), (1, true), (2, true), (3, true), (4, true), (5, false), (6, true), (7, true), (8, true), (9, true), (10, true)] (by kernel_rfl) (by kernel_rfl) rfl (by kernel_rfl) (by kernel_rfl) ⟨m1, b0, b1, b2, b3⟩ (fun _ d _ _ _ h => by cases d <;> exact h) ?_
                          simp only [schedOps, List.filterMap_cons, List.filterMap_nil, List.getElem?_toArray, List.getElem?_cons_zero, List.getElem?_cons_succ, Option.map_some]
                          repeat (first | (refine' wpSched_take _ (by rfl) (fun wS hS => ?_) ?_; rotate_left; (focus (obtain ⟨j0, j1, j2, j3, j4⟩ := hS; go_simp; first | done | rfl)); (try simp only [Act.put, List.setIfInBounds_toArray, List.set_cons_zero, List.set_cons_succ])) | (refine wpSched_skip (by rfl) ?_; try simp only [Act.put, List.setIfInBounds_toArray, List.set_cons_zero, List.set_cons_succ]))
                          refine wpSched_run (fun K hK => ?_)
                          go_wp2_with (go_at_call 18; refine htd.mono ?_; rintro e w11 he; obtain ⟨v11, l11, o11, rfl, hl11, hq11, hT11, hO11, hm11⟩ := hTd.act he; obtain ⟨a11, c11, rfl, -, -⟩ := SeqAt.form hl11.1.at)
                          refine QRun_normal (hK.out _ _ ⟨hO11.cell (w := w10.drew) (a := ⟨NB, 0, none⟩) m1 hPn, hO11.cell (w := w10.drew) (a := ⟨wr.heap.size, 0, none⟩) b0 hPs, hO11.cell (w := w10.drew) (a := ⟨wr.heap.size, 1, none⟩) b1 hPs, hO11.cell (w := w10.drew) (a := ⟨wr.heap.size, 2, none⟩) b2 hPs, hO11.cell (w := w10.drew) (a := ⟨wr.heap.size, 3, none⟩) b3 hPs⟩ ?_)
                          clear hK K
                          repeat (first | (refine' wpSched_take _ (by rfl) (fun wS hS => ?_) ?_; rotate_left; (focus (obtain ⟨j0, j1, j2, j3, j4⟩ := hS; go_simp; first | done | rfl)); (try simp only [Act.put, List.setIfInBounds_toArray, List.set_cons_zero, List.set_cons_succ])) | (refine wpSched_skip (by rfl) ?_; try simp only [Act.put, List.setIfInBounds_toArray, List.set_cons_zero, List.set_cons_succ]))
                          refine wpSched_done ?_
                          have hT12 : TwoAt w11 NB px tx py ty o11 oy (concN l m sy) (concN m l g.y) := hT11
                          have hO1011 : Only (· = px) w10 w11 := ((Only.refl (· = px) w10).drew).trans hO11
                          have hw11 := hw10W.only hO1011 (by show ¬ NB + 1 = px; omega)
                          have hp11 := PacksOwn.only hp10 hO1011 (by omega)
                          have hpo11 := PacksOwn.only hpo9 hO1011 (by omega)
                          have hO611 : Only (fun b => b = px ∨ b = py ∨ b = NB + 1) W6 w11 := hO9.trans (hO1011.mono fun _ _ h => .inl h)
                          have t0 := Wires.c1 hw11
                          have hs11 : NB + 2 ≤ w11.heap.size := Nat.le_trans hs10 hO11.size
                          have HLEN : Hid (ly.length + l11.length ≤ 8) := Lib.hid (by
                            have e1 := congrArg List.length hq11
                            have e2 := congrArg List.length HLY.out
                            simp only [List.length_map] at e1 e2
                            have e3 := hfew
                            simp only [List.length_append] at e3
                            omega)
                          have HQ11 := Lib.hid hq11
                          clear htd hTd m1 b0 b1 b2 b3 hT11 hO11 hO1011 hw10W hp10 hpo9 hT9 hm9 hO9 hq11 hfew
                          go_wp2_with (first
                            | (go_at_call 13; refine (num_any _ _).mono ?_; rintro e w' ⟨rfl, rfl⟩)
                            | (at_builtin; go_loud (refine wpList_appPs rfl _ _ rfl (NB + 2) hs11 (.slice a1 _ c1) (.slice a11 l11.length c11) ly l11 hpo11.1 hl11.1.at rfl rfl (by have := HLEN.out; omega) ?_; intro v12 w12 hv12 ho12 hat12; obtain ⟨a12, c12, rfl, -, -⟩ := SeqAt.form hv12.at; obtain ⟨hw12, hp12, hpo12, hne12, hT13, hm12, hO12⟩ := wire_step 1 hT12 hw11 hpo11 hl11.2 hs10 hp11 (fun k hk e => hne9 k e hk) hm11 hgN hv12 ho12 hat12 hsz hO611 (.inr (.inr rfl)); have u3 := Wires.c1 hw12; have u4 := hw12.f 1; have hNs12 : NB + 1 < w12.heap.size := by have := ho12.size; omega)))
                          rw [List.length_append] at hp12 hpo12 hne12 hT13 hm12 hO12
                          go_roundw
                          case rel => exact ⟨n + 1, ⟨sy, g.y, tr, g.toy ++ out⟩, _, _, lyr, ly ++ l11, o11, oy, by simp [go_sem], HAT2, hw12.set1 _, hpo12, HLR, hp12, Lib.hid (by rw [List.map_append, HLY.out, HQ11.out, List.map_append]), Lib.hid hne12, hT13, hm12, hO12⟩
                          case measure => simp [intOf]; omega
end Go.Proofs.YtagnbdenecphcaaDoor
