/- Small contracts that the laws over the automaton share. -/
import Derived.Test.YtallemacmgagfaaDoorFsmRef2
import Derived.Handy
import Derived.RegionTactic
namespace Go.Proofs.YtallemacmgagfaaDoor
open Go.RowKit
set_option linter.unusedVariables false
theorem num_any (x : Int) (w : World) : Calls Tryd.prog 13 #[.int .i64 x] w fun e w' => e = .returned (.int .i64 x) ∧ w = w' := by
  go_enter Tryd.func13, Tryd.ntmps13
  go_wp2
  go_ret
  exact ⟨rfl, rfl⟩
theorem fstep_any (s v : Int) (ml : Int) (w : World) (hm : MaxLenIs w ml) :
    Calls Tryd.prog 10 #[.int .i64 s, .int .i64 v] w fun e w' => ∃ o, e = .returned (.tuple #[.int .i64 (stepSays s v).1, o, .int .i64 (stepSays s v).2.2]) ∧ OwnI w' w.heap.size o (stepSays s v).2.1 ∧ Below w.heap.size w w' := by
  go_enter Tryd.func10, Tryd.ntmps10
  go_wp2_with fail
  refine (made_any _).mono ?_
  rintro e w1 ⟨g, rfl, ht, hb1⟩
  go_wp2_with fail
  refine (tstep_any g s v ml _ ht (hm.below hb1)).mono ?_
  rintro e w2 ⟨o, rfl, ho, hb2⟩
  go_wp2_with fail
  go_ret3
  exact ⟨o, rfl, ho.base hb1.size, seqB hb1 hb2⟩
/-- nothing of old has turned but the row's block -/
def Only (row : Option Nat) (w w' : World) : Prop :=
  (∀ B, (∀ k, row = some k → B ≤ k) → Below B w w') ∧ ∀ k, row ≠ some k → k < w.heap.size → w'.heap[k]? = w.heap[k]?
theorem Only.refl (row : Option Nat) (w : World) : Only row w w := ⟨fun B _ => Below.refl _ _, fun _ _ _ => rfl⟩
theorem Only.set {row : Option Nat} {w w' : World} (h : Only row w w') (g o : Nat) (hr : row = some g) (x : Value) : Only row w (w'.setCell ⟨g, o, none⟩ x) := by
  subst hr
  refine ⟨fun B hB => (h.1 B hB).setCell (p := ⟨g, o, none⟩) (hB g rfl) x, fun k hk hlt => ?_⟩
  have hne : g ≠ k := fun e => hk (by rw [e])
  rw [show (w'.setCell ⟨g, o, none⟩ x).heap[k]? = w'.heap[k]? from by simp [World.setCell, Array.getElem?_modify, hne]]
  exact h.2 k hk hlt
theorem Only.drew {row : Option Nat} {w w' : World} (h : Only row w w') : Only row w w'.drew :=
  ⟨fun B hB => (h.1 B hB).drew, fun k hk hlt => h.2 k hk hlt⟩
theorem OwnI.only {w w' : World} {row : Option Nat} {base : Nat} {v : Value} {l : List Int} (h : OwnI w base v l) (ho : Only row w w') (hr : ∀ k, row = some k → k < base) : OwnI w' base v l := by
  refine ⟨h.1, ?_⟩
  rcases h.2 with h2 | ⟨g, cap, cur, hv, hg, hh, r⟩
  · exact .inl h2
  · refine .inr ⟨g, cap, cur, hv, hg, ?_, r⟩
    rw [ho.2 g (fun e => by have := hr g e; omega) (Array.getElem?_eq_some_iff.1 hh).1]
    exact hh
theorem OwnI.lt {w : World} {base : Nat} {v : Value} {l : List Int} (h : OwnI w base v l) : ∀ k, v.ownBlock = some k → k < w.heap.size := by
  intro k hk
  rcases h.2 with ⟨rfl, _⟩ | ⟨g, cap, cur, rfl, hg, hh, _⟩
  · cases hk
  · cases hk; exact (Array.getElem?_eq_some_iff.1 hh).1
set_option maxHeartbeats 1000000 in
theorem spoilInts_any (v : Value) (l : List Int) (base : Nat) (w : World) (h : OwnI w base v l) (hl : l.length ≤ 9223372036854775807) :
    Calls Tryd.prog 14 #[v] w fun e w' => e = .returned (.tuple #[]) ∧ Only v.ownBlock w w' := by
  rcases h.2 with ⟨rfl, h0⟩ | ⟨B, cap, cur, rfl, hgB, hh, hn, hm, hcs, ht⟩
  · clear h
    go_enter Tryd.func14, Tryd.ntmps14
    go_wp2_with fail
    go_loopw [2] (fun i wr => i = .int .i64 0 ∧ w = wr) (fun i _ => 0)
    case atStart => exact ⟨rfl, rfl⟩
    case round =>
      obtain ⟨rfl, rfl⟩ := hrel
      go_wp2_with fail
      go_end0
      exact ⟨rfl, Only.refl _ _⟩
  · have hall : ∀ j, j < l.length → ∃ x, cur[j]? = some (.int .i64 x) := by
      intro j hj
      have e : cur[j]? = (l.map (Value.int .i64))[j]? := by
        rw [← ht, List.getElem?_take, if_pos (by omega)]; simp
      exact ⟨l[j], by rw [e]; simp [hj]⟩
    clear h ht hcs
    obtain ⟨n, hn'⟩ : ∃ n, l.length = n := ⟨_, rfl⟩
    rw [hn'] at hall hl hn ⊢
    clear hn'
    go_enter Tryd.func14, Tryd.ntmps14
    go_wp2_with fail
    go_loopw [2] (fun i wr => ∃ k : Nat, k ≤ n ∧ i = .int .i64 k ∧ Only (some B) w wr ∧ ∃ cur, wr.heap[B]? = some (.cells cur 3 (0, 0)) ∧ ∀ j, j < n → ∃ x, cur[j]? = some (.int .i64 x)) (fun i _ => n - (intOf i).toNat)
    case atStart => exact ⟨0, Nat.zero_le _, rfl, Only.refl _ _, cur, hh, hall⟩
    case round =>
      obtain ⟨k, hk, rfl, hon, cur', hh', hall'⟩ := hrel
      clear hh hall cur
      by_cases hlt : k < n
      · obtain ⟨x, hx⟩ := hall' k hlt
        have hcell : wr.cell? ⟨B, k, none⟩ = some (.int .i64 x) := by simp [World.cell?, hh', hx]
        have hfz : wr.frozen? ⟨B, k, none⟩ = false := by simp [World.frozen?, hh']
        have HH := Lib.hid hh'
        have HA := Lib.hid hall'
        clear hh' hall' hx
        go_wp2_with fail
        first
        | go_region
        | skip
        go_wp2_with fail
        refine ⟨⟨k + 1, by omega, by go_num, hon.set B k rfl _, _, heap_setCell_same wr B k cur' 3 _ HH.out, fun j hj => ?_⟩, by simp [intOf]; omega⟩
        obtain ⟨y, hy⟩ := HA.out j hj
        by_cases e : k = j
        · subst e
          have : k < cur'.size := (Array.getElem?_eq_some_iff.1 hy).1
          exact ⟨_, by rw [Array.getElem?_setIfInBounds, if_pos rfl, if_pos this]⟩
        · exact ⟨y, by rw [Array.getElem?_setIfInBounds, if_neg e]; exact hy⟩
      · obtain rfl : k = n := by omega
        clear hh' hall'
        go_wp2_with fail
        go_end0
        exact ⟨rfl, hon⟩
theorem aw_a : stepSays 2 2 = (6, [5, 7], 0) := by decide +kernel
theorem aw_b : stepSays 9 0 = (0, [], 1001) := by decide +kernel
theorem aw_c : stepSays 10 0 = (0, [], 1000) := by decide +kernel
theorem ints_new (w : World) (l : List Int) (cells : Array Value) (hc : cells = (l.map (Value.int .i64)).toArray) (c : Nat) : IntsAt (w.alloc (.cells cells 3)) (.slice (some ⟨w.heap.size, 0, none⟩) l.length c) l := by
  subst hc
  refine .inr ⟨w.heap.size, 0, c, rfl, fun j hj => ?_⟩
  rw [World.cell?_alloc_new]; simp [hj]
set_option maxRecDepth 100000 in
set_option maxHeartbeats 1000000 in
theorem awake10_any (ml : Int) (w : World) (hm : MaxLenIs w ml) : Calls Tryd.prog 15 #[] w fun e w' => e = .returned (.bool true) ∧ Below w.heap.size w w' := by
  go_enter Tryd.func15, Tryd.ntmps15
  go_wp2_with fail
  refine (fstep_any _ _ ml _ hm).mono ?_
  rw [aw_a]
  rintro e w1 ⟨o1, rfl, ho1, hb1⟩
  go_wp2_with fail
  refine (fstep_any _ _ ml _ (hm.below hb1)).mono ?_
  rw [aw_b]
  rintro e w2 ⟨o2, rfl, -, hb2⟩
  have hB2 := seqB hb1 hb2
  replace ho1 := ho1.below hb2
  clear hb1 hb2
  go_wp2_with fail
  refine (fstep_any _ _ ml _ (hm.below hB2)).mono ?_
  rw [aw_c]
  rintro e w3 ⟨o3, rfl, -, hb3⟩
  have hB3 := seqB hB2 hb3
  replace ho1 := ho1.below hb3
  clear hB2 hb3
  go_wp2_with fail
  refine (sameInts_any _ _ [5, 7] _ (ho1.at.below ((Below.refl _ _).alloc (Nat.le_refl _) _)) (ints_new w3 [5, 7] _ rfl 2) (by decide)).mono ?_
  rintro e w4 ⟨rfl, hb4⟩
  have hB4 := seqB (allocB hB3 _) hb4
  clear hB3 hb4
  go_wp2_with (go_at_call 13; refine (num_any _ _).mono ?_; rintro e w' ⟨rfl, rfl⟩)
  go_ret
  exact ⟨rfl, hB4⟩
end Go.Proofs.YtallemacmgagfaaDoor
