/- withylaw0.SameOpts, SamePacket, SamePackets: what reads alike is the same; the second row is one that came in. -/
import Derived.Test.YtagnbdenecphcaaGreatDoorSame
import Derived.Test.YtagnbdenecphcaaGreatDoorRin
namespace Go.Proofs.YtagnbdenecphcaaGreatDoor
open Go.RowKit
set_option linter.unusedVariables false
set_option linter.unusedSimpArgs false
/-- a row of packets that reads as l, whose options came in -/
def PacksIn (w : World) (v : Value) (l : List PackV) : Prop := SeqAt packE w v l ∧ ∀ x ∈ l, OptsIn w (slOf x) x.1.opts
theorem PacksIn.below {w w' : World} {v : Value} {l : List PackV} (h : PacksIn w v l) (hb : Below w.heap.size w w') : PacksIn w' v l := ⟨SeqAt.below h.1 hb, fun x hx => (h.2 x hx).below hb⟩
theorem PacksIn.cells {w : World} {a : Option Addr} {n c : Nat} {l : List PackV} (h : PacksIn w (.slice a n c) l) (j : Nat) (hj : j < l.length) :
    ∃ g o, a = some ⟨g, o, none⟩ ∧ g < w.heap.size ∧ n = l.length ∧ n ≤ c ∧ c ≤ maxLen ∧ w.cell? ⟨g, o + j * 4, none⟩ = some (.int .i64 l[j].1.code) ∧ w.cell? ⟨g, o + j * 4 + 1, none⟩ = some (.int .i64 l[j].1.id) ∧ w.cell? ⟨g, o + j * 4 + 2, none⟩ = some (slOf l[j]) ∧ w.cell? ⟨g, o + j * 4 + 3, none⟩ = some (.string l[j].1.data) := by
  rcases h.1 with ⟨h0, _⟩ | ⟨g, o, c', hv, h1, h2, hg, hc⟩
  · subst h0; cases hj
  · cases hv
    refine ⟨g, o, rfl, hg, rfl, h1, h2, ?_, ?_, ?_, ?_⟩
    · have := hc j hj 0 (by decide); simpa [packE] using this
    · have := hc j hj 1 (by decide); simpa [packE] using this
    · have := hc j hj 2 (by decide); simpa [packE, slOf] using this
    · have := hc j hj 3 (by decide); simpa [packE] using this
set_option maxRecDepth 100000 in
set_option maxHeartbeats 4000000 in
theorem sameopts_in (v1 v2 : Value) (l : List OptM) (w : World) (h1 : OptsAt w v1 l) (h2 : OptsIn w v2 l) :
    Calls Tryz.prog 35 #[v1, v2] w fun e w' => e = .returned (.bool true) ∧ Below w.heap.size w w' := by
  have hle := SeqAt.le h1
  obtain ⟨a1, c1, rfl, hc1, _⟩ := SeqAt.form h1
  obtain ⟨a2, c2, rfl, hc2, _⟩ := h2.form
  have HC1 := Lib.hid h1
  have HC2 := Lib.hid h2
  obtain ⟨n, hnn⟩ : ∃ n, l.length = n := ⟨_, rfl⟩
  have HN := Lib.hid hnn
  rw [hnn] at hle hc1 hc2 ⊢
  have hne0 : ((n : Int) != (n : Int)) = false := by simp
  clear h1 h2 hnn
  go_enter Tryz.func35, Tryz.ntmps35
  go_wp2_with fail
  go_loopw [5] (fun i wr => ∃ j : Nat, j ≤ n ∧ i = .int .i64 j ∧ Below w.heap.size w wr) (fun i _ => n - (intOf i).toNat)
  case atStart => exact ⟨0, Nat.zero_le _, rfl, Below.refl _ _⟩
  case round =>
    obtain ⟨j, hj, rfl, hbl⟩ := hrel
    by_cases hlt : j < n
    · have hj1 : j < l.length := by rw [HN.out]; exact hlt
      obtain ⟨g1, o1, rfl⟩ : ∃ g o, a1 = some ⟨g, o, none⟩ := by
        rcases HC1.out with ⟨h0, _⟩ | ⟨g, o, c, hv, _⟩
        · rw [h0] at hj1; cases hj1
        · cases hv; exact ⟨g, o, rfl⟩
      obtain ⟨g2, o2, rfl⟩ : ∃ g o, a2 = some ⟨g, o, none⟩ := by
        rcases HC2.out.or with ⟨h0, _⟩ | ⟨g, o, c, hv, _⟩
        · rw [h0] at hj1; cases hj1
        · simp only [Value.slice.injEq] at hv; exact ⟨g, o, hv.1⟩
      obtain ⟨d1, d2⟩ := (OptsAt.cells HC1.out).2.2.2 j hj1
      obtain ⟨d3, d4⟩ := (OptsAt.cells (HC2.out.at (fun h => by rw [h] at hj1; cases hj1))).2.2.2 j hj1
      replace d1 := fsm_below_cell hbl d1
      replace d2 := fsm_below_cell hbl d2
      replace d3 := fsm_below_cell hbl d3
      replace d4 := fsm_below_cell hbl d4
      have hneq := opt_neq l[j] l[j]
      rw [show (l[j].1 == l[j].1 && l[j].2.toList == l[j].2.toList) = true by simp] at hneq
      obtain ⟨x, hx⟩ : ∃ x, l[j] = x := ⟨_, rfl⟩
      rw [hx] at d1 d2 d3 d4 hneq
      simp only [Bool.not_true] at hneq
      have hjn : j + 1 ≤ n := hlt
      clear hx
      go_wp2_with fail
      refine wp_schedL (fun w' => w'.cell? ⟨g1, o1 + j * 2, none⟩ = some (.int .i64 x.1) ∧ w'.cell? ⟨g1, o1 + j * 2 + 1, none⟩ = some (.string x.2) ∧ w'.cell? ⟨g2, o2 + j * 2, none⟩ = some (.int .i64 x.1) ∧ w'.cell? ⟨g2, o2 + j * 2 + 1, none⟩ = some (.string x.2)) [(0, true), (1, true), (2, true), (3, true), (4, true), (5, true), (6, true), (7, true), (8, true)] (by kernel_rfl) (by kernel_rfl) rfl (by kernel_rfl) (by kernel_rfl) ⟨d1, d2, d3, d4⟩ (fun _ d _ _ _ h => by cases d <;> exact h) ?_
      simp only [schedOps, List.filterMap_cons, List.filterMap_nil, List.getElem?_toArray, List.getElem?_cons_zero, List.getElem?_cons_succ, Option.map_some]
      repeat (first | (refine' wpSched_take _ (by rfl) (fun wS hS => ?_) ?_; rotate_left; (focus (obtain ⟨d1, d2, d3, d4⟩ := hS; go_simp; first | done | rfl)); (try simp only [Act.put, List.setIfInBounds_toArray, List.set_cons_zero, List.set_cons_succ])) | (refine wpSched_skip (by rfl) ?_; try simp only [Act.put, List.setIfInBounds_toArray, List.set_cons_zero, List.set_cons_succ]))
      refine wpSched_done ?_
      go_wp2_with fail
      go_roundw
      case rel => exact ⟨j + 1, hjn, by go_num, fsm_below_drewN hbl _⟩
      case measure => simp [intOf]; omega
    · obtain rfl : j = n := by omega
      go_wp2_with fail
      go_ret
      exact ⟨rfl, hbl⟩
set_option maxRecDepth 100000 in
set_option maxHeartbeats 4000000 in
theorem samepack_in (v1 v2 : Value) (k : PacketM) (w : World) (h1 : OptsAt w v1 k.opts) (h2 : OptsIn w v2 k.opts) :
    Calls Tryz.prog 25 #[.agg (packCells k v1), .agg (packCells k v2)] w fun e w' => e = .returned (.bool true) ∧ Below w.heap.size w w' := by
  obtain ⟨a1, c1, rfl, _, _⟩ := SeqAt.form h1
  obtain ⟨a2, c2, rfl, _, _⟩ := h2.form
  have hB : ∀ o1 o2 : Obj, Below w.heap.size w ((w.alloc o1).alloc o2) := fun o1 o2 => allocB (allocB (Below.refl _ _) _) _
  have hso := fun o1 o2 => sameopts_in _ _ k.opts ((w.alloc o1).alloc o2) (h1.below (hB o1 o2)) (h2.below (hB o1 o2))
  have q1 : (k.code == k.code) = true := by simp
  have q2 : (k.id == k.id) = true := by simp
  unfold packCells
  clear h1 h2
  go_enter Tryz.func25, Tryz.ntmps25
  go_wp2_with fail
  refine (hso _ _).mono ?_
  rintro e w1 ⟨rfl, hb1⟩
  have hBf := seqB (hB _ _) hb1
  clear hso hB hb1
  go_wp2_with fail
  go_ret
  exact ⟨rfl, hBf⟩
set_option maxRecDepth 100000 in
set_option maxHeartbeats 4000000 in
theorem samepacks_in (v1 v2 : Value) (l1 l2 : List PackV) (w : World) (h1 : PacksAt w v1 l1) (h2 : PacksIn w v2 l2) (he : l1.map (·.1) = l2.map (·.1)) :
    Calls Tryz.prog 10 #[v1, v2] w fun e w' => e = .returned (.bool true) ∧ Below w.heap.size w w' := by
  have hle := SeqAt.le h1.1
  have hln : l1.length = l2.length := by have := congrArg List.length he; simpa using this
  obtain ⟨a1, c1, rfl, hc1, _⟩ := SeqAt.form h1.1
  obtain ⟨a2, c2, rfl, hc2, _⟩ := SeqAt.form h2.1
  have HC1 := Lib.hid h1
  have HC2 := Lib.hid h2
  obtain ⟨n, hnn⟩ : ∃ n, l1.length = n := ⟨_, rfl⟩
  have HN := Lib.hid hnn
  have HN2 : Hid (l2.length = n) := Lib.hid (hln ▸ hnn)
  rw [← hln] at hc2 ⊢
  rw [hnn] at hle hc1 hc2 ⊢
  have hne0 : ((n : Int) != (n : Int)) = false := by simp
  have HE := Lib.hid he
  clear h1 h2 hnn hln he
  go_enter Tryz.func10, Tryz.ntmps10
  go_wp2_with fail
  go_loopw [5] (fun i wr => ∃ j : Nat, j ≤ n ∧ i = .int .i64 j ∧ Below w.heap.size w wr) (fun i _ => n - (intOf i).toNat)
  case atStart => exact ⟨0, Nat.zero_le _, rfl, Below.refl _ _⟩
  case round =>
    obtain ⟨j, hj, rfl, hbl⟩ := hrel
    by_cases hlt : j < n
    · have hj1 : j < l1.length := by rw [HN.out]; exact hlt
      have hj2 : j < l2.length := by rw [HN2.out]; exact hlt
      have hv1 := HC1.out.2 _ (List.getElem_mem hj1)
      have hv2 := HC2.out.2 _ (List.getElem_mem hj2)
      obtain ⟨g1, o1, rfl, _, _, _, _, d0, d1, d2, d3⟩ := HC1.out.cells j hj1
      obtain ⟨g2, o2, rfl, _, _, _, _, f0, f1, f2, f3⟩ := HC2.out.cells j hj2
      have heq : l1[j].1 = l2[j].1 := by
        have e := congrArg (fun x => x[j]?) HE.out
        simp only [List.getElem?_map, List.getElem?_eq_getElem hj1, List.getElem?_eq_getElem hj2, Option.map_some] at e
        exact Option.some.inj e
      replace d0 := fsm_below_cell hbl d0
      replace d1 := fsm_below_cell hbl d1
      replace d2 := fsm_below_cell hbl d2
      replace d3 := fsm_below_cell hbl d3
      replace f0 := fsm_below_cell hbl f0
      replace f1 := fsm_below_cell hbl f1
      replace f2 := fsm_below_cell hbl f2
      replace f3 := fsm_below_cell hbl f3
      replace hv1 := SeqAt.below (SeqAt.below hv1 hbl) (Below.refl _ wr).drew
      replace hv2 := OptsIn.below (OptsIn.below hv2 hbl) (Below.refl _ wr).drew
      obtain ⟨x, hx⟩ : ∃ x, l1[j] = x := ⟨_, rfl⟩
      obtain ⟨y, hy⟩ : ∃ y, l2[j] = y := ⟨_, rfl⟩
      rw [hx] at d0 d1 d2 d3 hv1 heq
      rw [hy] at f0 f1 f2 f3 hv2 heq
      obtain ⟨k, p1⟩ := x
      obtain ⟨k2, p2⟩ := y
      dsimp only at heq
      subst heq
      have hsp := samepack_in (slOf (k, p1)) (slOf (k, p2)) k wr.drew hv1 hv2
      unfold packCells slOf at hsp
      unfold slOf at d2 f2
      dsimp only at d0 d1 d2 d3 f0 f1 f2 f3 hsp
      have hjn : j + 1 ≤ n := hlt
      clear hx hy hv1 hv2
      go_wp2_with fail
      refine wp_schedL (fun w' => (w'.cell? ⟨g1, o1 + j * 4, none⟩ = some (.int .i64 k.code) ∧ w'.cell? ⟨g1, o1 + j * 4 + 1, none⟩ = some (.int .i64 k.id) ∧ w'.cell? ⟨g1, o1 + j * 4 + 2, none⟩ = some (.slice p1.1 k.opts.length p1.2) ∧ w'.cell? ⟨g1, o1 + j * 4 + 3, none⟩ = some (.string k.data)) ∧ (w'.cell? ⟨g2, o2 + j * 4, none⟩ = some (.int .i64 k.code) ∧ w'.cell? ⟨g2, o2 + j * 4 + 1, none⟩ = some (.int .i64 k.id) ∧ w'.cell? ⟨g2, o2 + j * 4 + 2, none⟩ = some (.slice p2.1 k.opts.length p2.2) ∧ w'.cell? ⟨g2, o2 + j * 4 + 3, none⟩ = some (.string k.data))) [(0, true), (1, true), (2, true), (3, true), (4, true), (5, true), (6, true), (7, true), (8, false), (9, true)] (by kernel_rfl) (by kernel_rfl) rfl (by kernel_rfl) (by kernel_rfl) ⟨⟨d0, d1, d2, d3⟩, ⟨f0, f1, f2, f3⟩⟩ (fun _ d _ _ _ h => by cases d <;> exact h) ?_
      simp only [schedOps, List.filterMap_cons, List.filterMap_nil, List.getElem?_toArray, List.getElem?_cons_zero, List.getElem?_cons_succ, Option.map_some]
      repeat (first | (refine' wpSched_take _ (by rfl) (fun wS hS => ?_) ?_; rotate_left; (focus (obtain ⟨⟨d0, d1, d2, d3⟩, ⟨f0, f1, f2, f3⟩⟩ := hS; go_simp; first | done | rfl)); (try simp only [Act.put, List.setIfInBounds_toArray, List.set_cons_zero, List.set_cons_succ])) | (refine wpSched_skip (by rfl) ?_; try simp only [Act.put, List.setIfInBounds_toArray, List.set_cons_zero, List.set_cons_succ]))
      refine wpSched_run (fun K hK => ?_)
      go_wp2_with (go_at_call 25; refine hsp.mono ?_; rintro e w3 ⟨rfl, hb3⟩)
      have g := fun {a : Addr} {v : Value} (h : wr.cell? a = some v) => fsm_below_cell (W := wr.drew) hb3 h
      refine QRun_normal (hK.out _ _ ⟨⟨g d0, g d1, g d2, g d3⟩, ⟨g f0, g f1, g f2, g f3⟩⟩ ?_)
      clear hK K
      repeat (first | (refine' wpSched_take _ (by rfl) (fun wS hS => ?_) ?_; rotate_left; (focus (obtain ⟨⟨d0, d1, d2, d3⟩, ⟨f0, f1, f2, f3⟩⟩ := hS; go_simp; first | done | rfl)); (try simp only [Act.put, List.setIfInBounds_toArray, List.set_cons_zero, List.set_cons_succ])) | (refine wpSched_skip (by rfl) ?_; try simp only [Act.put, List.setIfInBounds_toArray, List.set_cons_zero, List.set_cons_succ]))
      refine wpSched_done ?_
      have hbf := seqB hbl.drew hb3
      clear g hsp hb3 d0 d1 d2 d3 f0 f1 f2 f3
      go_wp2_with fail
      go_roundw
      case rel => exact ⟨j + 1, hjn, by go_num, hbf⟩
      case measure => simp [intOf]; omega
    · obtain rfl : j = n := by omega
      go_wp2_with fail
      go_ret
      exact ⟨rfl, hbl⟩
end Go.Proofs.YtagnbdenecphcaaGreatDoor
