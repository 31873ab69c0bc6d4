/- withylaw0: CopyOpts, LendOpts, KeptOpts, SpoilOpts, SpoilPackets. -/
import Derived.Test.YtagnbdenecphcaaGreatDoorSameIn
import Derived.Test.YtagnbdenecphcaaGreatDoorMj
namespace Go.Proofs.YtagnbdenecphcaaGreatDoor
open Go.RowKit
set_option linter.unusedVariables false
set_option linter.unusedSimpArgs false
set_option maxRecDepth 100000 in
set_option maxHeartbeats 4000000 in
theorem copyopts_any (v : Value) (l : List OptM) (w : World) (h : OptsIn w v l) (hL : l.length * 24 ≤ 140737488355328) :
    Calls Tryz.prog 27 #[v] w fun e w' => ∃ v', e = .returned v' ∧ OwnE optE w' w.heap.size v' l ∧ Below w.heap.size w w' := by
  have hB : Below w.heap.size w (w.alloc (.cells #[] 70)) := allocB (Below.refl _ _) _
  have hown : OwnE optE (w.alloc (.cells #[] 70)) w.heap.size (.slice (some ⟨w.heap.size, 0, none⟩) 0 0) [] := OwnE.made0
  have hv := h.below hB
  have hL24 : (([] : List OptM).length + l.length) * 24 ≤ 140737488355328 := by simpa using hL
  obtain ⟨a, c, rfl, _, _⟩ := h.form
  go_enter Tryz.func27, Tryz.ntmps27
  go_wp2_with (at_builtin; refine wpList_appIn rfl _ _ rfl w _ _ [] l hown hv rfl rfl hL24 hB ?_; intro v' w6 hown6 hbl6 _)
  go_ret
  exact ⟨v', rfl, by simpa using hown6, hbl6⟩
/-- the two marks behind what is lent -/
def marksM : List OptM := [(77777, ⟨#[]⟩), (77777, ⟨#[]⟩)]
theorem marks_new (w : World) : OptsAt (w.alloc (.cells #[.int .i64 77777, .string ⟨#[]⟩, .int .i64 77777, .string ⟨#[]⟩] 70)) (.slice (some ⟨w.heap.size, 0, none⟩) 2 2) marksM := by
  refine .inr ⟨w.heap.size, 0, 2, rfl, Nat.le_refl _, by decide, by simp, fun j hj i hi => ?_⟩
  rw [World.cell?_alloc_new]
  have hj2 : j < 2 := hj
  have hi2 : i < 2 := hi
  have : j = 0 ∨ j = 1 := by omega
  have : i = 0 ∨ i = 1 := by omega
  rcases ‹j = 0 ∨ j = 1› with rfl | rfl <;> rcases ‹i = 0 ∨ i = 1› with rfl | rfl <;> rfl
/-- a row that was lent: what was given, the marks behind it -/
def Lent (w : World) (b : Nat) (v : Value) (l : List OptM) : Prop := ∃ g c, v = .slice (some ⟨g, 0, none⟩) l.length c ∧ OwnE optE w b (.slice (some ⟨g, 0, none⟩) (l.length + 2) c) (l ++ marksM)
theorem Lent.at {w : World} {b : Nat} {v : Value} {l : List OptM} (h : Lent w b v l) : OptsAt w v l := by
  obtain ⟨g, c, rfl, h⟩ := h
  rcases h.at with ⟨h0, _⟩ | ⟨g', o', c', hv, h1, h2, hg, hc⟩
  · simp [marksM] at h0
  · simp only [Value.slice.injEq, Option.some.injEq, Addr.mk.injEq] at hv
    obtain ⟨⟨rfl, rfl, _⟩, _, rfl⟩ := hv
    refine .inr ⟨g, 0, c, rfl, by simp at h1; omega, h2, hg, fun j hj i hi => ?_⟩
    rw [hc j (by simp; omega) i hi, List.getElem_append_left hj]
theorem Lent.only {S : Nat → Prop} {w w' : World} {b : Nat} {v : Value} {l : List OptM} (h : Lent w b v l) (ho : Only S w w') (hn : ∀ k, v.ownBlock = some k → ¬ S k) : Lent w' b v l := by
  obtain ⟨g, c, rfl, h⟩ := h
  exact ⟨g, c, rfl, h.only ho (fun k hk => hn k hk)⟩
theorem Lent.block {w : World} {b : Nat} {v : Value} {l : List OptM} (h : Lent w b v l) : ∀ k, v.ownBlock = some k → b ≤ k := by
  obtain ⟨g, c, rfl, h⟩ := h
  exact fun k hk => h.block k hk
set_option maxRecDepth 100000 in
set_option maxHeartbeats 4000000 in
theorem lendopts_any (v : Value) (l : List OptM) (w : World) (h : OptsIn w v l) (hL : (l.length + 2) * 24 ≤ 140737488355328) :
    Calls Tryz.prog 12 #[v] w fun e w' => ∃ v', e = .returned v' ∧ Lent w' w.heap.size v' l ∧ Below w.heap.size w w' := by
  have hcp := copyopts_any v l w h (by omega)
  obtain ⟨a, c, rfl, hc1, hc2⟩ := h.form
  have hle := h.le
  clear h
  go_enter Tryz.func12, Tryz.ntmps12
  go_wp2_with fail
  refine hcp.mono ?_
  rintro e w1 ⟨v1, rfl, hown1, hb1⟩
  have hbA := allocB (Below.refl w1.heap.size w1) (.cells #[.int .i64 77777, .string ⟨#[]⟩, .int .i64 77777, .string ⟨#[]⟩] 70)
  have hmk := marks_new w1
  have hown2 := hown1.below hbA
  have hb2 := seqB hb1 hbA
  clear hcp hbA hb1 hown1
  have hlend : ∀ v' w6, OwnE optE w6 w.heap.size v' (l ++ marksM) → ∃ g cc, v' = .slice (some ⟨g, 0, none⟩) (l.length + 2) cc ∧ l.length + 2 ≤ cc ∧ cc ≤ maxLen ∧ Lent w6 w.heap.size (.slice (some ⟨g, 0, none⟩) l.length cc) l := by
    intro v' w6 hown6
    rcases hown6.2 with ⟨_, h0⟩ | ⟨g, cap, cur, rfl, _, _, h1, h2, _⟩
    · simp [marksM] at h0
    · refine ⟨g, cap, by simp [marksM], by simpa [marksM] using h1, h2, ⟨g, cap, rfl, by simpa [marksM] using hown6⟩⟩
  have HLE := Lib.hid hlend
  clear hlend
  go_wp2_with (at_builtin; refine wpList_appOs rfl _ _ rfl w _ _ l marksM hown2 hmk rfl rfl (by simpa [marksM] using hL) hb2 ?_; intro v' w6 hown6 hbl6 _ _; obtain ⟨g, cc, rfl, hf1, hf2, hfin⟩ := HLE.out v' w6 hown6; have hsl := slice_opts g 0 (l.length + 2) cc l.length (by omega))
  go_ret
  exact ⟨_, rfl, hfin, hbl6⟩
theorem opt_mark (x : Int) : ((x == x && (⟨#[]⟩ : ByteArray).toList == (⟨#[]⟩ : ByteArray).toList)) = true := by simp
set_option maxRecDepth 100000 in
set_option maxHeartbeats 8000000 in
theorem keptopts_any (v v2 : Value) (b : Nat) (l : List OptM) (w : World) (h : Lent w b v l) (h2 : OptsIn w v2 l) :
    Calls Tryz.prog 15 #[v, v2] w fun e w' => e = .returned (.bool true) ∧ Below w.heap.size w w' := by
  have hso := sameopts_in v v2 l w h.at h2
  have hle := h2.le
  obtain ⟨a2, c2, rfl, hc1, hc2⟩ := h2.form
  obtain ⟨g, cc, rfl, hown⟩ := h
  obtain ⟨hn1, hn2, hn3, hcl⟩ := OptsAt.cells hown.at
  obtain ⟨d1, d2⟩ := hcl l.length (by simp [marksM])
  obtain ⟨d3, d4⟩ := hcl (l.length + 1) (by simp [marksM])
  have m1 : (l ++ marksM)[l.length]'(by simp [marksM]) = (77777, ⟨#[]⟩) := by simp [marksM]
  have m2 : (l ++ marksM)[l.length + 1]'(by simp [marksM]) = (77777, ⟨#[]⟩) := by simp [marksM]
  rw [m1] at d1 d2
  rw [m2] at d3 d4
  simp only [Nat.zero_add] at d1 d2 d3 d4
  have hlen : (l ++ marksM).length = l.length + 2 := by simp [marksM]
  rw [hlen] at hn2
  have hsl := slice_opts g 0 l.length cc (l.length + 2) hn2
  have hcm : cc ≤ 9223372036854775807 := by unfold maxLen at hn3; omega
  have z0 : ((l.length : Int) + 2) = ((l.length + 2 : Nat) : Int) := by omega
  obtain ⟨n, hn⟩ : ∃ n, l.length = n := ⟨_, rfl⟩
  rw [hn] at hso hle hc1 hn2 hsl d1 d2 d3 d4 ⊢
  clear m1 m2 hcl hlen hn hn1 h2 hown z0
  go_enter Tryz.func15, Tryz.ntmps15
  go_wp2_with fail
  refine hso.mono ?_
  rintro e w1 ⟨rfl, hb1⟩
  replace d1 := fsm_below_cell hb1 d1
  replace d2 := fsm_below_cell hb1 d2
  replace d3 := fsm_below_cell hb1 d3
  replace d4 := fsm_below_cell hb1 d4
  clear hso hsl
  go_wp2_with fail
  go_ret
  exact ⟨rfl, hb1⟩
end Go.Proofs.YtagnbdenecphcaaGreatDoor
