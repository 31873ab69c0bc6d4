/- The reference: Take. -/
import Derived.Test.YtagnbdenecphcaaGreatDoorRo
namespace Go.Proofs.YtagnbdenecphcaaGreatDoor
open Go.RowKit
set_option linter.unusedVariables false
set_option linter.unusedSimpArgs false
set_option maxRecDepth 100000 in
set_option maxHeartbeats 4000000 in
theorem rtake_form (p : Nat) (av v : Value) (s : NegM) (k : PacketM) (w : World) (h : RSide w p av s) (hv : OptsIn w v k.opts) (hvp : k.opts ≠ [] → ∀ b, v.ownBlock = some b → b ≠ p) (hsz : k.data.size ≤ 4611686018427387904) (hz : ∀ o ∈ k.opts, o.2.size ≤ 140737488351232) (he : (controlM k).2 ≠ 0) :
    Calls Tryz.prog 14 #[.pointer (some ⟨p, 0, none⟩), .agg (packCells k v)] w (RActPost p av s (s, [], 1500) w) := by
  have hbx := allocB (Below.refl w.heap.size w) (.cells #[.int .i64 k.code, .int .i64 k.id, v, .string k.data] 36)
  have hhx := heap_alloc_last w (.cells #[.int .i64 k.code, .int .i64 k.id, v, .string k.data] 36)
  obtain ⟨pa, pc, rfl, hpc1, hpc2⟩ := hv.form
  have hct := rcontrol_any _ k _ (hv.below hbx) hz hsz
  have hpl := h.blk.lt
  obtain ⟨T, hT⟩ : ∃ x, bytesOf (controlM k).1 = x := ⟨_, rfl⟩
  obtain ⟨er, her⟩ : ∃ x, (controlM k).2 = x := ⟨_, rfl⟩
  rw [hT, her] at hct
  have heb : (er != 0) = true := bne_iff_ne.2 (her ▸ he)
  clear hT her he
  unfold packCells at hct ⊢
  go_enter Tryz.func14, Tryz.ntmps14
  go_wp2_with fail
  refine hct.mono ?_
  rintro e w1 ⟨rfl, hb1⟩
  clear hct
  have hh1 : w1.heap[w.heap.size]? = some (.cells (packCells k (.slice pa k.opts.length pc)) 36 (0, 0)) := below_of hb1 hhx
  have hbw := seqB hbx hb1
  clear hbx hhx hb1
  obtain ⟨b0, b1, b2, b3⟩ := packet_cell hh1
  have hs1 := h.below hbw
  have hv1 := hv.below hbw
  have hfin : RActPost p av s (s, [], 1500) w (.returned (.tuple #[.slice none 0 0, .int .i64 1500])) w1 := RActPost.stay h hbw
  clear h hv hs1 hv1
  go_wp2_with fail
  go_ret2
  exact hfin
set_option maxRecDepth 100000 in
set_option maxHeartbeats 4000000 in
theorem rtake_never (p : Nat) (av v : Value) (s : NegM) (k : PacketM) (w : World) (h : RSide w p av s) (hv : OptsIn w v k.opts) (hvp : k.opts ≠ [] → ∀ b, v.ownBlock = some b → b ≠ p) (hsz : k.data.size ≤ 4611686018427387904) (hz : ∀ o ∈ k.opts, o.2.size ≤ 140737488351232) (he : (controlM k).2 = 0) (hst : s.state = 0 ∨ s.state = 1) :
    Calls Tryz.prog 14 #[.pointer (some ⟨p, 0, none⟩), .agg (packCells k v)] w (RActPost p av s (s, [], 1501) w) := by
  have hbx := allocB (Below.refl w.heap.size w) (.cells #[.int .i64 k.code, .int .i64 k.id, v, .string k.data] 36)
  have hhx := heap_alloc_last w (.cells #[.int .i64 k.code, .int .i64 k.id, v, .string k.data] 36)
  obtain ⟨pa, pc, rfl, hpc1, hpc2⟩ := hv.form
  have hct := rcontrol_any _ k _ (hv.below hbx) hz hsz
  have hpl := h.blk.lt
  obtain ⟨T, hT⟩ : ∃ x, bytesOf (controlM k).1 = x := ⟨_, rfl⟩
  obtain ⟨er, her⟩ : ∃ x, (controlM k).2 = x := ⟨_, rfl⟩
  rw [hT, her] at hct
  obtain rfl : er = 0 := her ▸ he
  clear hT her he
  unfold packCells at hct ⊢
  go_enter Tryz.func14, Tryz.ntmps14
  go_wp2_with fail
  refine hct.mono ?_
  rintro e w1 ⟨rfl, hb1⟩
  clear hct
  have hh1 : w1.heap[w.heap.size]? = some (.cells (packCells k (.slice pa k.opts.length pc)) 36 (0, 0)) := below_of hb1 hhx
  have hbw := seqB hbx hb1
  clear hbx hhx hb1
  obtain ⟨b0, b1, b2, b3⟩ := packet_cell hh1
  have hs1 := h.below hbw
  have hv1 := hv.below hbw
  have c0 : w1.cell? ⟨p, 0, none⟩ = some (.int .i64 s.state) := hs1.blk.cell 0
  have hfin : RActPost p av s (s, [], 1501) w (.returned (.tuple #[.slice none 0 0, .int .i64 1501])) w1 := RActPost.stay h hbw
  clear h hv hs1 hv1
  rcases hst with hst | hst
  all_goals
    rw [hst] at c0
    clear hst
    go_wp2_with fail
    go_ret2
    exact hfin
/-- the rest of Take: a run of what the packet's event is -/
theorem rtake_end (p : Nat) (av v : Value) (s s1 : NegM) (k : PacketM) (w w1 : World) (r : ReplyM) (ov : Value) (ev : Int) (hr : r.p = k) (h : RSide w p av s) (hs : s1.os = s.os) (h01 : Only (· = p) w w1) (hs1 : RSide w1 p av s1) (hv : OptsIn w1 v k.opts) (hvp : k.opts ≠ [] → ∀ b, v.ownBlock = some b → b ≠ p) (hov : OptsIn w1 ov r.os) (hop : r.os ≠ [] → ∀ b, ov.ownBlock = some b → b ≠ p) (hsz : k.data.size ≤ 4611686018427387904) (hz : ∀ o ∈ k.opts, o.2.size ≤ 140737488351232) (h8 : ev = 6 → k.opts = r.os) :
    Calls Tryz.prog 24 #[.pointer (some ⟨p, 0, none⟩), .int .i64 ev, .agg #[.int .i64 k.code, .int .i64 k.id, v, .string k.data], .int .i64 r.verdict, ov] w1 fun e w' => ∃ v', e = .returned (.tuple #[v', .int .i64 (runM s1 ev r).2.2]) ∧ RActPost p av s (runM s1 ev r) w (.returned (.tuple #[v', .int .i64 (runM s1 ev r).2.2])) w' := by
  subst hr
  have hgX := good_run hs1.good ev r
  refine (rrun_any p av v ov s1 ev r w1 hs1.blk hs1.good hv hov hvp hop hsz hz h8).mono ?_
  rintro e w5 ⟨v', l, av', rfl, ha, hl, hn, hk, ho⟩
  exact ⟨v', rfl, RActPost.of h hs hgX h01 ha hl hn hk ho⟩
set_option maxRecDepth 100000 in
set_option maxHeartbeats 8000000 in
theorem rtake_plain (p : Nat) (av v : Value) (s : NegM) (k : PacketM) (w : World) (h : RSide w p av s) (hv : OptsIn w v k.opts) (hvp : k.opts ≠ [] → ∀ b, v.ownBlock = some b → b ≠ p) (hsz : k.data.size ≤ 4611686018427387904) (hz : ∀ o ∈ k.opts, o.2.size ≤ 140737488351232) (he : (controlM k).2 = 0) (hst : ¬ (s.state = 0 ∨ s.state = 1)) (hc : k.code ≠ 1 ∧ k.code ≠ 2 ∧ k.code ≠ 3 ∧ k.code ≠ 4) :
    Calls Tryz.prog 14 #[.pointer (some ⟨p, 0, none⟩), .agg (packCells k v)] w (RActPost p av s (runM s (evOf k.code) ⟨k, 0, 0, []⟩) w) := by
  have hbx := allocB (Below.refl w.heap.size w) (.cells #[.int .i64 k.code, .int .i64 k.id, v, .string k.data] 36)
  have hhx := heap_alloc_last w (.cells #[.int .i64 k.code, .int .i64 k.id, v, .string k.data] 36)
  obtain ⟨pa, pc, rfl, hpc1, hpc2⟩ := hv.form
  have hct := rcontrol_any _ k _ (hv.below hbx) hz hsz
  have hpl := h.blk.lt
  obtain ⟨T, hT⟩ : ∃ x, bytesOf (controlM k).1 = x := ⟨_, rfl⟩
  obtain ⟨er, her⟩ : ∃ x, (controlM k).2 = x := ⟨_, rfl⟩
  rw [hT, her] at hct
  obtain rfl : er = 0 := her ▸ he
  clear hT her he
  unfold packCells at hct ⊢
  go_enter Tryz.func14, Tryz.ntmps14
  go_wp2_with fail
  refine hct.mono ?_
  rintro e w1 ⟨rfl, hb1⟩
  clear hct
  have hh1 : w1.heap[w.heap.size]? = some (.cells (packCells k (.slice pa k.opts.length pc)) 36 (0, 0)) := below_of hb1 hhx
  have hbw := seqB hbx hb1
  clear hbx hhx hb1
  obtain ⟨b0, b1, b2, b3⟩ := packet_cell hh1
  have hs1 := h.below hbw
  have hv1 := hv.below hbw
  have c0 : w1.cell? ⟨p, 0, none⟩ = some (.int .i64 s.state) := hs1.blk.cell 0
  have q0 : (s.state == 0) = false := beq_eq_false_iff_ne.2 (fun e => hst (.inl e))
  have q1 : (s.state == 1) = false := beq_eq_false_iff_ne.2 (fun e => hst (.inr e))
  have hend := fun ev h8 => rtake_end p av (.slice pa k.opts.length pc) s s k w w1 ⟨k, 0, 0, []⟩ (.slice none 0 0) ev rfl h rfl (Only.ofBelow hbw) hs1 hv1 hvp (OptsIn.nil _) (fun _ b hb => by cases hb) hsz hz h8
  dsimp only at hend
  obtain ⟨z1, z2, z3, z4⟩ := hc
  replace z1 : (k.code == 1) = false := beq_eq_false_iff_ne.2 z1
  replace z2 : (k.code == 2) = false := beq_eq_false_iff_ne.2 z2
  replace z3 : (k.code == 3) = false := beq_eq_false_iff_ne.2 z3
  replace z4 : (k.code == 4) = false := beq_eq_false_iff_ne.2 z4
  clear h hv hs1 hv1 hst hbw hh1
  by_cases hc : k.code = 5
  · have hE : evOf k.code = 10 := by rw [hc]; rfl
    replace hend := hend 10 (fun h => absurd h (by decide))
    obtain ⟨X, hX⟩ : ∃ X, runM s 10 ⟨k, 0, 0, []⟩ = X := ⟨_, rfl⟩
    have HEX : Hid (runM s (evOf k.code) ⟨k, 0, 0, []⟩ = X) := Lib.hid (by rw [hE, hX])
    rw [hX] at hend
    have zc : (k.code == 5) = true := beq_iff_eq.2 hc
    clear hE hX hc
    go_wp2_with fail
    refine hend.mono ?_
    rintro e w5 ⟨v', rfl, hfin⟩
    clear hend c0 b0 b1 b2 b3
    go_wp2_with fail
    go_ret2
    rw [HEX.out]
    exact hfin
  replace hc : (k.code == 5) = false := beq_eq_false_iff_ne.2 hc
  have z5 := hc
  clear hc
  by_cases hc : k.code = 6
  · have hE : evOf k.code = 11 := by rw [hc]; rfl
    replace hend := hend 11 (fun h => absurd h (by decide))
    obtain ⟨X, hX⟩ : ∃ X, runM s 11 ⟨k, 0, 0, []⟩ = X := ⟨_, rfl⟩
    have HEX : Hid (runM s (evOf k.code) ⟨k, 0, 0, []⟩ = X) := Lib.hid (by rw [hE, hX])
    rw [hX] at hend
    have zc : (k.code == 6) = true := beq_iff_eq.2 hc
    clear hE hX hc
    go_wp2_with fail
    refine hend.mono ?_
    rintro e w5 ⟨v', rfl, hfin⟩
    clear hend c0 b0 b1 b2 b3
    go_wp2_with fail
    go_ret2
    rw [HEX.out]
    exact hfin
  replace hc : (k.code == 6) = false := beq_eq_false_iff_ne.2 hc
  have z6 := hc
  clear hc
  by_cases hc : k.code = 7
  · have hE : evOf k.code = 13 := by rw [hc]; rfl
    replace hend := hend 13 (fun h => absurd h (by decide))
    obtain ⟨X, hX⟩ : ∃ X, runM s 13 ⟨k, 0, 0, []⟩ = X := ⟨_, rfl⟩
    have HEX : Hid (runM s (evOf k.code) ⟨k, 0, 0, []⟩ = X) := Lib.hid (by rw [hE, hX])
    rw [hX] at hend
    have zc : (k.code == 7) = true := beq_iff_eq.2 hc
    clear hE hX hc
    go_wp2_with fail
    refine hend.mono ?_
    rintro e w5 ⟨v', rfl, hfin⟩
    clear hend c0 b0 b1 b2 b3
    go_wp2_with fail
    go_ret2
    rw [HEX.out]
    exact hfin
  replace hc : (k.code == 7) = false := beq_eq_false_iff_ne.2 hc
  have z7 := hc
  clear hc
  by_cases hc : k.code = 8
  · have hE : evOf k.code = 13 := by rw [hc]; rfl
    replace hend := hend 13 (fun h => absurd h (by decide))
    obtain ⟨X, hX⟩ : ∃ X, runM s 13 ⟨k, 0, 0, []⟩ = X := ⟨_, rfl⟩
    have HEX : Hid (runM s (evOf k.code) ⟨k, 0, 0, []⟩ = X) := Lib.hid (by rw [hE, hX])
    rw [hX] at hend
    have zc : (k.code == 8) = true := beq_iff_eq.2 hc
    clear hE hX hc
    go_wp2_with fail
    refine hend.mono ?_
    rintro e w5 ⟨v', rfl, hfin⟩
    clear hend c0 b0 b1 b2 b3
    go_wp2_with fail
    go_ret2
    rw [HEX.out]
    exact hfin
  replace hc : (k.code == 8) = false := beq_eq_false_iff_ne.2 hc
  have z8 := hc
  clear hc
  by_cases hc : k.code = 9
  · have hE : evOf k.code = 15 := by rw [hc]; rfl
    replace hend := hend 15 (fun h => absurd h (by decide))
    obtain ⟨X, hX⟩ : ∃ X, runM s 15 ⟨k, 0, 0, []⟩ = X := ⟨_, rfl⟩
    have HEX : Hid (runM s (evOf k.code) ⟨k, 0, 0, []⟩ = X) := Lib.hid (by rw [hE, hX])
    rw [hX] at hend
    have zc : (k.code == 9) = true := beq_iff_eq.2 hc
    clear hE hX hc
    go_wp2_with fail
    refine hend.mono ?_
    rintro e w5 ⟨v', rfl, hfin⟩
    clear hend c0 b0 b1 b2 b3
    go_wp2_with fail
    go_ret2
    rw [HEX.out]
    exact hfin
  replace hc : (k.code == 9) = false := beq_eq_false_iff_ne.2 hc
  have z9 := hc
  clear hc
  by_cases hc : k.code = 10
  · have hE : evOf k.code = 15 := by rw [hc]; rfl
    replace hend := hend 15 (fun h => absurd h (by decide))
    obtain ⟨X, hX⟩ : ∃ X, runM s 15 ⟨k, 0, 0, []⟩ = X := ⟨_, rfl⟩
    have HEX : Hid (runM s (evOf k.code) ⟨k, 0, 0, []⟩ = X) := Lib.hid (by rw [hE, hX])
    rw [hX] at hend
    have zc : (k.code == 10) = true := beq_iff_eq.2 hc
    clear hE hX hc
    go_wp2_with fail
    refine hend.mono ?_
    rintro e w5 ⟨v', rfl, hfin⟩
    clear hend c0 b0 b1 b2 b3
    go_wp2_with fail
    go_ret2
    rw [HEX.out]
    exact hfin
  replace hc : (k.code == 10) = false := beq_eq_false_iff_ne.2 hc
  have z10 := hc
  clear hc
  by_cases hc : k.code = 11
  · have hE : evOf k.code = 15 := by rw [hc]; rfl
    replace hend := hend 15 (fun h => absurd h (by decide))
    obtain ⟨X, hX⟩ : ∃ X, runM s 15 ⟨k, 0, 0, []⟩ = X := ⟨_, rfl⟩
    have HEX : Hid (runM s (evOf k.code) ⟨k, 0, 0, []⟩ = X) := Lib.hid (by rw [hE, hX])
    rw [hX] at hend
    have zc : (k.code == 11) = true := beq_iff_eq.2 hc
    clear hE hX hc
    go_wp2_with fail
    refine hend.mono ?_
    rintro e w5 ⟨v', rfl, hfin⟩
    clear hend c0 b0 b1 b2 b3
    go_wp2_with fail
    go_ret2
    rw [HEX.out]
    exact hfin
  replace hc : (k.code == 11) = false := beq_eq_false_iff_ne.2 hc
  have z11 := hc
  clear hc
  have hE : evOf k.code = 12 := by
    unfold evOf
    rw [if_neg (by simpa using z5), if_neg (by simpa using z6), if_neg (by simp at z7 z8; omega), if_neg (by simp at z9 z10 z11; omega)]
  replace hend := hend 12 (fun h => absurd h (by decide))
  obtain ⟨X, hX⟩ : ∃ X, runM s 12 ⟨k, 0, 0, []⟩ = X := ⟨_, rfl⟩
  have HEX : Hid (runM s (evOf k.code) ⟨k, 0, 0, []⟩ = X) := Lib.hid (by rw [hE, hX])
  rw [hX] at hend
  clear hE hX
  go_wp2_with fail
  refine hend.mono ?_
  rintro e w5 ⟨v', rfl, hfin⟩
  clear hend c0 b0 b1 b2 b3
  go_wp2_with fail
  go_ret2
  rw [HEX.out]
  exact hfin
end Go.Proofs.YtagnbdenecphcaaGreatDoor
