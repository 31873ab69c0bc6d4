/- The reference: run in one, Do, Take. -/
import Derived.Test.YtagnbdenecphcaaGreatDoorRn
import Derived.Test.YtagnbdenecphcaaGreatDoorRd
import Derived.Test.YtagnbdenecphcaaGreatDoorRg
import Derived.Test.YtagnbdenecphcaaGreatDoorRi
namespace Go.Proofs.YtagnbdenecphcaaGreatDoor
open Go.RowKit
set_option linter.unusedVariables false
set_option linter.unusedSimpArgs false
theorem acts8_dec : ∀ a : Fin 10, ∀ b : Fin 16, (8 : Int) ∈ (stepSays ((a.val : Nat) : Int) ((b.val : Nat) : Int)).2.1 → b.val = 6 := by decide +kernel
theorem acts8 {s v : Int} (he : (stepSays s v).2.2 = 0) (h : 8 ∈ (stepSays s v).2.1) : v = 6 := by
  obtain ⟨a, b, rfl, rfl, ha, hb⟩ := step_range he
  have := acts8_dec ⟨a, ha⟩ ⟨b, hb⟩ h
  simp at this
  omega
/-- a side of the reference in memory -/
structure RSide (w : World) (p : Nat) (av : Value) (s : NegM) : Prop where
  blk : RNegAt w p av s
  os : OptsAt w av s.os
  op : ∀ k, av.ownBlock = some k → k ≠ p
  good : GoodM s
theorem RSide.below {w w' : World} {p : Nat} {av : Value} {s : NegM} (h : RSide w p av s) (hb : Below w.heap.size w w') : RSide w' p av s :=
  ⟨h.blk.below hb, h.os.below hb, h.op, h.good⟩
theorem RSide.only {S : Nat → Prop} {w w' : World} {p : Nat} {av : Value} {s : NegM} (h : RSide w p av s) (ho : Only S w w') (hp : ¬ S p) (hn : ∀ k, av.ownBlock = some k → ¬ S k) : RSide w' p av s :=
  ⟨h.blk.only ho hp, SeqAt.only h.os ho hn, h.op, h.good⟩
/-- behind an act: the packets, the side, what turned -/
def RActPost (p : Nat) (av : Value) (s : NegM) (X : NegM × List PacketM × Int) (w : World) (e : Ending) (w' : World) : Prop :=
  ∃ v l av', e = .returned (.tuple #[v, .int .i64 X.2.2]) ∧ PacksIn w' v l ∧ l.map (·.1) = X.2.1 ∧ RSide w' p av' X.1 ∧ OsKept w' w.heap.size av av' s X.1 ∧ Only (· = p) w w'
theorem RActPost.stay {p : Nat} {av : Value} {s : NegM} {w w' : World} {e : Int} (h : RSide w p av s) (hb : Below w.heap.size w w') : RActPost p av s (s, [], e) w (.returned (.tuple #[.slice none 0 0, .int .i64 e])) w' :=
  ⟨_, [], av, rfl, ⟨SeqAt.nil _ _, fun x hx => absurd hx (by simp)⟩, rfl, h.below hb, .inl ⟨rfl, rfl⟩, Only.ofBelow hb⟩
/-- a run of s1 inside an act of s: p's cells and the memory between -/
theorem RActPost.of {p : Nat} {av v av' : Value} {s s1 X : NegM} {l : List PackV} {ps : List PacketM} {w w1 w' : World} {e : Int} (h : RSide w p av s) (hs : s1.os = s.os) (hgX : GoodM X) (h01 : Only (· = p) w w1) (ha : PacksIn w' v l) (hl : l.map (·.1) = ps) (hn : RNegAt w' p av' X) (hk : OsKept w' w1.heap.size av av' s1 X) (ho : Only (· = p) w1 w') :
    RActPost p av s (X, ps, e) w (.returned (.tuple #[v, .int .i64 e])) w' := by
  have hO := h01.trans ho
  have hpl := h.blk.lt
  rcases hk with ⟨rfl, hx⟩ | hx
  · exact ⟨v, l, av', rfl, ha, hl, ⟨hn, by rw [hx, hs]; exact SeqAt.only h.os hO h.op, h.op, hgX⟩, .inl ⟨rfl, hx.trans hs⟩, hO⟩
  · refine ⟨v, l, av', rfl, ha, hl, ⟨hn, hx.at, fun k e2 => ?_, hgX⟩, .inr (hx.base h01.size), hO⟩
    have h1 := hx.block k e2
    have h2 := h01.size
    omega
theorem rrun_any (p : Nat) (av po ov : Value) (s : NegM) (ev : Int) (r : ReplyM) (w : World) (h : RNegAt w p av s) (hg : GoodM s)
    (hpo : OptsIn w po r.p.opts) (hov : OptsIn w ov r.os) (hpp : r.p.opts ≠ [] → ∀ k, po.ownBlock = some k → k ≠ p) (hop : r.os ≠ [] → ∀ k, ov.ownBlock = some k → k ≠ p)
    (hsz : r.p.data.size ≤ 4611686018427387904) (hz : ∀ o ∈ r.p.opts, o.2.size ≤ 140737488351232) (hac8 : ev = 6 → r.p.opts = r.os) :
    Calls Tryz.prog 24 #[.pointer (some ⟨p, 0, none⟩), .int .i64 ev, .agg (packCells r.p po), .int .i64 r.verdict, ov] w (RRunPost p av s (runM s ev r) w) := by
  by_cases he : (stepSays s.state ev).2.2 = 0
  · exact rrun_good p av po ov s ev { r with event := ev } w h hg rfl hpo hov hpp hop hsz hz (fun h8 => hac8 (acts8 he h8)) he
  · have hr : runM s ev r = (s, [], 1501) := by unfold runM; rw [if_pos he]
    rw [hr]
    refine (rrun_bad p av po ov s ev r w h he).mono ?_
    rintro e w' ⟨rfl, hb⟩
    exact ⟨_, [], av, rfl, ⟨SeqAt.nil _ _, fun x hx => absurd hx (by simp)⟩, rfl, h.below hb, .inl ⟨rfl, rfl⟩, Only.ofBelow hb⟩
set_option maxRecDepth 100000 in
set_option maxHeartbeats 4000000 in
theorem rdo_run (p : Nat) (av : Value) (s : NegM) (ev e2 : Int) (w : World) (h : RSide w p av s) (he : (ev = 0 ∧ e2 = 0) ∨ (ev = 1 ∧ e2 = 1) ∨ (ev = 2 ∧ e2 = 2) ∨ (ev = 3 ∧ e2 = 3) ∨ (ev = 4 ∧ e2 = 5 ∧ s.left = 0) ∨ (ev = 4 ∧ e2 = 4 ∧ s.left ≠ 0)) :
    Calls Tryz.prog 9 #[.pointer (some ⟨p, 0, none⟩), .int .i64 ev] w (RActPost p av s (runM s e2 replyZ) w) := by
  have hrun : Calls Tryz.prog 24 #[.pointer (some ⟨p, 0, none⟩), .int .i64 e2, .agg #[.int .i64 0, .int .i64 0, .slice none 0 0, .string ⟨#[]⟩], .int .i64 0, .slice none 0 0] w (RRunPost p av s (runM s e2 replyZ) w) :=
    rrun_any p av (.slice none 0 0) (.slice none 0 0) s e2 replyZ w h.blk h.good (OptsIn.nil w) (OptsIn.nil w) (fun _ k hk => by cases hk) (fun _ k hk => by cases hk) (by decide) (fun o ho => by cases ho) (fun _ => rfl)
  have hgX := good_run h.good e2 replyZ
  obtain ⟨X, hX⟩ : ∃ X, runM s e2 replyZ = X := ⟨_, rfl⟩
  rw [hX] at hrun hgX ⊢
  obtain ⟨X1, ps, xe⟩ := X
  have c13 : w.cell? ⟨p, 13, none⟩ = some (.int .i64 s.left) := h.blk.cell 13
  have HX := Lib.hid hX
  clear hX
  dsimp only at hgX
  rcases he with ⟨rfl, rfl⟩ | ⟨rfl, rfl⟩ | ⟨rfl, rfl⟩ | ⟨rfl, rfl⟩ | ⟨rfl, rfl, hl⟩ | ⟨rfl, rfl, hl⟩
  all_goals try rw [hl] at c13
  all_goals try have hlb : (s.left == 0) = false := beq_eq_false_iff_ne.2 (by assumption)
  all_goals try clear hl
  all_goals
    go_enter Tryz.func9, Tryz.ntmps9
    go_wp2_with fail
    refine hrun.mono ?_
    rintro e w5 ⟨v, l, av', rfl, ha, hl, hn, hk, ho⟩
    dsimp only at ha hl hn hk
    have hfin : RActPost p av s (X1, ps, xe) w (.returned (.tuple #[v, .int .i64 xe])) w5 := RActPost.of h rfl hgX (Only.refl _ _) ha hl hn hk ho
    clear hrun ha hl hn hk ho c13
    go_wp2_with fail
    go_ret2
    exact hfin
set_option maxRecDepth 100000 in
set_option maxHeartbeats 4000000 in
theorem rdo_form (p : Nat) (av : Value) (s : NegM) (ev : Int) (w : World) (h : RSide w p av s) (he : ¬ (ev = 0 ∨ ev = 1 ∨ ev = 2 ∨ ev = 3) ∧ ev ≠ 4) :
    Calls Tryz.prog 9 #[.pointer (some ⟨p, 0, none⟩), .int .i64 ev] w (RActPost p av s (s, [], 1500) w) := by
  have hfin : RActPost p av s (s, [], 1500) w (.returned (.tuple #[.slice none 0 0, .int .i64 1500])) w := RActPost.stay h (Below.refl _ _)
  obtain ⟨he, h4⟩ := he
  have z0 : (ev != 0) = true := bne_iff_ne.2 (by omega)
  have z1 : (ev != 1) = true := bne_iff_ne.2 (by omega)
  have z2 : (ev != 2) = true := bne_iff_ne.2 (by omega)
  have z3 : (ev != 3) = true := bne_iff_ne.2 (by omega)
  have z4 : (ev != 4) = true := bne_iff_ne.2 h4
  clear he h4 h
  go_enter Tryz.func9, Tryz.ntmps9
  go_wp2_with fail
  go_ret2
  exact hfin
theorem rDo_any (p : Nat) (av : Value) (s : NegM) (ev : Int) (w : World) (h : RSide w p av s) :
    Calls Tryz.prog 9 #[.pointer (some ⟨p, 0, none⟩), .int .i64 ev] w (RActPost p av s (doM s ev) w) := by
  unfold doM
  by_cases h0 : ev = 0 ∨ ev = 1 ∨ ev = 2 ∨ ev = 3
  · rw [if_pos h0]
    exact rdo_run p av s ev ev w h (by rcases h0 with h | h | h | h <;> simp [h])
  · rw [if_neg h0]
    by_cases h4 : ev = 4
    · rw [if_pos h4]
      by_cases hl : s.left = 0
      · rw [if_pos hl]
        exact rdo_run p av s ev 5 w h (by simp [h4, hl])
      · rw [if_neg hl]
        exact rdo_run p av s ev 4 w h (by simp [h4, hl])
    · rw [if_neg h4]
      exact rdo_form p av s ev w h ⟨h0, h4⟩
end Go.Proofs.YtagnbdenecphcaaGreatDoor
