/- Regions that draw: one order for all. What reads goes first; S holds behind each operation that writes. -/
import Derived.Test.YteigigepmoicaaaGreatDoorSeq
import Derived.OrdersHeld
import Derived.RegionTactic
namespace Go.Proofs.YteigigepmoicaaaGreatDoor
open Go.RowKit
section
variable {P : Program} {ops : Array Oper} {Q : Exit → Act → World → Prop} {S : World → Prop}
/-- a store into another block -/
theorem cell_far (w : World) (p a : Addr) (v : Value) (h : p.block ≠ a.block) : (w.setCell p v).cell? a = w.cell? a :=
  World.cell?_setCell_other w p a v (fun e => h (by rw [e]))
/-- Q behind an exit; K behind the normal end -/
def QRun (Q : Exit → Act → World → Prop) (K : Act → World → Prop) : Exit → Act → World → Prop
  | .normal, a, w => K a w
  | e, a, w => Q e a w
theorem wpOp_of_list {i : Nat} {o : Oper} {K : Act → World → Prop} {a : Act} {w : World} (ho : ops[i]? = some o) (h : wpList P ops (QRun Q K) [o] a w) : wpOp P ops Q i K a w := by
  unfold wpOp
  rw [ho]
  simp only [wpList] at h
  show if _ then _ else _
  split
  · rename_i hw
    rw [if_pos hw] at h
    rcases h with h | ⟨h1, h2⟩
    · refine .inl ?_
      unfold Oper.wp at *
      generalize (execOp a.eval o).run P w = r at *
      cases r with
      | ok n w' =>
        cases n <;> simp only [Oper.upon] at h ⊢
        all_goals first
          | exact h
          | (refine h.mono ?_
             intro e w'' he
             cases e <;> first | exact he | (exact fun hx => he hx))
      | halt x w' => cases x <;> first | exact h | exact h.elim
    · exact .inr ⟨h1, h2⟩
  · rename_i hw
    rw [if_neg hw] at h
    exact h
/-- is a schedule one that every order may be turned into? true: a read, taken first; false: all that may come up -/
def schedB (md : Region.Mode) (ops : Array Oper) : List (Nat × Bool) → Array Bool → Bool
  | [], listed => (Region.ready md ops listed).isEmpty
  | (i, true) :: r, listed => Region.free md ops listed i && (Region.ready md ops listed).contains i && schedB md ops r (listed.setIfInBounds i true)
  | (i, false) :: r, listed => (Region.ready md ops listed == [i]) && schedB md ops r (listed.setIfInBounds i true)
def wpSched (P : Program) (ops : Array Oper) (S : World → Prop) (Q : Exit → Act → World → Prop) : List (Nat × Bool) → Act → World → Prop
  | [], a, w => Q .normal a w
  | (i, true) :: r, a, w => ∃ o v, ops[i]? = some o ∧ YieldsIf P ops S o v a ∧ wpSched P ops S Q r (a.put o.dst v) w
  | (i, false) :: r, a, w => wpOp P ops Q i (fun a' w' => S w' ∧ wpSched P ops S Q r a' w') a w
theorem sched_held (hs : Region.noSelect ops = true) (hQ : ∀ c d v a w, Q (.panic c) (Act.put a d v) w → Q (.panic c) a w) : ∀ (l : List (Nat × Bool)) (listed : Array Bool) (a : Act) (w : World),
    schedB .any ops l listed = true → S w → wpSched P ops S Q l a w → wpAnyH P .any ops Q S l.length listed a w
  | [], listed, a, w, hB, _, h => ⟨by simpa [schedB] using hB, h⟩
  | (i, true) :: r, listed, a, w, hB, hS, ⟨o, v, ho, hy, h⟩ => by
    simp only [schedB, Bool.and_eq_true] at hB
    obtain ⟨⟨h1, h2⟩, h3⟩ := hB
    exact wpAnyH_take ho hs h1 h2 (fun c a w => hQ c _ _ a w) hy hS (sched_held hs hQ r _ _ w h3 hS h)
  | (i, false) :: r, listed, a, w, hB, hS, h => by
    simp only [schedB, Bool.and_eq_true, beq_iff_eq] at hB
    obtain ⟨h1, h2⟩ := hB
    refine wpAnyH_all h1 (by simp) fun j hj => ?_
    rw [List.mem_singleton] at hj
    subst hj
    exact wpOp_mono (fun a' w' ⟨k1, k2⟩ => ⟨k1, sched_held hs hQ r _ a' w' h2 k1 k2⟩) h
theorem wp_sched {id : Nat} {a : Act} {w : World} {l : List Oper} (S : World → Prop) (sc : List (Nat × Bool)) (hm : P.follows .mixedOrders = true) (hs : Region.noSelect l.toArray = true) (hn : sc.length = l.toArray.size)
    (hB : schedB .any l.toArray sc (Array.replicate l.toArray.size false) = true) (hS : S w.drew) (hQ : ∀ c d v a w, Q (.panic c) (Act.put a d v) w → Q (.panic c) a w)
    (h : wpSched P l.toArray S Q sc a w.drew) : (Code.region id l.toArray true).wp P Q a w := by
  refine wp_region_held (S := S) hm ?_
  rw [← hn]
  have := sched_held (P := P) hs hQ sc (Array.replicate l.toArray.size false) a w.drew hB hS h
  rw [← hn] at this
  exact this
/-- the operations of a schedule, in its row -/
def schedOps (ops : Array Oper) (sc : List (Nat × Bool)) : List (Oper × Bool) := sc.filterMap fun x => (ops[x.1]?).map fun o => (o, x.2)
def wpSchedL (P : Program) (ops : Array Oper) (S : World → Prop) (Q : Exit → Act → World → Prop) : List (Oper × Bool) → Act → World → Prop
  | [], a, w => Q .normal a w
  | (o, true) :: r, a, w => ∃ v, YieldsIf P ops S o v a ∧ wpSchedL P ops S Q r (a.put o.dst v) w
  | (o, false) :: r, a, w => ∀ K : Act → World → Prop, Hid (∀ a' w', S w' → wpSchedL P ops S Q r a' w' → K a' w') → wpList P ops (QRun Q K) [o] a w
theorem sched_of_list : ∀ (sc : List (Nat × Bool)) (a : Act) (w : World), (sc.all fun x => decide (x.1 < ops.size)) = true → wpSchedL P ops S Q (schedOps ops sc) a w → wpSched P ops S Q sc a w
  | [], a, w, _, h => h
  | (i, b) :: r, a, w, hB, h => by
    simp only [List.all_cons, Bool.and_eq_true, decide_eq_true_eq] at hB
    obtain ⟨hi, hr⟩ := hB
    have ho : ops[i]? = some ops[i] := Array.getElem?_eq_getElem hi
    have e : schedOps ops ((i, b) :: r) = (ops[i], b) :: schedOps ops r := by
      unfold schedOps
      rw [List.filterMap_cons]
      simp only [ho, Option.map_some]
    rw [e] at h
    cases b with
    | true =>
      obtain ⟨v, hy, h2⟩ := h
      exact ⟨ops[i], v, ho, hy, sched_of_list r _ w hr h2⟩
    | false => exact wpOp_of_list ho (h _ (Lib.hid fun a' w' h1 h2 => ⟨h1, sched_of_list r a' w' hr h2⟩))
theorem wp_schedL {id : Nat} {a : Act} {w : World} {l : List Oper} (S : World → Prop) (sc : List (Nat × Bool)) (hm : P.follows .mixedOrders = true) (hs : Region.noSelect l.toArray = true) (hn : sc.length = l.toArray.size)
    (hi : (sc.all fun x => decide (x.1 < l.toArray.size)) = true)
    (hB : schedB .any l.toArray sc (Array.replicate l.toArray.size false) = true) (hS : S w.drew) (hQ : ∀ c d v a w, Q (.panic c) (Act.put a d v) w → Q (.panic c) a w)
    (h : wpSchedL P l.toArray S Q (schedOps l.toArray sc) a w.drew) : (Code.region id l.toArray true).wp P Q a w :=
  wp_sched S sc hm hs hn hB hS hQ (sched_of_list sc _ _ hi h)
theorem wpSched_take {o : Oper} {r : List (Oper × Bool)} {a : Act} {w : World} (v : Value) (hw : Region.wanted o (yielded ops a.tmps) = true)
    (hv : ∀ w, S w → (execOp a.eval o).run P w = .ok (.value v) w) (h : wpSchedL P ops S Q r (a.put o.dst v) w) : wpSchedL P ops S Q ((o, true) :: r) a w := ⟨v, .inl ⟨hw, hv⟩, h⟩
theorem wpSched_skip {o : Oper} {r : List (Oper × Bool)} {a : Act} {w : World} (hw : Region.wanted o (yielded ops a.tmps) = false)
    (h : wpSchedL P ops S Q r (a.put o.dst undef) w) : wpSchedL P ops S Q ((o, true) :: r) a w := ⟨undef, .inr ⟨hw, rfl⟩, h⟩
theorem wpSched_run {o : Oper} {r : List (Oper × Bool)} {a : Act} {w : World}
    (h : ∀ K : Act → World → Prop, Hid (∀ a' w', S w' → wpSchedL P ops S Q r a' w' → K a' w') → wpList P ops (QRun Q K) [o] a w) : wpSchedL P ops S Q ((o, false) :: r) a w := h
theorem wpSched_done {a : Act} {w : World} (h : Q .normal a w) : wpSchedL P ops S Q [] a w := h
theorem QRun_normal {K : Act → World → Prop} {a : Act} {w : World} (h : K a w) : QRun Q K .normal a w := h
end
end Go.Proofs.YteigigepmoicaaaGreatDoor
