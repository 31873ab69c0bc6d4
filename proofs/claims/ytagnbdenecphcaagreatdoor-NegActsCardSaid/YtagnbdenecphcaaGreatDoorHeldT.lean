/- Regions that draw where two operations that write may come up at once: a schedule that parts. -/
import Derived.Test.YtagnbdenecphcaaGreatDoorMg1
namespace Go.Proofs.YtagnbdenecphcaaGreatDoor
open Go.RowKit
section
variable {P : Program} {ops : Array Oper} {Q : Exit → Act → World → Prop} {S : World → Prop}
/-- a schedule that may part: to its end, or up to where two operations that write may come up -/
inductive STree where
  | fin (l : List (Nat × Bool))
  | two (l : List (Nat × Bool)) (i j : Nat) (ti tj : STree)
def markL (l : List (Nat × Bool)) (listed : Array Bool) : Array Bool := l.foldl (fun a x => a.setIfInBounds x.1 true) listed
def preB (ops : Array Oper) : List (Nat × Bool) → Array Bool → Bool
  | [], _ => true
  | (i, true) :: r, listed => Region.free .any ops listed i && (Region.ready .any ops listed).contains i && preB ops r (listed.setIfInBounds i true)
  | (i, false) :: r, listed => (Region.ready .any ops listed == [i]) && preB ops r (listed.setIfInBounds i true)
def treeB (ops : Array Oper) : STree → Array Bool → Bool
  | .fin l, listed => schedB .any ops l listed
  | .two l i j ti tj, listed => preB ops l listed && (Region.ready .any ops (markL l listed) == [i, j]) && treeB ops ti ((markL l listed).setIfInBounds i true) && treeB ops tj ((markL l listed).setIfInBounds j true)
def STree.many : STree → Nat
  | .fin l => l.length
  | .two l _ _ ti _ => l.length + (ti.many + 1)
/-- both arms are of one length -/
def STree.even : STree → Bool
  | .fin _ => true
  | .two _ _ _ ti tj => decide (ti.many = tj.many) && ti.even && tj.even
theorem wpOp_congr {Q' : Exit → Act → World → Prop} {i : Nat} {K : Act → World → Prop} {a : Act} {w : World} (hQ : ∀ e a w, e ≠ Exit.normal → Q e a w → Q' e a w) (h : wpOp P ops Q i K a w) : wpOp P ops Q' i K a w := by
  unfold wpOp at *
  cases hi : ops[i]? with
  | none => rw [hi] at h; exact h
  | some o =>
    rw [hi] at h
    dsimp only at h ⊢
    split
    · rename_i hw
      rw [if_pos hw] at h
      rcases h with h | ⟨h1, h2⟩
      · refine .inl ?_
        unfold Oper.wp at *
        generalize (execOp a.eval o).run P w = r at *
        cases r with
        | ok n w' =>
          cases n <;> simp only [Oper.upon] at h ⊢
          all_goals first
            | exact h
            | exact hQ _ _ _ (by simp) h
            | (refine h.mono ?_
               intro e w'' he
               cases e <;> first | exact he | exact hQ _ _ _ (by simp) he | (obtain ⟨a', w', hx⟩ := he; exact ⟨a', w', hQ _ _ _ (by simp) hx⟩))
        | halt x w' => cases x <;> first | exact h | exact hQ _ _ _ (by simp) h | exact h.elim
      · exact .inr ⟨h1, by obtain ⟨a', w', hx⟩ := h2; exact ⟨a', w', hQ _ _ _ (by simp) hx⟩⟩
    · rename_i hw
      rw [if_neg hw] at h
      exact h
theorem QRun_flat (Q : Exit → Act → World → Prop) (K0 : Act → World → Prop) (e : Exit) (a : Act) (w : World) (he : e ≠ .normal) (h : QRun Q K0 e a w) : Q e a w := by
  cases e <;> first | exact absurd rfl he | exact h
theorem pre_held (hs : Region.noSelect ops = true) (hQ : ∀ c d v a w, Q (.panic c) (Act.put a d v) w → Q (.panic c) a w) (K0 : Act → World → Prop) (n : Nat) : ∀ (l : List (Nat × Bool)) (listed : Array Bool) (a : Act) (w : World),
    preB ops l listed = true → S w → (∀ a w, S w → K0 a w → wpAnyH P .any ops Q S n (markL l listed) a w) → wpSched P ops S (QRun Q K0) l a w → wpAnyH P .any ops Q S (l.length + n) listed a w
  | [], listed, a, w, hB, hS, hK, h => by
    rw [List.length_nil, Nat.zero_add]
    exact hK a w hS h
  | (i, true) :: r, listed, a, w, hB, hS, hK, ⟨o, v, ho, hy, h⟩ => by
    simp only [preB, Bool.and_eq_true] at hB
    obtain ⟨⟨h1, h2⟩, h3⟩ := hB
    rw [List.length_cons, Nat.add_right_comm]
    exact wpAnyH_take ho hs h1 h2 (fun c a w => hQ c _ _ a w) hy hS (pre_held hs hQ K0 n r _ _ w h3 hS hK h)
  | (i, false) :: r, listed, a, w, hB, hS, hK, h => by
    simp only [preB, Bool.and_eq_true, beq_iff_eq] at hB
    obtain ⟨h1, h2⟩ := hB
    rw [List.length_cons, Nat.add_right_comm]
    refine wpAnyH_all h1 (by simp) fun j hj => ?_
    rw [List.mem_singleton] at hj
    subst hj
    exact wpOp_mono (fun a' w' ⟨k1, k2⟩ => ⟨k1, pre_held hs hQ K0 n r _ a' w' h2 k1 hK k2⟩) (wpOp_congr (QRun_flat Q K0) h)
def wpTree (P : Program) (ops : Array Oper) (S : World → Prop) (Q : Exit → Act → World → Prop) : STree → Act → World → Prop
  | .fin l, a, w => wpSchedL P ops S Q (schedOps ops l) a w
  | .two l i j ti tj, a, w => wpSchedL P ops S (QRun Q fun a w => wpSchedL P ops S (QRun Q fun a w => wpTree P ops S Q ti a w) (schedOps ops [(i, false)]) a w ∧ wpSchedL P ops S (QRun Q fun a w => wpTree P ops S Q tj a w) (schedOps ops [(j, false)]) a w) (schedOps ops l) a w
def STree.inB (n : Nat) : STree → Bool
  | .fin l => l.all fun x => decide (x.1 < n)
  | .two l i j ti tj => (l.all fun x => decide (x.1 < n)) && decide (i < n) && decide (j < n) && ti.inB n && tj.inB n
theorem one_of_tree {i : Nat} {K0 : Act → World → Prop} {a : Act} {w : World} (hi : i < ops.size) (h : wpSchedL P ops S (QRun Q K0) (schedOps ops [(i, false)]) a w) : wpOp P ops Q i (fun a w => S w ∧ K0 a w) a w :=
  wpOp_congr (QRun_flat Q K0) (wpOp_mono (fun a' w' ⟨k1, k2⟩ => ⟨k1, k2⟩) (sched_of_list [(i, false)] a w (by simpa using hi) h))
theorem tree_held (hs : Region.noSelect ops = true) (hQ : ∀ c d v a w, Q (.panic c) (Act.put a d v) w → Q (.panic c) a w) : ∀ (t : STree) (listed : Array Bool) (a : Act) (w : World),
    treeB ops t listed = true → t.inB ops.size = true → t.even = true → S w → wpTree P ops S Q t a w → wpAnyH P .any ops Q S t.many listed a w
  | .fin l, listed, a, w, hB, hi, _, hS, h => sched_held hs hQ l listed a w hB hS (sched_of_list l a w hi h)
  | .two l i j ti tj, listed, a, w, hB, hi, he, hS, h => by
    simp only [treeB, Bool.and_eq_true, beq_iff_eq] at hB
    obtain ⟨⟨⟨h1, h2⟩, h3⟩, h4⟩ := hB
    simp only [STree.inB, Bool.and_eq_true, decide_eq_true_eq] at hi
    obtain ⟨⟨⟨⟨i1, i2⟩, i3⟩, i4⟩, i5⟩ := hi
    simp only [STree.even, Bool.and_eq_true, decide_eq_true_eq] at he
    obtain ⟨⟨e1, e2⟩, e3⟩ := he
    refine pre_held hs hQ _ (ti.many + 1) l listed a w h1 hS ?_ (sched_of_list l a w i1 h)
    intro a w hS hK
    refine wpAnyH_all h2 (by simp) fun k hk => ?_
    simp only [List.mem_cons, List.mem_nil_iff, or_false] at hk
    rcases hk with rfl | rfl
    · exact wpOp_mono (fun a' w' ⟨k1, k2⟩ => ⟨k1, tree_held hs hQ ti _ a' w' h3 i4 e2 k1 k2⟩) (one_of_tree i2 hK.1)
    · exact wpOp_mono (fun a' w' ⟨k1, k2⟩ => ⟨k1, e1 ▸ tree_held hs hQ tj _ a' w' h4 i5 e3 k1 k2⟩) (one_of_tree i3 hK.2)
theorem wp_tree {id : Nat} {a : Act} {w : World} {l : List Oper} (S : World → Prop) (t : STree) (hm : P.follows .mixedOrders = true) (hs : Region.noSelect l.toArray = true) (hn : t.many = l.toArray.size)
    (hi : t.inB l.toArray.size = true) (he : t.even = true)
    (hB : treeB l.toArray t (Array.replicate l.toArray.size false) = true) (hS : S w.drew) (hQ : ∀ c d v a w, Q (.panic c) (Act.put a d v) w → Q (.panic c) a w)
    (h : wpTree P l.toArray S Q t a w.drew) : (Code.region id l.toArray true).wp P Q a w := by
  refine wp_region_held (S := S) hm ?_
  rw [← hn]
  have := tree_held (P := P) hs hQ t (Array.replicate l.toArray.size false) a w.drew hB hi he hS h
  rw [← hn] at this
  exact this
theorem tree_both {A B : Act → World → Prop} {a : Act} {w : World} (h1 : A a w) (h2 : B a w) : QRun Q (fun a w => A a w ∧ B a w) .normal a w := ⟨h1, h2⟩
/-- one of two: what is left waits behind a name -/
theorem tree_step {K0 : Act → World → Prop} {o : Oper} {a : Act} {w : World}
    (h : ∀ (Q1 : Exit → Act → World → Prop) (K : Act → World → Prop), Hid (∀ a' w', S w' → K0 a' w' → K a' w') → wpList P ops (QRun Q1 K) [o] a w) : wpSchedL P ops S (QRun Q K0) [(o, false)] a w :=
  fun K hK => h (QRun Q K0) K (Lib.hid fun a' w' h1 h2 => hK.out a' w' h1 h2)
end
end Go.Proofs.YtagnbdenecphcaaGreatDoor
