/- Slices of values of one or many cells: read, owned, appended; worlds in which only some blocks have turned. -/
import Derived.Test.YteigigepmoicaaaGreatDoorMg1
import Derived.Laws.AppendOwnNone
import Derived.Maps.AppendAt
import Derived.Handy
import Derived.StillTailTactics
namespace Go.Proofs.YteigigepmoicaaaGreatDoor
open Go.RowKit
set_option linter.unusedVariables false
/-- nothing has turned but blocks of S -/
structure Only (S : Nat → Prop) (w w' : World) : Prop where
  os : w'.os = w.os
  tape : w'.tape = w.tape
  output : w'.output = w.output
  size : w.heap.size ≤ w'.heap.size
  block : ∀ k, k < w.heap.size → ¬ S k → w'.heap[k]? = w.heap[k]?
section
variable {S T : Nat → Prop} {w w1 w2 : World}
theorem Only.refl (S : Nat → Prop) (w : World) : Only S w w := ⟨rfl, rfl, rfl, Nat.le_refl _, fun _ _ _ => rfl⟩
theorem Only.trans (h : Only S w w1) (k : Only S w1 w2) : Only S w w2 :=
  ⟨k.os.trans h.os, k.tape.trans h.tape, k.output.trans h.output, Nat.le_trans h.size k.size, fun i hi hn => (k.block i (Nat.lt_of_lt_of_le hi h.size) hn).trans (h.block i hi hn)⟩
theorem Only.mono (h : Only S w w1) (hs : ∀ k, k < w.heap.size → S k → T k) : Only T w w1 := ⟨h.os, h.tape, h.output, h.size, fun k hk hn => h.block k hk fun e => hn (hs k hk e)⟩
theorem Only.ofBelow (h : Below w.heap.size w w1) : Only S w w1 := ⟨h.os, h.tape, h.output, h.size, fun k hk _ => h.block k hk⟩
theorem Only.below (h : Only S w w1) {B : Nat} (hB : B ≤ w.heap.size) (hs : ∀ k, S k → B ≤ k) : Below B w w1 :=
  ⟨h.os, h.tape, h.output, h.size, fun k hk => h.block k (by omega) fun e => by have := hs k e; omega⟩
/-- a step that turns nothing of what was there when it began -/
theorem Only.then (h : Only S w w1) (k : Below w1.heap.size w1 w2) : Only S w w2 := h.trans (Only.ofBelow k)
/-- a step whose blocks are of S, or were not there at the beginning -/
theorem Only.and (h : Only S w w1) (k : Only T w1 w2) (hs : ∀ i, T i → S i ∨ w.heap.size ≤ i) : Only S w w2 :=
  ⟨k.os.trans h.os, k.tape.trans h.tape, k.output.trans h.output, Nat.le_trans h.size k.size, fun i hi hn =>
    (k.block i (Nat.lt_of_lt_of_le hi h.size) (fun e => by rcases hs i e with h | h; exact hn h; omega)).trans (h.block i hi hn)⟩
theorem Only.alloc (h : Only S w w1) (o : Obj) : Only S w (w1.alloc o) := h.then ((Below.refl _ _).alloc (Nat.le_refl _) o)
theorem Only.drew (h : Only S w w1) : Only S w w1.drew := h.then (Below.refl _ _).drew
theorem Only.set (h : Only S w w1) {a : Addr} (ha : S a.block ∨ w.heap.size ≤ a.block) (x : Value) : Only S w (w1.setCell a x) :=
  ⟨h.os, h.tape, h.output, by simpa [World.setCell] using h.size, fun k hk hn => by
    rw [Below.heap_setCell _ _ _ _ (fun e => by subst e; rcases ha with h | h; exact hn h; omega)]
    exact h.block k hk hn⟩
theorem Only.cell (h : Only S w w1) {a : Addr} {v : Value} (hc : w.cell? a = some v) (hn : ¬ S a.block) : w1.cell? a = some v :=
  (World.cell?_of_block (h.block a.block (block_lt_of_cell hc) hn)).trans hc
theorem Only.heap (h : Only S w w1) {k : Nat} {o : Obj} (hk : w.heap[k]? = some o) (hn : ¬ S k) : w1.heap[k]? = some o :=
  (h.block k (Array.getElem?_eq_some_iff.1 hk).1 hn).trans hk
end
theorem below_of {w w' : World} (h : Below w.heap.size w w') {k : Nat} {o : Obj} (hk : w.heap[k]? = some o) : w'.heap[k]? = some o :=
  (h.block k (Array.getElem?_eq_some_iff.1 hk).1).trans hk
/-- an element type of slices, and how its values are read -/
structure Elem (P : Program) (α : Type) where
  tS : TypeId
  tE : TypeId
  size : Nat
  bytes : Nat
  z : Value
  enc : α → List Value
  und : P.underlying tS = some (.slice tE)
  info : (P.info? tE).map (fun i => (i.zero, i.size, i.bytes)) = some (some z, size, bytes)
  zs : z.cells.size = size
  len : ∀ a, (enc a).length = size
  one : ∀ a, ∀ u ∈ enc a, u.oneCell' = true
  pos : 0 < size
section
variable {P : Program} {α : Type} (E : Elem P α)
theorem Elem.length (l : List α) : (l.flatMap E.enc).length = l.length * E.size := by
  induction l with
  | nil => simp
  | cons a l ih => rw [List.flatMap_cons, List.length_append, ih, E.len, List.length_cons, Nat.add_mul]; omega
theorem Elem.at (l : List α) : ∀ j (h : j < l.length) i, i < E.size → (l.flatMap E.enc)[j * E.size + i]? = (E.enc l[j])[i]? := by
  induction l with
  | nil => intro j h; simp at h
  | cons a l ih =>
    intro j h i hi
    rw [List.flatMap_cons]
    cases j with
    | zero => rw [Nat.zero_mul, Nat.zero_add, List.getElem?_append_left (by rw [E.len]; exact hi)]; rfl
    | succ j =>
      rw [List.getElem?_append_right (by rw [E.len, Nat.add_mul]; omega), E.len]
      have e : (j + 1) * E.size + i - E.size = j * E.size + i := by rw [Nat.add_mul]; omega
      rw [e]
      exact ih j (by simpa using h) i hi
theorem Elem.one' (l : List α) : ∀ u ∈ l.flatMap E.enc, u.oneCell' = true := by
  intro u hu
  obtain ⟨a, _, h⟩ := List.mem_flatMap.1 hu
  exact E.one a u h
/-- v is a slice that reads as l -/
def SeqAt (w : World) (v : Value) (l : List α) : Prop :=
  (l = [] ∧ v = .slice none 0 0) ∨ ∃ g o c, v = .slice (some ⟨g, o, none⟩) l.length c ∧ l.length ≤ c ∧ c ≤ maxLen ∧ g < w.heap.size ∧ ∀ j (h : j < l.length) i, i < E.size → w.cell? ⟨g, o + j * E.size + i, none⟩ = (E.enc l[j])[i]?
/-- v is a slice of the call's own (nil, or from block base on), that reads as l -/
def OwnE (w : World) (base : Nat) (v : Value) (l : List α) : Prop := w.ownsRow base E.tE E.size v l.length (l.flatMap E.enc)
variable {E} {w w' : World} {v : Value} {l : List α} {bs : Nat}
theorem SeqAt.nil (E : Elem P α) (w : World) : SeqAt E w (.slice none 0 0) [] := .inl ⟨rfl, rfl⟩
theorem SeqAt.lt (h : SeqAt E w v l) : ∀ k, v.ownBlock = some k → k < w.heap.size := by
  intro k hk
  rcases h with ⟨_, rfl⟩ | ⟨g, o, c, rfl, _, _, hg, _⟩
  · cases hk
  · cases hk; exact hg
theorem SeqAt.only {S : Nat → Prop} (h : SeqAt E w v l) (ho : Only S w w') (hn : ∀ k, v.ownBlock = some k → ¬ S k) : SeqAt E w' v l := by
  rcases h with h | ⟨g, o, c, rfl, h1, h2, hg, hc⟩
  · exact .inl h
  · refine .inr ⟨g, o, c, rfl, h1, h2, Nat.lt_of_lt_of_le hg ho.size, fun j hj i hi => ?_⟩
    rw [← hc j hj i hi]
    exact World.cell?_of_block (ho.block g hg (hn g rfl))
theorem SeqAt.below (h : SeqAt E w v l) (hb : Below w.heap.size w w') : SeqAt E w' v l := h.only (S := fun _ => False) (Only.ofBelow hb) (fun _ _ h => h)
theorem SeqAt.form (h : SeqAt E w v l) : ∃ a c, v = .slice a l.length c ∧ l.length ≤ c ∧ c ≤ maxLen := by
  rcases h with ⟨rfl, rfl⟩ | ⟨g, o, c, rfl, h1, h2, _⟩
  · exact ⟨none, 0, rfl, Nat.le_refl _, Nat.zero_le _⟩
  · exact ⟨_, c, rfl, h1, h2⟩
theorem SeqAt.le (h : SeqAt E w v l) : l.length ≤ 9223372036854775807 := by
  obtain ⟨a, c, _, h1, h2⟩ := h.form
  unfold maxLen at h2; omega
theorem OwnE.nil (E : Elem P α) (w : World) (b0 : Nat) : OwnE E w b0 (.slice none 0 0) [] := ⟨by simp, .inl ⟨rfl, rfl⟩⟩
theorem OwnE.block (h : OwnE E w bs v l) : ∀ k, v.ownBlock = some k → bs ≤ k := by
  intro k hk
  rcases h.2 with ⟨rfl, _⟩ | ⟨g, cap, cur, rfl, hg, _⟩
  · cases hk
  · cases hk; exact hg
theorem OwnE.lt (h : OwnE E w bs v l) : ∀ k, v.ownBlock = some k → k < w.heap.size := by
  intro k hk
  rcases h.2 with ⟨rfl, _⟩ | ⟨g, cap, cur, rfl, hg, hh, _⟩
  · cases hk
  · cases hk; exact (Array.getElem?_eq_some_iff.1 hh).1
theorem OwnE.only {S : Nat → Prop} (h : OwnE E w bs v l) (ho : Only S w w') (hn : ∀ k, v.ownBlock = some k → ¬ S k) : OwnE E w' bs v l := by
  refine ⟨h.1, ?_⟩
  rcases h.2 with h2 | ⟨g, cap, cur, rfl, hg, hh, r⟩
  · exact .inl h2
  · exact .inr ⟨g, cap, cur, rfl, hg, ho.heap hh (hn g rfl), r⟩
theorem OwnE.below (h : OwnE E w bs v l) (hb : Below w.heap.size w w') : OwnE E w' bs v l := h.only (S := fun _ => False) (Only.ofBelow hb) (fun _ _ h => h)
theorem OwnE.base {b' : Nat} (h : OwnE E w bs v l) (hb : b' ≤ bs) : OwnE E w b' v l := by
  refine ⟨h.1, ?_⟩
  rcases h.2 with h2 | ⟨g, cap, cur, hv, hg, r⟩
  · exact .inl h2
  · exact .inr ⟨g, cap, cur, hv, by omega, r⟩
theorem OwnE.at (h : OwnE E w bs v l) : SeqAt E w v l := by
  rcases h.2 with ⟨rfl, h0⟩ | ⟨g, cap, cur, rfl, hg, hh, hn, hm, hs, ht⟩
  · exact .inl ⟨List.eq_nil_of_length_eq_zero h0, rfl⟩
  · refine .inr ⟨g, 0, cap, rfl, hn, hm, (Array.getElem?_eq_some_iff.1 hh).1, fun j hj i hi => ?_⟩
    rw [← E.at l j hj i hi, ← ht, List.getElem?_take]
    have hle : j * E.size + E.size ≤ l.length * E.size := by
      have := Nat.mul_le_mul_right E.size (show j + 1 ≤ l.length by omega)
      rw [Nat.add_mul] at this; omega
    rw [if_pos (by omega), Nat.zero_add]
    simp [World.cell?, hh]
theorem info_of (E : Elem P α) : ∃ i, P.info? E.tE = some i ∧ i.zero = some E.z ∧ i.size = E.size ∧ i.bytes = E.bytes := by
  have h := E.info
  cases e : P.info? E.tE with
  | none => rw [e] at h; cases h
  | some i => rw [e] at h; simp at h; exact ⟨i, rfl, h.1, h.2.1, h.2.2⟩
/-- append of one value that was just laid in a row of its own -/
theorem wpList_appE {ops : Array Oper} {rest : List Oper} {o : Oper} {act : Act} {w : World} {Q : Exit → Act → World → Prop} (E : Elem P α) (hgd : o.guard = none) (s x : Operand)
    (ho : o.op = .call { callee := .builtin .append, args := #[s, x], argTypes := #[E.tS, E.tS] })
    (W0 : World) (v : Value) (l : List α) (a : α) (c : Nat) (hown : OwnE E w W0.heap.size v l) (hs : act.eval s = v) (B : Nat) (hx : act.eval x = .slice (some ⟨B, 0, none⟩) 1 c) (hB : B = w.heap.size)
    (hlen : (l.length + 1) * E.bytes ≤ 140737488355328) (hbel : Below W0.heap.size W0 w) (hb1 : 1 ≤ E.bytes)
    (h : ∀ v' w', OwnE E w' W0.heap.size v' (l ++ [a]) → Below W0.heap.size W0 w' → Only (fun k => v.ownBlock = some k) w w' → (v'.ownBlock = v.ownBlock ∨ ∃ k, v'.ownBlock = some k ∧ w.heap.size ≤ k) → wpList P ops Q rest (act.put o.dst v') w') :
    wpList P ops Q (o :: rest) act (w.alloc (.cells (E.enc a).toArray E.tE)) := by
  subst hB
  obtain ⟨i0, hi, hz0, hz1, hz2⟩ := info_of E
  have hb2 : Below W0.heap.size W0 (w.alloc (.cells (E.enc a).toArray E.tE)) := allocB hbel _
  refine wpList_append_own_at _ hgd s x _ ho W0.heap.size E.tE i0 E.z E.size E.bytes E.und hi hz0 hz1 hz2 E.zs E.pos v l.length (l.flatMap E.enc) hs (hown.below ((Below.refl _ _).alloc (Nat.le_refl _) _)) ⟨w.heap.size, 0, none⟩ 1 c (E.enc a) hx (by rw [E.len, Nat.one_mul]) ?_ (E.one a) ?_ hlen hb2.size ?_
  · intro j u hu
    have hadd : (⟨w.heap.size, 0, none⟩ : Addr).add j = ⟨w.heap.size, j, none⟩ := by unfold Addr.add; split <;> simp_all
    rw [hadd, World.cell?_alloc_new]
    simpa using hu
  · have := Nat.le_mul_of_pos_right (l.length + 1) hb1
    simp only [maxLen]; omega
  · intro v' w' hown' hg _ hat
    refine h v' w' ?_ (hb2.grown hg hb2.size hown.block) ?_ (hat.imp id fun e => ⟨_, e, by simp⟩)
    · unfold OwnE
      rw [List.flatMap_append, List.length_append]
      simpa using hown'
    · refine (((Only.refl _ w).alloc (.cells (E.enc a).toArray E.tE)).and (T := fun k => v.ownBlock = some k) ⟨hg.os, hg.tape, hg.output, hg.size, fun k hk hn => hg.block k hk fun e => hn e.symm⟩ fun i hi => .inl hi)
/-- append of all of a slice -/
theorem wpList_appSeq {ops : Array Oper} {rest : List Oper} {o : Oper} {act : Act} {w : World} {Q : Exit → Act → World → Prop} (E : Elem P α) (hgd : o.guard = none) (s x : Operand)
    (ho : o.op = .call { callee := .builtin .append, args := #[s, x], argTypes := #[E.tS, E.tS] })
    (W0 : World) (v v2 : Value) (l l2 : List α) (hown : OwnE E w W0.heap.size v l) (hsrc : SeqAt E w v2 l2) (hs : act.eval s = v) (hx : act.eval x = v2)
    (hlen : (l.length + l2.length) * E.bytes ≤ 140737488355328) (hbel : Below W0.heap.size W0 w) (hb1 : 1 ≤ E.bytes)
    (h : ∀ v' w', OwnE E w' W0.heap.size v' (l ++ l2) → Below W0.heap.size W0 w' → Only (fun k => v.ownBlock = some k) w w' → (v'.ownBlock = v.ownBlock ∨ ∃ k, v'.ownBlock = some k ∧ w.heap.size ≤ k) → wpList P ops Q rest (act.put o.dst v') w') :
    wpList P ops Q (o :: rest) act w := by
  obtain ⟨i0, hi, hz0, hz1, hz2⟩ := info_of E
  rcases hsrc with ⟨rfl, rfl⟩ | ⟨g, o2, c, rfl, h1, h2, hg, hc⟩
  · exact wpList_append_own_none hgd s x _ ho W0.heap.size E.tE i0 E.size E.und hi v l.length (l.flatMap E.enc) hs hown hx (h v w (by rw [List.append_nil]; exact hown) hbel (Only.refl _ _) (.inl rfl))
  · refine wpList_append_own_at _ hgd s x _ ho W0.heap.size E.tE i0 E.z E.size E.bytes E.und hi hz0 hz1 hz2 E.zs E.pos v l.length (l.flatMap E.enc) hs hown ⟨g, o2, none⟩ l2.length c (l2.flatMap E.enc) hx (E.length l2) ?_ (E.one' l2) ?_ hlen hbel.size ?_
    · intro j u hu
      have hj : j < l2.length * E.size := by
        have := (List.getElem?_eq_some_iff.1 hu).1
        rw [E.length] at this; exact this
      have hdm := Nat.div_add_mod j E.size
      have hm := Nat.mod_lt j E.pos
      have hd : j / E.size < l2.length := Nat.div_lt_of_lt_mul (by rw [Nat.mul_comm]; exact hj)
      have hadd : (⟨g, o2, none⟩ : Addr).add j = ⟨g, o2 + j, none⟩ := by unfold Addr.add; split <;> simp_all
      have hjj : j = j / E.size * E.size + j % E.size := by rw [Nat.mul_comm]; omega
      have hcj := hc (j / E.size) hd (j % E.size) hm
      rw [← E.at l2 (j / E.size) hd (j % E.size) hm, ← hjj, hu, Nat.add_assoc, ← hjj] at hcj
      rw [hadd]; exact hcj
    · have := Nat.le_mul_of_pos_right (l.length + l2.length) hb1
      simp only [maxLen]; omega
    · intro v' w' hown' hg' _ hat
      refine h v' w' ?_ (hbel.grown hg' hbel.size hown.block) ?_ (hat.imp id fun e => ⟨_, e, Nat.le_refl _⟩)
      · unfold OwnE
        rw [List.flatMap_append, List.length_append]
        exact hown'
      · exact ⟨hg'.os, hg'.tape, hg'.output, hg'.size, fun k hk hn => hg'.block k hk fun e => hn e.symm⟩
end
/-- a region that draws: reads and quiet calls, then one operation that writes -/
theorem wp_stillTail {P : Program} {id : Nat} {Q : Exit → Act → World → Prop} {a : Act} {w : World} {l : List Oper} (n : Nat) (hm : P.follows .mixedOrders = true) (hB : Region.lexTailB .any l.toArray n = true)
    (h : wpStill P l.toArray w.drew (fun a' => wpList P l.toArray Q (l.drop n) a' w.drew) (l.take n) a) : (Code.region id l.toArray true).wp P Q a w :=
  wp_region_still_tail n hm hB h
/-- the same, nothing is written -/
theorem wp_stillAll {P : Program} {id : Nat} {Q : Exit → Act → World → Prop} {a : Act} {w : World} {l : List Oper} (hm : P.follows .mixedOrders = true) (hB : Region.lexB .any l.toArray = true)
    (h : wpStill P l.toArray w.drew (fun a' => Q .normal a' w.drew) l a) : (Code.region id l.toArray true).wp P Q a w :=
  wp_region_still_lit hm hB h
end Go.Proofs.YteigigepmoicaaaGreatDoor
