/- Two sides by tokens: whatever comes first, both are open after a few packets. -/
import Derived.Test.YtagnbdenecphcaaDoorNegP3
namespace Go.Proofs.YtagnbdenecphcaaDoor
open Go.RowKit
set_option linter.unusedVariables false
set_option linter.unusedSimpArgs false
/-- two sides, what is under way to x, what is under way to y -/
structure SyG where
  x : SyN
  y : SyN
  tox : List SyP
  toy : List SyP
  deriving DecidableEq
def newS (tries : Int) : SyN := ⟨0, 0, tries, false, none, 0, -1, none⟩
theorem conc_new (l m : LinkM) (tries : Int) : concN l m (newS tries) = newM l tries := rfl
/-- a packet goes: to x (false), to y (true); to the other if none is under way there -/
def sideG (g : SyG) (k : Bool) : Bool := if k then !g.toy.isEmpty else g.tox.isEmpty
def stepG (ls ms : Bool) (g : SyG) (k : Bool) : Option SyG :=
  if sideG g k then
    match g.toy with
    | [] => none
    | p :: r => match takeS ms ls g.y p with
      | none => none
      | some (y, out) => some ⟨g.x, y, g.tox ++ out, r⟩
  else
    match g.tox with
    | [] => none
    | p :: r => match takeS ls ms g.x p with
      | none => none
      | some (x, out) => some ⟨x, g.y, r, g.toy ++ out⟩
def doneG (g : SyG) : Bool := g.tox.isEmpty && g.toy.isEmpty
def goodG (g : SyG) : Bool := decide (g.x.state = 9) && decide (g.y.state = 9) && decide (g.x.other = some g.y.cut) && decide (g.y.other = some g.x.cut)
/-- a side that was opened, and whose lower layer came up -/
def upS (tries : Int) : SyN := { newS tries with state := 6, left := tries - 1, id := 1, asked := 1, os := some false }
def initG (tries : Int) : SyG := ⟨upS tries, upS tries, [⟨1, 1, false⟩], [⟨1, 1, false⟩]⟩
def nub : List SyG → List SyG
  | [] => []
  | g :: l => if (nub l).contains g then nub l else g :: nub l
theorem mem_nub (g : SyG) : ∀ l : List SyG, g ∈ l → g ∈ nub l
  | [], h => h
  | a :: l, h => by
    unfold nub
    rcases List.mem_cons.1 h with rfl | h
    · split
      · rename_i hc; simpa using hc
      · exact List.mem_cons_self ..
    · have := mem_nub g l h
      split
      · exact this
      · exact List.mem_cons_of_mem _ this
def nextG (ls ms : Bool) (g : SyG) : List SyG := if doneG g then [] else (stepG ls ms g false).toList ++ (stepG ls ms g true).toList
def fewG (g : SyG) : Bool := decide (g.tox.length ≤ 8) && decide (g.toy.length ≤ 8)
def okG (ls ms : Bool) (g : SyG) : Bool := fewG g && if doneG g then goodG g else (stepG ls ms g false).isSome && (stepG ls ms g true).isSome
/-- the layers, one behind the other -/
def okFrom (ls ms : Bool) : Nat → List SyG → Bool
  | 0, l => l.isEmpty
  | n + 1, l => l.all (okG ls ms) && okFrom ls ms n (nub (l.flatMap (nextG ls ms)))
theorem okTwo : ([false, true].all fun ls => [false, true].all fun ms => okFrom ls ms 40 [initG 10]) = true := by decide +kernel
def iterG (ls ms : Bool) : Nat → List SyG → List SyG
  | 0, l => l
  | n + 1, l => iterG ls ms n (nub (l.flatMap (nextG ls ms)))
theorem iterG_succ (ls ms : Bool) : ∀ (n : Nat) (l : List SyG), iterG ls ms (n + 1) l = nub ((iterG ls ms n l).flatMap (nextG ls ms))
  | 0, l => rfl
  | n + 1, l => by
    rw [iterG, iterG_succ ls ms n]
    rfl
theorem okFrom_at (ls ms : Bool) : ∀ (N : Nat) (l : List SyG), okFrom ls ms N l = true → ∀ n g, g ∈ iterG ls ms n l → n < N ∧ okG ls ms g = true
  | 0, l, h, n, g, hg => by
    have : l = [] := by simpa [okFrom] using h
    subst this
    exfalso
    induction n with
    | zero => cases hg
    | succ n ih => exact ih hg
  | N + 1, l, h, n, g, hg => by
    simp only [okFrom, Bool.and_eq_true] at h
    cases n with
    | zero => exact ⟨Nat.succ_pos _, List.all_eq_true.1 h.1 g hg⟩
    | succ n =>
      have := okFrom_at ls ms N _ h.2 n g hg
      exact ⟨by omega, this.2⟩
/-- g may be there behind n packets -/
def AtG (ls ms : Bool) (tries : Int) (n : Nat) (g : SyG) : Prop := g ∈ iterG ls ms n [initG tries]
theorem atG_init (ls ms : Bool) (tries : Int) : AtG ls ms tries 0 (initG tries) := List.mem_singleton.2 rfl
theorem atG_step {ls ms : Bool} {tries : Int} {n : Nat} {g g' : SyG} {k : Bool} (h : AtG ls ms tries n g) (hd : doneG g = false) (hs : stepG ls ms g k = some g') : AtG ls ms tries (n + 1) g' := by
  unfold AtG at *
  rw [iterG_succ]
  refine mem_nub _ _ (List.mem_flatMap.2 ⟨g, h, ?_⟩)
  unfold nextG
  rw [if_neg (by rw [hd]; simp)]
  cases k
  · rw [hs]; simp
  · rw [hs]; simp
theorem two_ok (ls ms : Bool) {n : Nat} {g : SyG} (h : AtG ls ms 10 n g) : n < 40 ∧ okG ls ms g = true := by
  have := okTwo
  simp only [List.all_cons, List.all_nil, Bool.and_true, Bool.and_eq_true] at this
  obtain ⟨⟨h1, h2⟩, h3, h4⟩ := this
  cases ls <;> cases ms
  · exact okFrom_at _ _ _ _ h1 n g h
  · exact okFrom_at _ _ _ _ h2 n g h
  · exact okFrom_at _ _ _ _ h3 n g h
  · exact okFrom_at _ _ _ _ h4 n g h
theorem ok_step {ls ms : Bool} {g : SyG} (h : okG ls ms g = true) (hd : doneG g = false) (k : Bool) : ∃ g', stepG ls ms g k = some g' := by
  unfold okG at h
  rw [if_neg (by rw [hd]; simp), Bool.and_eq_true, Bool.and_eq_true] at h
  cases k
  · exact Option.isSome_iff_exists.1 h.2.1
  · exact Option.isSome_iff_exists.1 h.2.2
theorem ok_few {ls ms : Bool} {g : SyG} (h : okG ls ms g = true) : g.tox.length ≤ 8 ∧ g.toy.length ≤ 8 := by
  unfold okG fewG at h
  simp only [Bool.and_eq_true, decide_eq_true_eq] at h
  exact h.1
theorem ok_done {ls ms : Bool} {g : SyG} (h : okG ls ms g = true) (hd : doneG g = true) : g.x.state = 9 ∧ g.y.state = 9 ∧ g.x.other = some g.y.cut ∧ g.y.other = some g.x.cut := by
  unfold okG at h
  rw [if_pos hd] at h
  simp only [goodG, Bool.and_eq_true, decide_eq_true_eq] at h
  exact ⟨h.2.1.1.1, h.2.1.1.2, h.2.1.2, h.2.2⟩
theorem up_conc (l m : LinkM) (k : Int) : concN l m (upS k) = ⟨6, k - 1, k, l, linkZ, 1, 1, askM l⟩ := by simp [concN, upS, newS, lk]
/-! ### both at once: rounds -/
/-- all packets of a row, one behind the other -/
def takesS (ls ms : Bool) : SyN → List SyP → Option (SyN × List SyP)
  | s, [] => some (s, [])
  | s, p :: r => match takeS ls ms s p with
    | none => none
    | some (s', out) => match takesS ls ms s' r with
      | none => none
      | some (s2, out2) => some (s2, out ++ out2)
/-- a round: y takes what goes to y, x what goes to x -/
def roundG (ls ms : Bool) (g : SyG) : Option SyG :=
  match takesS ms ls g.y g.toy with
  | none => none
  | some (y, tox) => match takesS ls ms g.x g.tox with
    | none => none
    | some (x, toy) => some ⟨x, y, tox, toy⟩
/-- rounds until nothing is under way; no row ever longer than 8 -/
def roundsG (ls ms : Bool) : Nat → SyG → Option SyG
  | 0, _ => none
  | n + 1, g => if fewG g then (if doneG g then some g else match roundG ls ms g with
    | none => none
    | some g' => roundsG ls ms n g') else none
theorem rounds_few {ls ms : Bool} {n : Nat} {g f : SyG} (h : roundsG ls ms n g = some f) : g.tox.length ≤ 8 ∧ g.toy.length ≤ 8 := by
  cases n with
  | zero => cases h
  | succ n =>
    unfold roundsG at h
    split at h
    · rename_i hf
      unfold fewG at hf
      simpa using hf
    · cases h
theorem rounds_done {ls ms : Bool} {n : Nat} {g f : SyG} (h : roundsG ls ms n g = some f) (hd : doneG g = true) : f = g := by
  cases n with
  | zero => cases h
  | succ n =>
    unfold roundsG at h
    rw [if_pos hd] at h
    split at h
    · exact (Option.some.inj h).symm
    · cases h
theorem rounds_next {ls ms : Bool} {n : Nat} {g f : SyG} (h : roundsG ls ms n g = some f) (hd : doneG g = false) : ∃ m y tox x toy, n = m + 1 ∧ takesS ms ls g.y g.toy = some (y, tox) ∧ takesS ls ms g.x g.tox = some (x, toy) ∧ roundsG ls ms m ⟨x, y, tox, toy⟩ = some f := by
  cases n with
  | zero => cases h
  | succ n =>
    unfold roundsG at h
    rw [hd] at h
    split at h
    · rw [if_neg (by simp)] at h
      unfold roundG at h
      cases h1 : takesS ms ls g.y g.toy with
      | none => rw [h1] at h; cases h
      | some a =>
        rw [h1] at h
        obtain ⟨y, tox⟩ := a
        dsimp only at h
        cases h2 : takesS ls ms g.x g.tox with
        | none => rw [h2] at h; cases h
        | some b =>
          rw [h2] at h
          obtain ⟨x, toy⟩ := b
          exact ⟨n, y, tox, x, toy, rfl, rfl, rfl, h⟩
    · cases h
/-- the packets so far, and one more -/
theorem takesS_snoc (ls ms : Bool) : ∀ (l : List SyP) (s : SyN) (p : SyP), takesS ls ms s (l ++ [p]) = match takesS ls ms s l with
    | none => none
    | some (s', out) => match takeS ls ms s' p with
      | none => none
      | some (s2, out2) => some (s2, out ++ out2)
  | [], s, p => by
    simp only [List.nil_append, takesS]
    cases takeS ls ms s p with
    | none => rfl
    | some a => simp
  | q :: l, s, p => by
    simp only [List.cons_append, takesS]
    cases takeS ls ms s q with
    | none => rfl
    | some a =>
      obtain ⟨s1, out⟩ := a
      simp only [takesS_snoc ls ms l s1 p]
      cases takesS ls ms s1 l with
      | none => rfl
      | some b =>
        obtain ⟨s2, out2⟩ := b
        dsimp only
        cases takeS ls ms s2 p with
        | none => rfl
        | some c => simp
/-- a prefix goes where the whole goes; it sends no more -/
theorem takesS_prefix (ls ms : Bool) : ∀ (l : List SyP) (s s' : SyN) (out : List SyP), takesS ls ms s l = some (s', out) → ∀ k, ∃ s1 o1, takesS ls ms s (l.take k) = some (s1, o1) ∧ o1.length ≤ out.length
  | [], s, s', out, h, k => ⟨s, [], by simp [takesS], Nat.zero_le _⟩
  | p :: l, s, s', out, h, k => by
    cases k with
    | zero => exact ⟨s, [], by simp [takesS], Nat.zero_le _⟩
    | succ k =>
      simp only [takesS] at h
      cases h1 : takeS ls ms s p with
      | none => rw [h1] at h; cases h
      | some a =>
        obtain ⟨s1, o1⟩ := a
        rw [h1] at h
        dsimp only at h
        cases h2 : takesS ls ms s1 l with
        | none => rw [h2] at h; cases h
        | some b =>
          obtain ⟨s2, o2⟩ := b
          rw [h2] at h
          cases h
          obtain ⟨s3, o3, h3, hl⟩ := takesS_prefix ls ms l s1 _ _ h2 k
          refine ⟨s3, o1 ++ o3, ?_, by rw [List.length_append, List.length_append]; omega⟩
          simp only [List.take_succ_cons, takesS, h1, h3]
/-- two sides that were opened and met, tries 8 -/
def finG (ls ms : Bool) : SyG := (roundsG ls ms 20 (initG 8)).getD (initG 8)
theorem fin_all : ([false, true].all fun ls => [false, true].all fun ms => decide (roundsG ls ms 20 (initG 8) = some (finG ls ms)) && goodG (finG ls ms) && doneG (finG ls ms)) = true := by decide +kernel
theorem fin_rounds (ls ms : Bool) : roundsG ls ms 20 (initG 8) = some (finG ls ms) ∧ goodG (finG ls ms) = true ∧ doneG (finG ls ms) = true := by
  have := fin_all
  simp only [List.all_cons, List.all_nil, Bool.and_true, Bool.and_eq_true, decide_eq_true_eq] at this
  obtain ⟨⟨h1, h2⟩, h3, h4⟩ := this
  cases ls <;> cases ms
  · exact ⟨h1.1.1, h1.1.2, h1.2⟩
  · exact ⟨h2.1.1, h2.1.2, h2.2⟩
  · exact ⟨h3.1.1, h3.1.2, h3.2⟩
  · exact ⟨h4.1.1, h4.1.2, h4.2⟩
end Go.Proofs.YtagnbdenecphcaaDoor
