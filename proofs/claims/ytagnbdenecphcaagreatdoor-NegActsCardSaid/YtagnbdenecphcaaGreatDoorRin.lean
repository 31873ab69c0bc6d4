/- Options that came in: a row that reads, or an empty slice that may point anywhere. -/
import Derived.Test.YtagnbdenecphcaaGreatDoorMj
namespace Go.Proofs.YtagnbdenecphcaaGreatDoor
open Go.RowKit
set_option linter.unusedVariables false
set_option linter.unusedSimpArgs false
def OptsIn (w : World) (v : Value) (l : List OptM) : Prop := OptsAt w v l ∨ (l = [] ∧ ∃ a c, v = .slice a 0 c ∧ c ≤ maxLen ∧ (a = none → c = 0))
theorem OptsAt.ins {w : World} {v : Value} {l : List OptM} (h : OptsAt w v l) : OptsIn w v l := .inl h
theorem OptsIn.form {w : World} {v : Value} {l : List OptM} (h : OptsIn w v l) : ∃ a c, v = .slice a l.length c ∧ l.length ≤ c ∧ c ≤ maxLen := by
  rcases h with h | ⟨rfl, a, c, rfl, hc, _⟩
  · exact SeqAt.form h
  · exact ⟨a, c, rfl, Nat.zero_le _, hc⟩
theorem OptsIn.or {w : World} {v : Value} {l : List OptM} (h : OptsIn w v l) : (l = [] ∧ ∃ a c, v = .slice a 0 c ∧ c ≤ maxLen ∧ (a = none → c = 0)) ∨ ∃ g o c, v = .slice (some ⟨g, o, none⟩) l.length c ∧ OptsAt w v l := by
  rcases h with h | h
  · rcases OptsAt.or h with ⟨rfl, rfl⟩ | ⟨g, o, c, hv⟩
    · exact .inl ⟨rfl, none, 0, rfl, Nat.zero_le _, fun _ => rfl⟩
    · exact .inr ⟨g, o, c, hv, h⟩
  · exact .inl h
theorem OptsIn.at {w : World} {v : Value} {l : List OptM} (h : OptsIn w v l) (hne : l ≠ []) : OptsAt w v l := by
  rcases h with h | ⟨h, _⟩
  · exact h
  · exact absurd h hne
theorem OptsIn.le {w : World} {v : Value} {l : List OptM} (h : OptsIn w v l) : l.length ≤ 9223372036854775807 := by
  obtain ⟨a, c, _, h1, h2⟩ := h.form
  unfold maxLen at h2; omega
theorem OptsIn.nil (w : World) : OptsIn w (.slice none 0 0) [] := .inl (OptsAt.nil w)
theorem OptsIn.only {S : Nat → Prop} {w w' : World} {v : Value} {l : List OptM} (h : OptsIn w v l) (ho : Only S w w') (hn : l ≠ [] → ∀ k, v.ownBlock = some k → ¬ S k) : OptsIn w' v l := by
  by_cases hl : l = []
  · rcases h with h | h
    · subst hl
      rcases OptsAt.or h with ⟨_, rfl⟩ | ⟨g, o, c, rfl⟩
      · exact .inl (OptsAt.nil _)
      · exact .inr ⟨rfl, _, c, rfl, (OptsAt.cells h).2.2.1, fun e => by cases e⟩
    · exact .inr h
  · exact .inl (SeqAt.only (h.at hl) ho (hn hl))
theorem OptsIn.below {w w' : World} {v : Value} {l : List OptM} (h : OptsIn w v l) (hb : Below w.heap.size w w') : OptsIn w' v l := h.only (S := fun _ => False) (Only.ofBelow hb) (fun _ _ _ h => h)
/-- append of all options that came in -/
theorem wpList_appIn {ops : Array Oper} {rest : List Oper} {o : Oper} {act : Act} {w : World} {Q : Exit → Act → World → Prop} (hgd : o.guard = none) (s x : Operand)
    (ho : o.op = .call { callee := .builtin .append, args := #[s, x], argTypes := #[34, 34] })
    (W0 : World) (v v2 : Value) (l l2 : List OptM) (hown : OwnE optE w W0.heap.size v l) (hsrc : OptsIn w v2 l2) (hs : act.eval s = v) (hx : act.eval x = v2)
    (hlen : (l.length + l2.length) * 24 ≤ 140737488355328) (hbel : Below W0.heap.size W0 w)
    (h : ∀ v' w', OwnE optE w' W0.heap.size v' (l ++ l2) → Below W0.heap.size W0 w' → Only (fun k => v.ownBlock = some k) w w' → wpList Tryz.prog ops Q rest (act.put o.dst v') w') :
    wpList Tryz.prog ops Q (o :: rest) act w := by
  rcases hsrc with hsrc | ⟨rfl, a, c, rfl, hc⟩
  · exact wpList_appOs hgd s x ho W0 v v2 l l2 hown hsrc hs hx hlen hbel (fun v' w' h1 h2 h3 _ => h v' w' h1 h2 h3)
  · cases a with
    | none =>
      obtain rfl := hc.2 rfl
      exact wpList_appOs hgd s x ho W0 v _ l [] hown (OptsAt.nil _) hs hx hlen hbel (fun v' w' h1 h2 h3 _ => h v' w' h1 h2 h3)
    | some a =>
      obtain ⟨i0, hi, hz0, hz1, hz2⟩ := info_of optE
      refine wpList_append_own_at _ hgd s x _ ho W0.heap.size 70 i0 optE.z 2 24 optE.und hi hz0 hz1 hz2 optE.zs (by decide) v l.length (l.flatMap optE.enc) hs hown a 0 c [] hx rfl (fun j u hu => by simp at hu) (fun u hu => by simp at hu) ?_ hlen hbel.size ?_
      · simp only [maxLen]; simp at hlen; omega
      · intro v' w' hown' hg' _ hat
        refine h v' w' ?_ (hbel.grown hg' hbel.size hown.block) ?_
        · unfold OwnE
          rw [List.append_nil]
          simp only [List.append_nil, Nat.add_zero] at hown'
          exact hown'
        · exact ⟨hg'.os, hg'.tape, hg'.output, hg'.size, fun k hk hn => hg'.block k hk fun e => hn e.symm⟩
end Go.Proofs.YtagnbdenecphcaaGreatDoor
