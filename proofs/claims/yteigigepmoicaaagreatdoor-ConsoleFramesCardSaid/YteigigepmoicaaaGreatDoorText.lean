/- Slices of texts: read, appended; SameTexts. -/
import Derived.Test.YteigigepmoicaaaGreatDoorMg1
namespace Go.Proofs.YteigigepmoicaaaGreatDoor
open Go.RowKit
theorem infoStr : (Tryz.prog.info? 9).map (fun i => (i.zero, i.size, i.bytes)) = some (some (.string ByteArray.empty), 1, 16) := by kernel_rfl
/-- v is a slice of texts that reads as l -/
def TextsAt (w : World) (v : Value) (l : List ByteArray) : Prop :=
  (l = [] ∧ v = .slice none 0 0) ∨ ∃ g o c, v = .slice (some ⟨g, o, none⟩) l.length c ∧ ∀ j (h : j < l.length), w.cell? ⟨g, o + j, none⟩ = some (.string l[j])
theorem TextsAt.below {w w' : World} {v : Value} {l : List ByteArray} (h : TextsAt w v l) (hb : Below w.heap.size w w') : TextsAt w' v l := by
  rcases h with h | ⟨g, o, c, rfl, hc⟩
  · exact .inl h
  · refine .inr ⟨g, o, c, rfl, fun j hj => (hb.cell ?_).trans (hc j hj)⟩
    exact block_lt_of_cell (hc j hj)
/-- v is a slice of texts of the call's own (nil, or from block base on), that reads as l -/
def OwnT (w : World) (base : Nat) (v : Value) (l : List ByteArray) : Prop := w.ownsRow base 9 1 v l.length (l.map Value.string)
theorem OwnT.nil (w : World) (base : Nat) : OwnT w base (.slice none 0 0) [] := ⟨rfl, .inl ⟨rfl, rfl⟩⟩
theorem OwnT.block {w : World} {base : Nat} {v : Value} {l : List ByteArray} (h : OwnT w base v l) : ∀ k, v.ownBlock = some k → base ≤ k := by
  intro k hk
  rcases h.2 with ⟨rfl, _⟩ | ⟨g, cap, cur, rfl, hg, _⟩
  · cases hk
  · cases hk; exact hg
theorem OwnT.below {w w' : World} {base : Nat} {v : Value} {l : List ByteArray} (h : OwnT w base v l) (hb : Below w.heap.size w w') : OwnT w' base v l := by
  refine ⟨h.1, ?_⟩
  rcases h.2 with h2 | ⟨g, cap, cur, hv, hg, hh, r⟩
  · exact .inl h2
  · exact .inr ⟨g, cap, cur, hv, hg, (hb.block g (Array.getElem?_eq_some_iff.1 hh).1).trans hh, r⟩
theorem OwnT.form {w : World} {base : Nat} {v : Value} {l : List ByteArray} (h : OwnT w base v l) : ∃ a c, v = .slice a l.length c := by
  rcases h.2 with ⟨rfl, h0⟩ | ⟨g, cap, cur, rfl, _⟩
  · exact ⟨none, 0, by rw [h0]⟩
  · exact ⟨_, _, rfl⟩
theorem OwnT.at {w : World} {base : Nat} {v : Value} {l : List ByteArray} (h : OwnT w base v l) : TextsAt w v l := by
  rcases h.2 with ⟨rfl, h0⟩ | ⟨g, cap, cur, rfl, hg, hh, hn, hm, hs, ht⟩
  · exact .inl ⟨List.eq_nil_of_length_eq_zero h0, rfl⟩
  · refine .inr ⟨g, 0, cap, rfl, fun j hj => ?_⟩
    have e : cur[j]? = (l.map Value.string)[j]? := by
      rw [← ht, List.getElem?_take, if_pos (by omega)]; simp
    simp [World.cell?, hh, e, hj]
/-- append of one text that was just laid in a row of its own -/
theorem wpList_appT {ops : Array Oper} {rest : List Oper} {o : Oper} {a : Act} {w : World} {Q : Exit → Act → World → Prop} (hgd : o.guard = none) (s x : Operand)
    (ho : o.op = .call { callee := .builtin .append, args := #[s, x], argTypes := #[35, 35] })
    (W0 : World) (v : Value) (l : List ByteArray) (p : ByteArray) (c : Nat) (hown : OwnT w W0.heap.size v l) (hs : a.eval s = v) (hx : a.eval x = .slice (some ⟨w.heap.size, 0, none⟩) 1 c)
    (hlen : (l.length + 1) * 16 ≤ 140737488355328) (hbel : Below W0.heap.size W0 w)
    (h : ∀ v' w', OwnT w' W0.heap.size v' (l ++ [p]) → Below W0.heap.size W0 w' → wpList Tryz.prog ops Q rest (a.put o.dst v') w') :
    wpList Tryz.prog ops Q (o :: rest) a (w.alloc (.cells #[.string p] 9)) := by
  obtain ⟨i0, hi, hz0, hz1, hz2⟩ := info_parts infoStr
  have hb2 : Below W0.heap.size W0 (w.alloc (.cells #[.string p] 9)) := allocB hbel _
  refine wpList_append_own _ hgd s x _ ho W0.heap.size 9 i0 (.string ByteArray.empty) 1 16 Tryz.underlying35 hi hz0 hz1 hz2 rfl (by decide) v l.length (l.map Value.string) hs (hown.below ((Below.refl _ _).alloc (Nat.le_refl _) _)) ⟨w.heap.size, 0, none⟩ 1 c [.string p] hx rfl ?_ ?_ ?_ ?_ ?_ ?_
  · intro j u hu
    have hadd : (⟨w.heap.size, 0, none⟩ : Addr).add j = ⟨w.heap.size, j, none⟩ := by unfold Addr.add; split <;> simp_all
    rw [hadd, World.cell?_alloc_new]
    simpa using hu
  · intro u hu
    rw [List.mem_singleton] at hu
    subst hu; rfl
  · simp only [maxLen]; omega
  · exact hlen
  · exact hb2.size
  · intro v' w' hown' hg _
    refine h v' w' ?_ (hb2.grown hg hb2.size hown.block)
    unfold OwnT
    rw [List.map_append, List.length_append]
    exact hown'
end Go.Proofs.YteigigepmoicaaaGreatDoor
