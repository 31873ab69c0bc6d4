/- Slices of ints: read, appended; SameInts. -/
import Derived.Test.YteigigepmoicaaaGreatDoorText
namespace Go.Proofs.YteigigepmoicaaaGreatDoor
open Go.RowKit
theorem infoInt : (Tryz.prog.info? 3).map (fun i => (i.zero, i.size, i.bytes)) = some (some (.int .i64 0), 1, 8) := by kernel_rfl
/-- v is a slice of ints that reads as l -/
def IntsAt (w : World) (v : Value) (l : List Int) : Prop :=
  (l = [] ∧ v = .slice none 0 0) ∨ ∃ g o c, v = .slice (some ⟨g, o, none⟩) l.length c ∧ ∀ j (h : j < l.length), w.cell? ⟨g, o + j, none⟩ = some (.int .i64 l[j])
theorem IntsAt.below {w w' : World} {v : Value} {l : List Int} (h : IntsAt w v l) (hb : Below w.heap.size w w') : IntsAt w' v l := by
  rcases h with h | ⟨g, o, c, rfl, hc⟩
  · exact .inl h
  · refine .inr ⟨g, o, c, rfl, fun j hj => (hb.cell ?_).trans (hc j hj)⟩
    exact block_lt_of_cell (hc j hj)
/-- v is a slice of ints of the call's own (nil, or from block base on), that reads as l -/
def OwnI (w : World) (base : Nat) (v : Value) (l : List Int) : Prop := w.ownsRow base 3 1 v l.length (l.map (Value.int .i64))
theorem OwnI.nil (w : World) (base : Nat) : OwnI w base (.slice none 0 0) [] := ⟨rfl, .inl ⟨rfl, rfl⟩⟩
theorem OwnI.block {w : World} {base : Nat} {v : Value} {l : List Int} (h : OwnI w base v l) : ∀ k, v.ownBlock = some k → base ≤ k := by
  intro k hk
  rcases h.2 with ⟨rfl, _⟩ | ⟨g, cap, cur, rfl, hg, _⟩
  · cases hk
  · cases hk; exact hg
theorem OwnI.below {w w' : World} {base : Nat} {v : Value} {l : List Int} (h : OwnI w base v l) (hb : Below w.heap.size w w') : OwnI w' base v l := by
  refine ⟨h.1, ?_⟩
  rcases h.2 with h2 | ⟨g, cap, cur, hv, hg, hh, r⟩
  · exact .inl h2
  · exact .inr ⟨g, cap, cur, hv, hg, (hb.block g (Array.getElem?_eq_some_iff.1 hh).1).trans hh, r⟩
theorem OwnI.base {w : World} {base b' : Nat} {v : Value} {l : List Int} (h : OwnI w base v l) (hb : b' ≤ base) : OwnI w b' v l := by
  refine ⟨h.1, ?_⟩
  rcases h.2 with h2 | ⟨g, cap, cur, hv, hg, hh, r⟩
  · exact .inl h2
  · exact .inr ⟨g, cap, cur, hv, by omega, hh, r⟩
theorem OwnI.form {w : World} {base : Nat} {v : Value} {l : List Int} (h : OwnI w base v l) : ∃ a c, v = .slice a l.length c := by
  rcases h.2 with ⟨rfl, h0⟩ | ⟨g, cap, cur, rfl, _⟩
  · exact ⟨none, 0, by rw [h0]⟩
  · exact ⟨_, _, rfl⟩
theorem OwnI.at {w : World} {base : Nat} {v : Value} {l : List Int} (h : OwnI w base v l) : IntsAt w v l := by
  rcases h.2 with ⟨rfl, h0⟩ | ⟨g, cap, cur, rfl, hg, hh, hn, hm, hs, ht⟩
  · exact .inl ⟨List.eq_nil_of_length_eq_zero h0, rfl⟩
  · refine .inr ⟨g, 0, cap, rfl, fun j hj => ?_⟩
    have e : cur[j]? = (l.map (Value.int .i64))[j]? := by
      rw [← ht, List.getElem?_take, if_pos (by omega)]; simp
    simp [World.cell?, hh, e, hj]
/-- append of one int that was just laid in a row of its own -/
theorem wpList_appI {ops : Array Oper} {rest : List Oper} {o : Oper} {a : Act} {w : World} {Q : Exit → Act → World → Prop} (hgd : o.guard = none) (s x : Operand)
    (ho : o.op = .call { callee := .builtin .append, args := #[s, x], argTypes := #[39, 39] })
    (W0 : World) (v : Value) (l : List Int) (p : Int) (c : Nat) (hown : OwnI w W0.heap.size v l) (hs : a.eval s = v) (hx : a.eval x = .slice (some ⟨w.heap.size, 0, none⟩) 1 c)
    (hlen : (l.length + 1) * 8 ≤ 140737488355328) (hbel : Below W0.heap.size W0 w)
    (h : ∀ v' w', OwnI w' W0.heap.size v' (l ++ [p]) → Below W0.heap.size W0 w' → wpList Tryz.prog ops Q rest (a.put o.dst v') w') :
    wpList Tryz.prog ops Q (o :: rest) a (w.alloc (.cells #[.int .i64 p] 3)) := by
  obtain ⟨i0, hi, hz0, hz1, hz2⟩ := info_parts infoInt
  have hb2 : Below W0.heap.size W0 (w.alloc (.cells #[.int .i64 p] 3)) := allocB hbel _
  refine wpList_append_own _ hgd s x _ ho W0.heap.size 3 i0 (.int .i64 0) 1 8 Tryz.underlying39 hi hz0 hz1 hz2 rfl (by decide) v l.length (l.map (Value.int .i64)) hs (hown.below ((Below.refl _ _).alloc (Nat.le_refl _) _)) ⟨w.heap.size, 0, none⟩ 1 c [.int .i64 p] hx rfl ?_ ?_ ?_ ?_ ?_ ?_
  · intro j u hu
    have hadd : (⟨w.heap.size, 0, none⟩ : Addr).add j = ⟨w.heap.size, j, none⟩ := by unfold Addr.add; split <;> simp_all
    rw [hadd, World.cell?_alloc_new]
    simpa using hu
  · intro u hu
    rw [List.mem_singleton] at hu
    subst hu; rfl
  · simp only [maxLen]; omega
  · exact hlen
  · exact hb2.size
  · intro v' w' hown' hg _
    refine h v' w' ?_ (hb2.grown hg hb2.size hown.block)
    unfold OwnI
    rw [List.map_append, List.length_append]
    exact hown'
/-- append of one int that was just laid in a row of its own -/
theorem wpList_appI2 {ops : Array Oper} {rest : List Oper} {o : Oper} {a : Act} {w : World} {Q : Exit → Act → World → Prop} (hgd : o.guard = none) (s x : Operand)
    (ho : o.op = .call { callee := .builtin .append, args := #[s, x], argTypes := #[39, 39] })
    (W0 : World) (v : Value) (l : List Int) (p : Int) (c : Nat) (hown : OwnI w W0.heap.size v l) (hs : a.eval s = v) (hx : a.eval x = .slice (some ⟨w.heap.size, 0, none⟩) 1 c)
    (hlen : (l.length + 1) * 8 ≤ 140737488355328) (hbel : Below W0.heap.size W0 w)
    (h : ∀ v' w', OwnI w' W0.heap.size v' (l ++ [p]) → Below W0.heap.size W0 w' → (∀ (k : Nat) (cs : Array Value) (t : TypeId) (fz : Nat × Nat), w.heap[k]? = some (Obj.cells cs t fz) → t ≠ 3 → w'.heap[k]? = w.heap[k]?) → wpList Tryz.prog ops Q rest (a.put o.dst v') w') :
    wpList Tryz.prog ops Q (o :: rest) a (w.alloc (.cells #[.int .i64 p] 3)) := by
  obtain ⟨i0, hi, hz0, hz1, hz2⟩ := info_parts infoInt
  have hb2 : Below W0.heap.size W0 (w.alloc (.cells #[.int .i64 p] 3)) := allocB hbel _
  refine wpList_append_own _ hgd s x _ ho W0.heap.size 3 i0 (.int .i64 0) 1 8 Tryz.underlying39 hi hz0 hz1 hz2 rfl (by decide) v l.length (l.map (Value.int .i64)) hs (hown.below ((Below.refl _ _).alloc (Nat.le_refl _) _)) ⟨w.heap.size, 0, none⟩ 1 c [.int .i64 p] hx rfl ?_ ?_ ?_ ?_ ?_ ?_
  · intro j u hu
    have hadd : (⟨w.heap.size, 0, none⟩ : Addr).add j = ⟨w.heap.size, j, none⟩ := by unfold Addr.add; split <;> simp_all
    rw [hadd, World.cell?_alloc_new]
    simpa using hu
  · intro u hu
    rw [List.mem_singleton] at hu
    subst hu; rfl
  · simp only [maxLen]; omega
  · exact hlen
  · exact hb2.size
  · intro v' w' hown' hg _
    refine h v' w' ?_ (hb2.grown hg hb2.size hown.block) ?_
    · unfold OwnI
      rw [List.map_append, List.length_append]
      exact hown'
    · intro k cs t fz hk ht
      have hlt : k < w.heap.size := (Array.getElem?_eq_some_iff.1 hk).1
      rw [hg.block k (by simp; omega) ?_]
      · exact Below.block (Below.alloc (Below.refl w.heap.size w) (Nat.le_refl _) (.cells #[.int .i64 p] 3)) k hlt
      · intro e
        rcases hown.2 with ⟨rfl, _⟩ | ⟨g, cap, cur, rfl, hb, hh, _⟩
        · cases e
        · cases e
          rw [hh] at hk
          cases hk
          exact ht rfl
end Go.Proofs.YteigigepmoicaaaGreatDoor
