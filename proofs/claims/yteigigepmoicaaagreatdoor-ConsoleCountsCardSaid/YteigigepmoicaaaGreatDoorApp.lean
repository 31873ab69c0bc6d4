/- Slices of bytes that a call makes by appending. -/
import Derived.Test.YteigigepmoicaaaGreatDoorRows
import Derived.Test.YteigigepmoicaaaGreatDoorMg1
import Derived.Lib.UnsafeStr
namespace Go.Proofs.YteigigepmoicaaaGreatDoor
open Go.RowKit
theorem infoU8 : (Tryz.prog.info? 5).map (fun i => (i.zero, i.size, i.bytes)) = some (some (.int .u8 0), 1, 1) := by kernel_rfl
/-- v is a slice of bytes of the call's own (nil, or from block base on), that reads as l -/
def Own (w : World) (base : Nat) (v : Value) (l : List UInt8) : Prop := w.ownsRow base 5 1 v l.length (Lib.byteCells l)
theorem Own.nil (w : World) (base : Nat) : Own w base (.slice none 0 0) [] := ⟨rfl, .inl ⟨rfl, rfl⟩⟩
theorem Own.block {w : World} {base : Nat} {v : Value} {l : List UInt8} (h : Own w base v l) : ∀ k, v.ownBlock = some k → base ≤ k := by
  intro k hk
  rcases h.2 with ⟨rfl, _⟩ | ⟨g, cap, cur, rfl, hg, _⟩
  · cases hk
  · cases hk; exact hg
theorem Own.below {w w' : World} {base : Nat} {v : Value} {l : List UInt8} (h : Own w base v l) (hb : Below w.heap.size w w') : Own w' base v l := by
  refine ⟨h.1, ?_⟩
  rcases h.2 with h2 | ⟨g, cap, cur, hv, hg, hh, r⟩
  · exact .inl h2
  · exact .inr ⟨g, cap, cur, hv, hg, (hb.block g (Array.getElem?_eq_some_iff.1 hh).1).trans hh, r⟩
theorem Own.form {w : World} {base : Nat} {v : Value} {l : List UInt8} (h : Own w base v l) : ∃ a c, v = .slice a l.length c := by
  rcases h.2 with ⟨rfl, h0⟩ | ⟨g, cap, cur, rfl, _⟩
  · exact ⟨none, 0, by rw [h0]⟩
  · exact ⟨_, _, rfl⟩
theorem Own.conv {w : World} {base : Nat} {v : Value} {l : List UInt8} (h : Own w base v l) : (convert 27 9 v).run Tryz.prog w = .ok (.string (bytesOf l)) w := by
  rcases h.2 with ⟨rfl, h0⟩ | ⟨g, cap, cur, rfl, hg, hh, hn, hm, hs, ht⟩
  · have : l = [] := List.eq_nil_of_length_eq_zero h0
    subst this
    exact run_convert_bytes_nil w _ _ Tryz.underlying27 Tryz.underlying5 0 0 _ Tryz.underlying9
  · refine run_convert_bytes_back w _ _ _ ⟨g, 0, none⟩ cap l Tryz.underlying27 Tryz.underlying5 Tryz.underlying9 fun j hj => ?_
    have hadd : (⟨g, 0, none⟩ : Addr).add j = ⟨g, j, none⟩ := by unfold Addr.add; split <;> simp_all
    rw [hadd]
    have e : cur[j]? = (Lib.byteCells l)[j]? := by
      rw [← ht, List.getElem?_take, if_pos (by omega)]; simp
    simp [World.cell?, hh, e, Lib.byteCells, hj]
/-- append of bytes that were just laid in a row of their own -/
theorem wpList_app {ops : Array Oper} {rest : List Oper} {o : Oper} {a : Act} {w : World} {Q : Exit → Act → World → Prop} (hgd : o.guard = none) (s x : Operand)
    (ho : o.op = .call { callee := .builtin .append, args := #[s, x], argTypes := #[27, 27] })
    (W0 : World) (v : Value) (l news : List UInt8) (n c : Nat) (cells : Array Value) (hown : Own w W0.heap.size v l) (hs : a.eval s = v) (hx : a.eval x = .slice (some ⟨w.heap.size, 0, none⟩) n c)
    (hc : cells = (Lib.byteCells news).toArray) (hn : n = news.length) (hlen : l.length + news.length ≤ 140737488355328) (hbel : Below W0.heap.size W0 w)
    (h : ∀ v' w', Own w' W0.heap.size v' (l ++ news) → Below W0.heap.size W0 w' → wpList Tryz.prog ops Q rest (a.put o.dst v') w') :
    wpList Tryz.prog ops Q (o :: rest) a (w.alloc (.cells cells 5)) := by
  subst hc; subst hn
  obtain ⟨i0, hi, hz0, hz1, hz2⟩ := info_parts infoU8
  have hb2 : Below W0.heap.size W0 (w.alloc (.cells (Lib.byteCells news).toArray 5)) := allocB hbel _
  refine wpList_append_own _ hgd s x _ ho W0.heap.size 5 i0 (.int .u8 0) 1 1 Tryz.underlying27 hi hz0 hz1 hz2 rfl (by decide) v l.length (Lib.byteCells l) hs (hown.below ((Below.refl _ _).alloc (Nat.le_refl _) _)) ⟨w.heap.size, 0, none⟩ news.length c (Lib.byteCells news) hx (by rw [Lib.byteCells_length, Nat.mul_one]) ?_ ?_ ?_ ?_ ?_ ?_
  · intro j u hu
    have hadd : (⟨w.heap.size, 0, none⟩ : Addr).add j = ⟨w.heap.size, j, none⟩ := by unfold Addr.add; split <;> simp_all
    rw [hadd, World.cell?_alloc_new]
    simpa using hu
  · intro u hu
    obtain ⟨b, _, rfl⟩ := List.mem_map.1 hu
    rfl
  · simp only [maxLen]; omega
  · omega
  · exact hb2.size
  · intro v' w' hown' hg _
    refine h v' w' ?_ (hb2.grown hg hb2.size hown.block)
    have e : Lib.byteCells (l ++ news) = Lib.byteCells l ++ Lib.byteCells news := by simp [Lib.byteCells]
    unfold Own
    rw [e, List.length_append]
    exact hown'
end Go.Proofs.YteigigepmoicaaaGreatDoor
