/- Appending behind []byte(s): a row whose mark of frozen cells lies behind its capacity. -/
import Derived.Test.YteigigepmoicaaaGreatDoorMg1
namespace Go.Proofs.YteigigepmoicaaaGreatDoor
open Go.RowKit
set_option linter.unusedVariables false
set_option linter.unusedSimpArgs false
def FreeFz (fz : Nat × Nat) (cap : Nat) : Prop := fz.2 = 0 ∨ cap ≤ fz.1
/-- v is a slice of bytes of the call's own, of which nothing that it has room for is frozen -/
def OwnC (w : World) (base : Nat) (v : Value) (l : List UInt8) : Prop :=
  ∃ g cap cur fz, v = .slice (some ⟨g, 0, none⟩) l.length cap ∧ base ≤ g ∧ w.heap[g]? = some (.cells cur 5 fz) ∧ FreeFz fz cap ∧ l.length ≤ cap ∧ cap ≤ maxLen ∧ cur.size = cap ∧ cur.toList.take l.length = Lib.byteCells l
theorem OwnC.form {w : World} {base : Nat} {v : Value} {l : List UInt8} (h : OwnC w base v l) : ∃ g c, v = .slice (some ⟨g, 0, none⟩) l.length c ∧ l.length ≤ c ∧ c ≤ maxLen := by
  obtain ⟨g, cap, cur, fz, rfl, h1, h2, h3, h4, h5, _⟩ := h
  exact ⟨g, cap, rfl, h4, h5⟩
theorem OwnC.below {w w' : World} {base : Nat} {v : Value} {l : List UInt8} (h : OwnC w base v l) (hb : Below w.heap.size w w') : OwnC w' base v l := by
  obtain ⟨g, cap, cur, fz, hv, h1, h2, r⟩ := h
  exact ⟨g, cap, cur, fz, hv, h1, (hb.block g (Array.getElem?_eq_some_iff.1 h2).1).trans h2, r⟩
theorem OwnC.cells {w : World} {base g n c : Nat} {l : List UInt8} (h : OwnC w base (.slice (some ⟨g, 0, none⟩) n c) l) : ∀ j, j < l.length → w.cell? ⟨g, j, none⟩ = some (.int .u8 ((l.getD j 0).toNat : Int)) := by
  intro j hj
  obtain ⟨g', cap, cur, fz, hv, h1, h2, h3, h4, h5, h6, h7⟩ := h
  cases hv
  have e : cur[j]? = (Lib.byteCells l)[j]? := by
    rw [← h7, List.getElem?_take, if_pos hj]; simp
  simp [World.cell?, h2, e, Lib.byteCells, hj]
theorem OwnC.conv (w : World) (s : ByteArray) (base : Nat) (hb : base ≤ w.heap.size) (hs : s.size ≤ 1000000) (W : World) :
    OwnC (w.alloc (.cells (bytesRow s (grownCap W s.size 0 5)) 5 ((bytesRow s (grownCap W s.size 0 5)).size, (bytesRow s (grownCap W s.size 0 5)).size + 1))) base (.slice (some ⟨w.heap.size, 0, none⟩) s.size (grownCap W s.size 0 5)) s.data.toList := by
  have h1 := grownCap_le W s.size 5
  have h2 := grownCap_le_maxLen W s.size 0 5 (by unfold maxLen; omega)
  have hsz : (bytesRow s (grownCap W s.size 0 5)).size = grownCap W s.size 0 5 := by
    unfold bytesRow
    rw [Array.size_append, Array.size_map, Array.size_replicate]
    show s.size + _ = _
    omega
  refine ⟨w.heap.size, _, _, _, by rw [len_toList], hb, heap_alloc_last _ _, .inr (by rw [hsz]; exact Nat.le_refl _), by rw [len_toList]; exact h1, h2, hsz, ?_⟩
  unfold bytesRow
  rw [Array.toList_append, List.take_append_of_le_length (by simp), List.take_of_length_le (by simp)]
  simp [Lib.byteCells]
theorem run_storeCells_free (P : Program) (g o : Nat) (t : TypeId) (fz : Nat × Nat) : ∀ (vs : List Value) (i : Nat) (cur : Array Value) (w : World), w.heap[g]? = some (.cells cur t fz) → FreeFz fz cur.size → o + i + vs.length ≤ cur.size → (∀ v ∈ vs, v.oneCell' = true) →
    (storeCells ⟨g, o, none⟩ vs i).run P w = .ok () (w.setRow g (cur.toList.take (o + i) ++ vs ++ cur.toList.drop (o + i + vs.length)).toArray)
  | [], i, cur, w, hg, _, _, _ => by
    simp only [storeCells, List.append_nil, List.length_nil, Nat.add_zero, List.take_append_drop, Array.toArray_toList]
    rw [setRow_self w g cur t fz hg]
    rfl
  | v :: rest, i, cur, w, hg, hfz, hl, h1 => by
    have hi : o + i < cur.size := by simp at hl; omega
    have hadd : (⟨g, o, none⟩ : Addr).add i = ⟨g, o + i, none⟩ := by unfold Addr.add; split <;> simp_all
    have hcell : w.cell? ⟨g, o + i, none⟩ = some cur[o + i] := by simp [World.cell?, hg, hi]
    have hfro : w.frozen? ⟨g, o + i, none⟩ = false := by
      obtain ⟨lo, hi'⟩ := fz
      simp only [World.frozen?, hg, Bool.and_eq_false_iff, decide_eq_false_iff_not]
      rcases hfz with h | h
      · right; simp only at h; omega
      · left; simp only at h; omega
    have hst : (store ((⟨g, o, none⟩ : Addr).add i) v).run P w = .ok () (w.setRow g (cur.setIfInBounds (o + i) v)) := by
      rw [hadd, run_store P w _ v _ (h1 v (by simp)), hcell]
      simp [hfro, setCell_eq_setRow w g (o + i) cur t fz v hg]
    have ih := run_storeCells_free P g o t fz rest (i + 1) (cur.setIfInBounds (o + i) v) (w.setRow g (cur.setIfInBounds (o + i) v)) (setRow_heap w g cur _ t _ hg) (by rw [Array.size_setIfInBounds]; exact hfz) (by simp at hl ⊢; omega) (fun x hx => h1 x (by simp [hx]))
    simp only [storeCells, Sem.run_bind, hst, Result.andThen_ok, ih, setRow_setRow]
    congr 3
    have e := list_seg_step cur.toList (o + i) v rest (by simp at hl ⊢; omega)
    simpa [Array.toList_setIfInBounds, Nat.add_assoc] using e
theorem run_append_roomC (P : Program) (w : World) (t ty e : TypeId) (i : TypeInfo) (ht : P.underlying t = some (.slice e)) (hi : P.info? e = some i) (hs1 : i.size = 1)
    (g sLen sCap : Nat) (cur : Array Value) (fz : Nat × Nat) (hg : w.heap[g]? = some (.cells cur e fz)) (hfz : FreeFz fz cur.size)
    (a : Addr) (m c : Nat) (news : List Value) (hl : news.length = m) (hnews : ∀ j u, news[j]? = some u → w.cell? (a.add j) = some u) (h1 : ∀ u ∈ news, u.oneCell' = true)
    (hroom : sLen + m ≤ sCap) (hfit : sLen + news.length ≤ cur.size) :
    (Builtin.append_ #[t, t] ty #[.slice (some ⟨g, 0, none⟩) sLen sCap, .slice (some a) m c]).run P w =
      .ok (.slice (some ⟨g, 0, none⟩) (sLen + m) sCap) (w.setRow g (cur.toList.take sLen ++ news ++ cur.toList.drop (sLen + news.length)).toArray) := by
  have hf := run_firstCells_some (P := P) w 1 m a m c news (by omega) hnews
  have hst := run_storeCells_free P g sLen e fz news 0 cur w hg hfz (by simpa using hfit) h1
  simp only [Nat.add_zero] at hst
  simp [Builtin.append_, run_underlying ht, sizeOf, typeInfo, hi, hs1, Builtin.lenOf, hroom, hf, Addr.add_lit, hst]
theorem wpList_appC {ops : Array Oper} {rest : List Oper} {o : Oper} {a : Act} {w : World} {Q : Exit → Act → World → Prop} (hgd : o.guard = none) (s x : Operand)
    (ho : o.op = .call { callee := .builtin .append, args := #[s, x], argTypes := #[27, 27] })
    (W0 : World) (v : Value) (l news : List UInt8) (n c : Nat) (cells : Array Value) (hown : OwnC w W0.heap.size v l) (hs : a.eval s = v) (hx : a.eval x = .slice (some ⟨w.heap.size, 0, none⟩) n c)
    (hc : cells = (Lib.byteCells news).toArray) (hn : n = news.length) (hpos : 0 < news.length) (hlen : l.length + news.length ≤ 140737488355328) (hbel : Below W0.heap.size W0 w)
    (h : ∀ v' w', OwnC w' W0.heap.size v' (l ++ news) → Below W0.heap.size W0 w' → wpList Tryz.prog ops Q rest (a.put o.dst v') w') :
    wpList Tryz.prog ops Q (o :: rest) a (w.alloc (.cells cells 5)) := by
  subst hc; subst hn
  obtain ⟨i0, hi, hz0, hz1, hz2⟩ := info_parts infoU8
  have hb2 : Below W0.heap.size W0 (w.alloc (.cells (Lib.byteCells news).toArray 5)) := allocB hbel _
  obtain ⟨V, hV⟩ : ∃ V, w.alloc (.cells (Lib.byteCells news).toArray 5) = V := ⟨_, rfl⟩
  have hown2 : OwnC V W0.heap.size v l := by rw [← hV]; exact hown.below ((Below.refl _ _).alloc (Nat.le_refl _) _)
  have hnews : ∀ j u, (Lib.byteCells news)[j]? = some u → V.cell? ((⟨w.heap.size, 0, none⟩ : Addr).add j) = some u := by
    intro j u hu
    have hadd : (⟨w.heap.size, 0, none⟩ : Addr).add j = ⟨w.heap.size, j, none⟩ := by unfold Addr.add; split <;> simp_all
    rw [hadd, ← hV, World.cell?_alloc_new]
    simpa using hu
  have h1 : ∀ u ∈ Lib.byteCells news, u.oneCell' = true := by
    intro u hu
    obtain ⟨b, _, rfl⟩ := List.mem_map.1 hu
    rfl
  have hml : (Lib.byteCells news).length = news.length := Lib.byteCells_length news
  rw [hV] at hb2 ⊢
  clear hV
  refine wpList_plain hgd fun _ hK => ?_
  unfold Oper.wp execOp
  obtain ⟨g, cap, cur, fz, rfl, hbg, hg, hfz, hnc, hcm, hcs, htk⟩ := hown2
  by_cases hroom : l.length + news.length ≤ cap
  · have hr := run_append_roomC Tryz.prog V 27 o.type 5 i0 Tryz.underlying27 hi hz1 g l.length cap cur fz hg (by rw [hcs]; exact hfz) ⟨w.heap.size, 0, none⟩ news.length c (Lib.byteCells news) hml hnews h1 hroom (by rw [hml, hcs]; exact hroom)
    simp only [ho, resolve, invoke, builtin, Sem.run_bind, Sem.run_pure, Result.andThen_ok, List.map_toArray, List.map_cons, List.map_nil, hs, hx, hr]
    refine hK _ _ (h _ _ ⟨g, cap, _, fz, by rw [List.length_append], hbg, setRow_heap V g cur _ _ _ hg, hfz, by rw [List.length_append]; exact hroom, hcm, ?_, ?_⟩ (below_setRow hb2 g _ hbg))
    · simp only [List.size_toArray, List.length_append, List.length_take, List.length_drop, Array.length_toList, hml]
      omega
    · rw [htk]
      have e : Lib.byteCells (l ++ news) = Lib.byteCells l ++ Lib.byteCells news := by simp [Lib.byteCells]
      have e2 : (l ++ news).length = (Lib.byteCells l ++ Lib.byteCells news).length := by simp [Lib.byteCells]
      rw [e, e2]
      exact List.take_left
  · have holds : ∀ j u, (Lib.byteCells l)[j]? = some u → V.cell? ((⟨g, 0, none⟩ : Addr).add j) = some u := by
      intro j u hu
      have hadd : (⟨g, 0, none⟩ : Addr).add j = ⟨g, j, none⟩ := by unfold Addr.add; split <;> simp_all
      rw [hadd]
      have e : cur[j]? = (Lib.byteCells l)[j]? := by
        rw [← htk, List.getElem?_take]
        have : j < l.length := by have := (List.getElem?_eq_some_iff.1 hu).1; rwa [Lib.byteCells_length] at this
        rw [if_pos this]; simp
      simp [World.cell?, hg, e, hu]
    have hge := grownCap_ge V (l.length + news.length) cap 5
    have hcm2 := grownCap_le_maxLen V (l.length + news.length) cap 5 (by unfold maxLen; omega)
    have hr := run_append_grow (P := Tryz.prog) V 27 o.type 5 i0 (.int .u8 0) Tryz.underlying27 hi hz0 ⟨g, 0, none⟩ l.length cap (Lib.byteCells l) (by rw [Lib.byteCells_length, hz1, Nat.mul_one]) holds ⟨w.heap.size, 0, none⟩ news.length c (Lib.byteCells news) (by rw [hml, hz1, Nat.mul_one]) hnews (by omega) (by omega) (growslice_fits (by omega) (by rw [hz2]; omega))
    simp only [ho, resolve, invoke, builtin, Sem.run_bind, Sem.run_pure, Result.andThen_ok, List.map_toArray, List.map_cons, List.map_nil, hs, hx, hr]
    refine hK _ _ (h _ _ ⟨V.heap.size, _, _, (0, 0), by rw [List.length_append], hb2.size, heap_alloc_new V.drew _, .inl rfl, by rw [List.length_append]; exact hge, hcm2, ?_, ?_⟩ (hb2.drew.alloc hb2.size _))
    · simp only [Array.size_append, List.size_toArray, size_zeroCells, Lib.byteCells_length]
      rw [show (Value.int IntKind.u8 0).cells.size = 1 from rfl]
      omega
    · have e : Lib.byteCells (l ++ news) = Lib.byteCells l ++ Lib.byteCells news := by simp [Lib.byteCells]
      have e2 : (l ++ news).length = (Lib.byteCells l ++ Lib.byteCells news).length := by simp [Lib.byteCells]
      simp only [Array.toList_append]
      rw [e, e2]
      exact List.take_left
end Go.Proofs.YteigigepmoicaaaGreatDoor
