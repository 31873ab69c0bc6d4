/- A slice of acts that came in, opened. -/
import Derived.Test.YtagnbdenecphcaaGreatDoorRu
import Derived.Test.YtagnbdenecphcaaGreatDoorLink
import Derived.Deep.Slices
import Derived.SizedLaws
namespace Go.Proofs.YtagnbdenecphcaaGreatDoor
open Go.ChangeShapes Go.WideShapes Go.ChangeAt Go.RowKit Go.Joins Go.Deep
set_option maxRecDepth 100000
set_option linter.unusedVariables false
section
variable {H : Type} {enc : TypeId × Value → H} {w : World} {base : Nat} {sp : Nat → Bool} {held : Bool}
/-- every weight is within reach -/
def FitsD (t : TypeId) (d : DataW H) : Prop := ∀ n ∈ d.weights Tryz.prog t, n ≤ reachBytes
theorem weights_all {P : Program} {e : TypeId} {l : List (DataW H)} {d : DataW H} (hd : d ∈ l) : ∀ n ∈ d.weights P e, n ∈ DataW.weightsAll P e l := by
  induction l with
  | nil => cases hd
  | cons a l ih =>
    intro n hn
    rw [DataW.weightsAll, List.mem_append]
    rcases List.mem_cons.1 hd with rfl | hd
    · exact .inl hn
    · exact .inr (ih hd n hn)
theorem cs2 {cs : List Value} (h : cs.length = 2) : ∃ a b, cs = [a, b] := by
  match cs, h with
  | [a, b], _ => exact ⟨a, b, rfl⟩
theorem cs4 {cs : List Value} (h : cs.length = 4) : ∃ a b c d, cs = [a, b, c, d] := by
  match cs, h with
  | [a, b, c, d], _ => exact ⟨a, b, c, d, rfl⟩
theorem cs6 {cs : List Value} (h : cs.length = 6) : ∃ a b c d e f, cs = [a, b, c, d, e, f] := by
  match cs, h with
  | [a, b, c, d, e, f], _ => exact ⟨a, b, c, d, e, f, rfl⟩
theorem cells_int : Tryz.prog.cellsOf 3 = 1 := by kernel_rfl
theorem cells_string : Tryz.prog.cellsOf 9 = 1 := by kernel_rfl
theorem cells_opts : Tryz.prog.cellsOf 34 = 1 := by kernel_rfl
theorem cells_opt : Tryz.prog.cellsOf 70 = 2 := by kernel_rfl
theorem cells_packet : Tryz.prog.cellsOf 36 = 4 := by kernel_rfl
theorem cells_act : Tryz.prog.cellsOf 38 = 6 := by kernel_rfl
theorem bytes_opt : Tryz.prog.bytesOf 70 = 24 := by kernel_rfl
theorem some_of {α : Type} {xs : List α} {n i : Nat} (h : xs.length = n) (hi : i < n) : ∃ y, xs[i]? = some y := ⟨_, List.getElem?_eq_getElem (by rw [h]; exact hi)⟩
theorem list2 {α : Type} {xs : List α} {a b : α} (h : xs.length = 2) (h0 : xs[0]? = some a) (h1 : xs[1]? = some b) : xs = [a, b] := by
  match xs, h with
  | [x, y], _ => simp at h0 h1; rw [h0, h1]
theorem list3 {α : Type} {xs : List α} {a b c : α} (h : xs.length = 3) (h0 : xs[0]? = some a) (h1 : xs[1]? = some b) (h2 : xs[2]? = some c) : xs = [a, b, c] := by
  match xs, h with
  | [x, y, z], _ => simp at h0 h1 h2; rw [h0, h1, h2]
theorem list4 {α : Type} {xs : List α} {a b c d : α} (h : xs.length = 4) (h0 : xs[0]? = some a) (h1 : xs[1]? = some b) (h2 : xs[2]? = some c) (h3 : xs[3]? = some d) : xs = [a, b, c, d] := by
  match xs, h with
  | [x, y, z, t], _ => simp at h0 h1 h2 h3; rw [h0, h1, h2, h3]
theorem addr_add (g o j : Nat) : (⟨g, o, none⟩ : Addr).add j = ⟨g, o + j, none⟩ := by unfold Addr.add; split <;> simp_all
theorem trod_opt {fuel : Nat} {cs : List Value} {x : DataW H × List MemPlace} (h : DataW.trod enc Tryz.prog w base sp held fuel 70 cs = some x) :
    ∃ (k : Int) (d : ByteArray), cs = [.int .i64 k, .string d] ∧ x.1 = .agg [.lit (.int .i64 k), .lit (.string d.data.toList)] := by
  obtain ⟨xs, n, _, rfl, hlen, hxl, hf⟩ := DataW.trod_struct Tryz.underlying70 h
  rw [cells_opt] at hlen
  obtain ⟨a, b, rfl⟩ := cs2 hlen
  have f0 : DataW.trod enc Tryz.prog w base sp held n 3 (List.take (Tryz.prog.cellsOf 3) (List.drop 0 [a, b])) = xs[0]? := hf 0 _ rfl
  have f1 : DataW.trod enc Tryz.prog w base sp held n 9 (List.take (Tryz.prog.cellsOf 9) (List.drop 1 [a, b])) = xs[1]? := hf 1 _ rfl
  obtain ⟨y0, e0⟩ := some_of hxl (i := 0) (by decide)
  obtain ⟨y1, e1⟩ := some_of hxl (i := 1) (by decide)
  rw [e0] at f0
  rw [e1] at f1
  rw [cells_int] at f0
  rw [cells_string] at f1
  obtain ⟨k, hk, rfl, _⟩ := DataW.trod_int Tryz.underlying3 f0
  obtain ⟨d, hd, rfl, _⟩ := DataW.trod_string Tryz.underlying9 f1
  simp at hk hd
  subst hk hd
  exact ⟨k, d, rfl, by rw [list2 hxl e0 e1]; rfl⟩
theorem opt_fits {k : Int} {d : ByteArray} (h : FitsD (H := H) 70 (.agg [.lit (.int .i64 k), .lit (.string d.data.toList)])) : d.size ≤ 140737488351232 := by
  have := h d.size (by
    rw [DataW.weights, Tryz.underlying70]
    simp [DataW.weightsEach, DataW.weights])
  exact this
theorem opts_in {fuel : Nat} {v : Value} {y : DataW H × List MemPlace} (h : DataW.trod enc Tryz.prog w base sp held fuel 34 [v] = some y) (hfit : FitsD 34 y.1) :
    ∃ (l : List OptM) (a : Option Addr) (c : Nat), v = .slice a l.length c ∧ OptsIn w v l ∧ (∀ o ∈ l, o.2.size ≤ 140737488351232) ∧ (l.length + 2) * 24 ≤ 140737488355328 := by
  rcases open_slice Tryz.underlying34 h with ⟨hcs, rfl⟩ | ⟨a, len, cap, m, n, D, Pl, hcs, hb, hl, hm, hmm, rfl, hel⟩
  · simp at hcs
    subst hcs
    exact ⟨[], none, 0, rfl, OptsIn.nil _, by simp, by decide⟩
  · simp at hcs
    subst hcs
    have hlm : len ≤ m := by rw [hmm]; split <;> omega
    rw [cells_opt] at hel
    obtain ⟨f, hf⟩ := choose_lt (α := OptM) (n := len) (p := fun i o => w.cells? base (a.add (i * 2)) 2 = some [.int .i64 o.1, .string o.2] ∧ D i = .agg [.lit (.int .i64 o.1), .lit (.string o.2.data.toList)]) (fun i hi => by
      obtain ⟨cs', h1, h2⟩ := hel i (by omega)
      obtain ⟨k, d, rfl, hd⟩ := trod_opt h2
      exact ⟨(k, d), h1, hd⟩)
    have hw : ∀ i, i < len → (f i).2.size ≤ 140737488351232 := by
      intro i hi
      refine opt_fits (H := H) (k := (f i).1) fun n hn => hfit n ?_
      rw [← (hf i hi).2] at hn
      rw [DataW.weights, Tryz.underlying34]
      exact List.mem_cons_of_mem _ (List.mem_append_left _ (weights_all (List.mem_map.2 ⟨i, List.mem_range.2 hi, rfl⟩) n hn))
    have hsz : (len + (m - len)) * 24 ≤ 140737488351232 := by
      have := hfit ((len + (m - len)) * 24) (by
        rw [DataW.weights, Tryz.underlying34]
        simp only [List.length_map, List.length_range, bytes_opt]
        exact List.mem_cons_self)
      exact this
    refine ⟨(List.range len).map f, some a, cap, by simp, ?_, ?_, by simp; omega⟩
    · by_cases h0 : len = 0
      · subst h0
        exact .inr ⟨rfl, some a, cap, by simp, hm, fun e => by cases e⟩
      · have hc0 := (World.cells?_some (hf 0 (by omega)).1).2.2 0 (by decide)
        simp at hc0
        have hz : a.add 0 = a := by unfold Addr.add; simp
        obtain ⟨g, o, spot⟩ := a
        obtain rfl : spot = none := by
          have := World.cell?_spot hc0
          simpa [Addr.add] using this
        refine .inl (.inr ⟨g, o, cap, by simp, by simpa using hl, hm, ?_, fun j hj i hi => ?_⟩)
        · rw [addr_add, addr_add] at hc0
          exact block_lt_of_cell hc0
        · have hjl : j < len := by simpa using hj
          have hcj := (World.cells?_some (hf j hjl).1).2.2 i hi
          rw [addr_add, addr_add] at hcj
          have e : o + j * 2 + i = o + j * optE.size + i := rfl
          rw [← e, hcj]
          simp
          rfl
    · intro o ho
      obtain ⟨i, hi, rfl⟩ := List.mem_map.1 ho
      exact hw i (List.mem_range.1 hi)
theorem trod_packet {fuel : Nat} {cs : List Value} {x : DataW H × List MemPlace} (h : DataW.trod enc Tryz.prog w base sp held fuel 36 cs = some x) :
    ∃ (code id : Int) (v : Value) (d : ByteArray) (y : DataW H × List MemPlace) (n : Nat), cs = [.int .i64 code, .int .i64 id, v, .string d] ∧ DataW.trod enc Tryz.prog w base sp held n 34 [v] = some y ∧ x.1 = .agg [.lit (.int .i64 code), .lit (.int .i64 id), y.1, .lit (.string d.data.toList)] := by
  obtain ⟨xs, n, _, rfl, hlen, hxl, hf⟩ := DataW.trod_struct Tryz.underlying36 h
  rw [cells_packet] at hlen
  obtain ⟨a, b, c, d, rfl⟩ := cs4 hlen
  have f0 : DataW.trod enc Tryz.prog w base sp held n 3 (List.take (Tryz.prog.cellsOf 3) (List.drop 0 [a, b, c, d])) = xs[0]? := hf 0 _ rfl
  have f1 : DataW.trod enc Tryz.prog w base sp held n 3 (List.take (Tryz.prog.cellsOf 3) (List.drop 1 [a, b, c, d])) = xs[1]? := hf 1 _ rfl
  have f2 : DataW.trod enc Tryz.prog w base sp held n 34 (List.take (Tryz.prog.cellsOf 34) (List.drop 2 [a, b, c, d])) = xs[2]? := hf 2 _ rfl
  have f3 : DataW.trod enc Tryz.prog w base sp held n 9 (List.take (Tryz.prog.cellsOf 9) (List.drop 3 [a, b, c, d])) = xs[3]? := hf 3 _ rfl
  obtain ⟨y0, e0⟩ := some_of hxl (i := 0) (by decide)
  obtain ⟨y1, e1⟩ := some_of hxl (i := 1) (by decide)
  obtain ⟨y2, e2⟩ := some_of hxl (i := 2) (by decide)
  obtain ⟨y3, e3⟩ := some_of hxl (i := 3) (by decide)
  rw [e0, cells_int] at f0
  rw [e1, cells_int] at f1
  rw [e2, cells_opts] at f2
  rw [e3, cells_string] at f3
  obtain ⟨k, hk, rfl, _⟩ := DataW.trod_int Tryz.underlying3 f0
  obtain ⟨i, hi, rfl, _⟩ := DataW.trod_int Tryz.underlying3 f1
  obtain ⟨t, ht, rfl, _⟩ := DataW.trod_string Tryz.underlying9 f3
  simp at hk hi ht
  subst hk hi ht
  exact ⟨k, i, c, t, y2, n, rfl, f2, by rw [list4 hxl e0 e1 e2 e3]; rfl⟩
theorem trod_act {fuel : Nat} {cs : List Value} {x : DataW H × List MemPlace} (h : DataW.trod enc Tryz.prog w base sp held fuel 38 cs = some x) :
    ∃ (kind m code id : Int) (v : Value) (d : ByteArray) (y : DataW H × List MemPlace) (n : Nat), cs = [.int .i64 kind, .int .i64 m, .int .i64 code, .int .i64 id, v, .string d] ∧ DataW.trod enc Tryz.prog w base sp held n 34 [v] = some y ∧
      x.1 = .agg [.lit (.int .i64 kind), .lit (.int .i64 m), .agg [.lit (.int .i64 code), .lit (.int .i64 id), y.1, .lit (.string d.data.toList)]] := by
  obtain ⟨xs, n, _, rfl, hlen, hxl, hf⟩ := DataW.trod_struct Tryz.underlying38 h
  rw [cells_act] at hlen
  obtain ⟨a, b, c, d, e, f, rfl⟩ := cs6 hlen
  have f0 : DataW.trod enc Tryz.prog w base sp held n 3 (List.take (Tryz.prog.cellsOf 3) (List.drop 0 [a, b, c, d, e, f])) = xs[0]? := hf 0 _ rfl
  have f1 : DataW.trod enc Tryz.prog w base sp held n 3 (List.take (Tryz.prog.cellsOf 3) (List.drop 1 [a, b, c, d, e, f])) = xs[1]? := hf 1 _ rfl
  have f2 : DataW.trod enc Tryz.prog w base sp held n 36 (List.take (Tryz.prog.cellsOf 36) (List.drop 2 [a, b, c, d, e, f])) = xs[2]? := hf 2 _ rfl
  obtain ⟨y0, e0⟩ := some_of hxl (i := 0) (by decide)
  obtain ⟨y1, e1⟩ := some_of hxl (i := 1) (by decide)
  obtain ⟨y2, e2⟩ := some_of hxl (i := 2) (by decide)
  rw [e0, cells_int] at f0
  rw [e1, cells_int] at f1
  rw [e2, cells_packet] at f2
  obtain ⟨k, hk, rfl, _⟩ := DataW.trod_int Tryz.underlying3 f0
  obtain ⟨i, hi, rfl, _⟩ := DataW.trod_int Tryz.underlying3 f1
  obtain ⟨code, id, v, t, y, n2, hcs, hv, hx2⟩ := trod_packet f2
  simp at hk hi hcs
  obtain ⟨rfl, rfl, rfl, rfl⟩ := hcs
  subst hk hi
  exact ⟨k, i, code, id, _, t, y, n2, rfl, hv, by rw [list3 hxl e0 e1 e2]; simp [hx2]⟩
theorem act_fits {kind m code id : Int} {d : ByteArray} {y : DataW H} (h : FitsD (H := H) 38 (.agg [.lit (.int .i64 kind), .lit (.int .i64 m), .agg [.lit (.int .i64 code), .lit (.int .i64 id), y, .lit (.string d.data.toList)]])) : FitsD 34 y ∧ d.size ≤ 140737488351232 := by
  have hw : ∀ n, (n ∈ y.weights Tryz.prog 34 ∨ n = d.size) → n ∈ DataW.weights (H := H) Tryz.prog 38 (.agg [.lit (.int .i64 kind), .lit (.int .i64 m), .agg [.lit (.int .i64 code), .lit (.int .i64 id), y, .lit (.string d.data.toList)]]) := by
    intro n hn
    rw [DataW.weights, Tryz.underlying38]
    simp only [DataW.weightsEach, List.map_cons, List.map_nil]
    rw [DataW.weights, DataW.weights, DataW.weights, Tryz.underlying36]
    simp only [DataW.weightsEach, List.map_cons, List.map_nil]
    rw [DataW.weights, DataW.weights, DataW.weights]
    · simpa using hn
    all_goals (intro _ hb; cases hb)
  exact ⟨fun n hn => h n (hw n (.inl hn)), h d.size (hw d.size (.inr rfl))⟩
/-- the acts -/
theorem acts_in {v : Value} {d : DataW H} {p : List MemPlace} (h : DataW.Trod enc Tryz.prog w base sp held 24 v d p) (ha : ∃ a n c, v = .slice a n c) (hfit : FitsD 24 d) :
    ∃ l : List ActV, ActsAt w v l := by
  obtain ⟨a0, n0, c0, rfl⟩ := ha
  obtain ⟨fuel, hfu⟩ := h
  rcases open_slice Tryz.underlying24 hfu with ⟨hcs, hx⟩ | ⟨a, len, cap, m, n, D, Pl, hcs, hb, hl, hm, hmm, hx, hel⟩
  · simp [Value.cells] at hcs
    obtain ⟨rfl, rfl, rfl⟩ := hcs
    exact ⟨[], ⟨⟨none, 0, rfl, Nat.le_refl _, Nat.zero_le _⟩, fun j hj => absurd hj (by simp), by simp, by simp, by simp, by simp⟩⟩
  · simp [Value.cells] at hcs hx
    obtain ⟨rfl, rfl, rfl⟩ := hcs
    obtain ⟨rfl, -⟩ := hx
    have hlm : n0 ≤ m := by rw [hmm]; split <;> omega
    rw [cells_act] at hel
    haveI : Inhabited ActV := ⟨(0, 0, packetZ, none, 0)⟩
    obtain ⟨f, hf⟩ := choose_lt (α := ActV) (n := n0) (p := fun i x => w.cells? base (a.add (i * 6)) 6 = some (actCells x) ∧ OptsIn w (slOf x.2.2) x.2.2.1.opts ∧ x.2.2.1.data.size ≤ 140737488351232 ∧ (∀ o ∈ x.2.2.1.opts, o.2.size ≤ 140737488351232) ∧ (x.2.2.1.opts.length + 2) * 24 ≤ 140737488355328) (fun i hi => by
      obtain ⟨cs', h1, h2⟩ := hel i (by omega)
      obtain ⟨kind, k, code, id, u, d, y, n2, rfl, hy, hD⟩ := trod_act h2
      have hfi : FitsD (H := H) 38 (D i) := fun q hq => hfit q (by
        rw [DataW.weights, Tryz.underlying24]
        exact List.mem_cons_of_mem _ (List.mem_append_left _ (weights_all (List.mem_map.2 ⟨i, List.mem_range.2 hi, rfl⟩) q hq)))
      dsimp only at hD
      rw [hD] at hfi
      obtain ⟨hfy, hd⟩ := act_fits hfi
      obtain ⟨l, a', c', rfl, ho, ht, hr⟩ := opts_in hy hfy
      exact ⟨(kind, k, ⟨code, id, l, d⟩, a', c'), h1, ho, hd, ht, hr⟩)
    have hlist : ∀ x ∈ (List.range n0).map f, OptsIn w (slOf x.2.2) x.2.2.1.opts ∧ x.2.2.1.data.size ≤ 140737488351232 ∧ (∀ o ∈ x.2.2.1.opts, o.2.size ≤ 140737488351232) ∧ (x.2.2.1.opts.length + 2) * 24 ≤ 140737488355328 := by
      intro x hx
      obtain ⟨i, hi, rfl⟩ := List.mem_map.1 hx
      exact (hf i (List.mem_range.1 hi)).2
    refine ⟨(List.range n0).map f, ⟨⟨some a, c0, by simp, by simpa using hl, hm⟩, fun j hj => ?_, fun x hx => (hlist x hx).1, fun x hx => (hlist x hx).2.1, fun x hx => (hlist x hx).2.2.1, fun x hx => (hlist x hx).2.2.2⟩⟩
    have hjl : j < n0 := by simpa using hj
    obtain ⟨-, -, hc⟩ := World.cells?_some (hf j hjl).1
    have hg : ((List.range n0).map f)[j] = f j := by simp
    obtain ⟨g, o, spot⟩ := a
    obtain rfl : spot = none := by
      have hc0 := (World.cells?_some (hf 0 (by omega)).1).2.2 0 (by decide)
      have := World.cell?_spot (hc0.trans (show _ = some (.int .i64 (f 0).1) from rfl))
      simpa [Addr.add] using this
    rw [addr_add] at hc
    simp only [addr_add] at hc
    rw [hg]
    exact ⟨g, o, c0, by simp, block_lt_of_cell ((hc 0 (by decide)).trans (show _ = some (.int .i64 (f j).1) from rfl)), hc 0 (by decide), hc 1 (by decide), hc 2 (by decide), hc 3 (by decide), hc 4 (by decide), hc 5 (by decide)⟩
end
end Go.Proofs.YtagnbdenecphcaaGreatDoor
