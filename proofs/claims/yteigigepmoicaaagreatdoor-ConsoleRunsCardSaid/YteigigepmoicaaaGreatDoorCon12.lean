/- The console's map of commands: walked. -/
import Derived.Test.YteigigepmoicaaaGreatDoorMg4
import Derived.Maps.OwnOps
namespace Go.Proofs.YteigigepmoicaaaGreatDoor
open Go.RowKit Go.Crc
open Go.ChangeMaps (setBlock heap_setBlock_same heap_setBlock_other)
set_option linter.unusedVariables false
set_option linter.unusedSimpArgs false
theorem run_map_new {P : Program} {t k e : TypeId} {w : World} {b : Nat} {es : Array MapEntry} {clock : Nat} {key : ByteArray} (val : Value) (ht : P.underlying t = some (.map k e)) (hk : P.underlying k = some .string) (hb : w.heap[b]? = some (.map es clock))
    (hn : Instr.findNow .string (.string key) es.toList 0 = some none) : (Instr.mapUpdate t (.map (some b)) (.string key) val).run P w = .ok () (setBlock w b (.map (es.push { key := .string key, val := val, born := clock }) (clock + 1))) := by
  have h1 := MapKept.run_checkKey (w := w) hk (k := .string key) trivial false 9999
  unfold Instr.mapUpdate
  simp [Sem.run_bind, run_underlying ht, Result.andThen, MapKept.run_getObj_map hb, h1, MapKept.run_findKey hk hn, MapKept.run_setObj_map _ hb, setBlock]
theorem wpList_insert_new {P : Program} (w : World) {ops : Array Oper} {rest : List Oper} {o : Oper} {a : Act} {Q : Exit → Act → World → Prop}
    (hg : o.guard = none) (m x v : Operand) (t : TypeId) (hop : o.op = Op.insert t m x v) (k e : TypeId) (ht : P.underlying t = some (.map k e)) (hk : P.underlying k = some .string)
    (b : Nat) (es : Array MapEntry) (clock : Nat) (hm : a.eval m = .map (some b)) (hb : w.heap[b]? = some (.map es clock)) (key : ByteArray) (val : Value) (hx : a.eval x = .string key) (hv : a.eval v = val)
    (hn : Instr.findNow .string (.string key) es.toList 0 = some none)
    (hK : ∀ w', w'.heap[b]? = some (.map (es.push { key := .string key, val := val, born := clock }) (clock + 1)) → w.grownBy w' (some b) → wpList P ops Q rest (a.put o.dst undef) w') :
    wpList P ops Q (o :: rest) a w := by
  refine wpList_plain hg fun K' hK' => ?_
  have hrun := run_map_new val ht hk hb hn
  have h1 := hK _ (heap_setBlock_same hb _) ⟨rfl, rfl, rfl, by simp [setBlock], fun i _ hi => heap_setBlock_other hb _ (fun e => hi (by rw [e]))⟩
  unfold Oper.wp
  simp [execOp, hop, hm, hx, hv, hrun, Result.andThen]
  exact hK' _ _ h1
theorem run_map_look {P : Program} {t k e : TypeId} {w : World} {b : Nat} {es : Array MapEntry} {clock : Nat} {key : ByteArray} (ht : P.underlying t = some (.map k e)) (hk : P.underlying k = some .string) (hb : w.heap[b]? = some (.map es clock))
    (r : Option (Nat × Value)) (hn : Instr.findNow .string (.string key) es.toList 0 = some r) (z : Value) (hz : (zeroValue e).run P w = .ok z w) :
    (Instr.lookup t (.map (some b)) (.string key) true).run P w = .ok (match r with | some (_, v) => .tuple #[v, .bool true] | none => .tuple #[z, .bool false]) w := by
  have h1 := fun em => MapKept.run_checkKey (w := w) hk (k := .string key) trivial em 9999
  unfold Instr.lookup
  cases r with
  | none => simp [Sem.run_bind, run_underlying ht, Result.andThen, MapKept.run_getObj_map hb, h1, MapKept.run_findKey hk hn, hz]
  | some x => obtain ⟨i, v⟩ := x; simp [Sem.run_bind, run_underlying ht, Result.andThen, MapKept.run_getObj_map hb, h1, MapKept.run_findKey hk hn]
def cmdV (kinds : List UInt8) (f : Nat) : Value := .agg #[.string (bytesOf kinds), .func (.func f) #[] #[]]
def cmdE (i : Nat) (name kinds : List UInt8) (f : Nat) : MapEntry := { key := .string (bytesOf name), val := cmdV kinds f, born := i }
def cmdEs : Array MapEntry := #[cmdE 0 nFcs [120] 41, cmdE 1 nFrame [110, 120] 42, cmdE 2 nUnframe [120] 43, cmdE 3 nFsm [110, 110] 44, cmdE 4 nMd5 [120] 45, cmdE 5 nDelay [110, 110, 110, 110] 46, cmdE 6 nTarget [110, 110, 110, 110] 47]
def AllAt (w : World) (b : Nat) : Prop := w.heap[b]? = some (.map cmdEs 7)
theorem AllAt.lt {w : World} {b : Nat} (h : AllAt w b) : b < w.heap.size := (Array.getElem?_eq_some_iff.1 h).1
theorem AllAt.below {w w' : World} {b : Nat} (h : AllAt w b) (hb : Below w.heap.size w w') : AllAt w' b := (hb.block b h.lt).trans h
theorem map_put {w : World} {b : Nat} {es : Array MapEntry} {clock : Nat} {key : ByteArray} (val : Value) (hb : w.heap[b]? = some (.map es clock)) (hn : Instr.findNow .string (.string key) es.toList 0 = some none) :
    ∃ w', (Instr.mapUpdate 48 (.map (some b)) (.string key) val).run Tryz.prog w = .ok () w' ∧ w'.heap[b]? = some (.map (es.push { key := .string key, val := val, born := clock }) (clock + 1)) ∧ w.grownBy w' (some b) :=
  ⟨_, run_map_new val Tryz.underlying48 Tryz.underlying9 hb hn, heap_setBlock_same hb _, ⟨rfl, rfl, rfl, by simp [setBlock], fun i _ hi => heap_setBlock_other hb _ (fun e => hi (by rw [e]))⟩⟩
set_option maxRecDepth 100000 in
set_option maxHeartbeats 1000000 in
theorem commands_any (w : World) : Calls Tryz.prog 24 #[] w fun e w' => e = .returned (.map (some w.heap.size)) ∧ AllAt w' w.heap.size ∧ Below w.heap.size w w' := by
  have h0 : (w.alloc (.map #[] 0)).heap[w.heap.size]? = some (.map #[] 0) := (MapKept.heap_alloc w _).1
  have b0 : Below w.heap.size w (w.alloc (.map #[] 0)) := (Below.refl _ _).alloc (Nat.le_refl _) _
  have gb : ∀ {x y : World}, Below w.heap.size w x → x.grownBy y (some w.heap.size) → Below w.heap.size w y := fun hx hg => hx.grown hg hx.size (fun k hk => by cases hk; exact Nat.le_refl _)
  have hmm := @run_makeMap Tryz.prog
  obtain ⟨w1, r1, h1, g1⟩ := map_put (key := bytesOf nFcs) (cmdV [120] 41) h0 (by kernel_rfl)
  obtain ⟨w2, r2, h2, g2⟩ := map_put (key := bytesOf nFrame) (cmdV [110, 120] 42) h1 (by kernel_rfl)
  obtain ⟨w3, r3, h3, g3⟩ := map_put (key := bytesOf nUnframe) (cmdV [120] 43) h2 (by kernel_rfl)
  obtain ⟨w4, r4, h4, g4⟩ := map_put (key := bytesOf nFsm) (cmdV [110, 110] 44) h3 (by kernel_rfl)
  obtain ⟨w5, r5, h5, g5⟩ := map_put (key := bytesOf nMd5) (cmdV [120] 45) h4 (by kernel_rfl)
  obtain ⟨w6, r6, h6, g6⟩ := map_put (key := bytesOf nDelay) (cmdV [110, 110, 110, 110] 46) h5 (by kernel_rfl)
  obtain ⟨w7, r7, h7, g7⟩ := map_put (key := bytesOf nTarget) (cmdV [110, 110, 110, 110] 47) h6 (by kernel_rfl)
  have hB := gb (gb (gb (gb (gb (gb (gb b0 g1) g2) g3) g4) g5) g6) g7
  have hA : AllAt w7 w.heap.size := h7
  clear h0 h1 h2 h3 h4 h5 h6 h7 g1 g2 g3 g4 g5 g6 g7 b0 gb
  simp only [bytesOf, nFcs, nFrame, nUnframe, nFsm, nMd5, nDelay, nTarget, cmdV] at r1 r2 r3 r4 r5 r6 r7
  go_enter Tryz.func24, Tryz.ntmps24
  go_wp2_with fail
  go_ret
  exact ⟨rfl, hA, hB⟩
/-- which entry a name meets -/
theorem cmd_find (name : List UInt8) (k : List UInt8) (h : kindsOf name = some k) : ∃ i f, Instr.findNow .string (.string (bytesOf name)) cmdEs.toList 0 = some (some (i, cmdV k f)) ∧
    ((name = nFcs ∧ f = 41) ∨ (name = nFrame ∧ f = 42) ∨ (name = nUnframe ∧ f = 43) ∨ (name = nFsm ∧ f = 44) ∨ (name = nMd5 ∧ f = 45) ∨ (name = nDelay ∧ f = 46) ∨ (name = nTarget ∧ f = 47)) := by
  unfold kindsOf at h
  by_cases h1 : name = nFcs
  · subst h1; rw [if_pos rfl] at h; cases h; exact ⟨0, _, by kernel_rfl, .inl ⟨rfl, rfl⟩⟩
  rw [if_neg h1] at h
  by_cases h2 : name = nFrame
  · subst h2; rw [if_pos rfl] at h; cases h; exact ⟨1, _, by kernel_rfl, .inr (.inl ⟨rfl, rfl⟩)⟩
  rw [if_neg h2] at h
  by_cases h3 : name = nUnframe
  · subst h3; rw [if_pos rfl] at h; cases h; exact ⟨2, _, by kernel_rfl, .inr (.inr (.inl ⟨rfl, rfl⟩))⟩
  rw [if_neg h3] at h
  by_cases h4 : name = nFsm
  · subst h4; rw [if_pos rfl] at h; cases h; exact ⟨3, _, by kernel_rfl, .inr (.inr (.inr (.inl ⟨rfl, rfl⟩)))⟩
  rw [if_neg h4] at h
  by_cases h5 : name = nMd5
  · subst h5; rw [if_pos rfl] at h; cases h; exact ⟨4, _, by kernel_rfl, .inr (.inr (.inr (.inr (.inl ⟨rfl, rfl⟩))))⟩
  rw [if_neg h5] at h
  by_cases h6 : name = nDelay
  · subst h6; rw [if_pos rfl] at h; cases h; exact ⟨5, _, by kernel_rfl, .inr (.inr (.inr (.inr (.inr (.inl ⟨rfl, rfl⟩)))))⟩
  rw [if_neg h6] at h
  by_cases h7 : name = nTarget
  · subst h7; rw [if_pos rfl] at h; cases h; exact ⟨6, _, by kernel_rfl, .inr (.inr (.inr (.inr (.inr (.inr ⟨rfl, rfl⟩)))))⟩
  rw [if_neg h7] at h
  cases h
theorem find_none (key : ByteArray) : ∀ (l : List MapEntry) (i : Nat), (∀ x ∈ l, ∃ n, x.key = .string n ∧ key ≠ n) → Instr.findNow .string (.string key) l i = some none
  | [], i, _ => rfl
  | e :: l, i, h => by
    obtain ⟨n, hn, hne⟩ := h e (by simp)
    have : (key == n) = false := by
      cases hq : key == n with
      | false => rfl
      | true => exact absurd ((MapKept.bytes_beq _ _).1 hq) hne
    rw [Instr.findNow, hn, Instr.sameNow, this]
    exact find_none key l (i + 1) (fun x hx => h x (by simp [hx]))
theorem cmd_miss (name : List UInt8) (h : kindsOf name = none) : Instr.findNow .string (.string (bytesOf name)) cmdEs.toList 0 = some none := by
  have hk : ∀ n ∈ [nFcs, nFrame, nUnframe, nFsm, nMd5, nDelay, nTarget], bytesOf name ≠ bytesOf n := by
    intro n hn e
    have := bytesOf_inj e
    subst this
    revert h
    revert name
    decide
  refine find_none _ _ _ fun x hx => ?_
  simp only [cmdEs, cmdE, List.mem_cons, List.not_mem_nil, or_false] at hx
  rcases hx with rfl | rfl | rfl | rfl | rfl | rfl | rfl <;> exact ⟨_, rfl, hk _ (by simp)⟩
end Go.Proofs.YteigigepmoicaaaGreatDoor
