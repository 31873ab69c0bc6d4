/- Small laws of my own that the walks of this seat share. The shelf's contracts of strings.Split and strings.Cut, laid at this translation. Slices of values of one or many cells: read, owned, appended; worlds in which only some blocks have turned. Slices of bytes that a call makes by appending. Slices of texts: read, appended; SameTexts. Slices of ints: read, appended; SameInts. The automaton's table, plain; Made. The automaton's Step. -/
import Derived.WalkKit
import Derived.WalkSpells
import Derived.WalkLawsBesides
import Derived.Deep.WholeRow
import Derived.Lib.Hide
import Derived.Lib.Strings
import Derived.Laws.IdiomStrings
import Derived.Shelf.Strings.Split
import Derived.Shelf.Strings.Cut
import Derived.Test.YtagnbdenecphcaaDoorRows
import Derived.Laws.AppendOwnNone
import Derived.Maps.AppendAt
import Derived.Handy
import Derived.StillTailTactics
import Derived.Lib.UnsafeStr
/-! Small laws of my own that the walks of this seat share. -/
namespace Go.Proofs.YtagnbdenecphcaaDoor
open Go.RowKit
theorem seqB {w w1 w2 : World} (h : Below w.heap.size w w1) (k : Below w1.heap.size w1 w2) : Below w.heap.size w w2 := h.trans (k.mono h.size)
theorem allocB {w w1 : World} (h : Below w.heap.size w w1) (o : Obj) : Below w.heap.size w (w1.alloc o) := h.alloc h.size o
theorem drewB {w w1 : World} (h : Below w.heap.size w w1) : Below w.heap.size w w1.drew := h.drew
theorem bcell {W w1 : World} (hb : Below W.heap.size W w1) : (∀ b o, b < W.heap.size → w1.cell? ⟨b, o, none⟩ = W.cell? ⟨b, o, none⟩) ∧ (∀ b o, b < W.heap.size → w1.frozen? ⟨b, o, none⟩ = W.frozen? ⟨b, o, none⟩) :=
  ⟨fun b o h => hb.cell (p := ⟨b, o, none⟩) h, fun b o h => hb.frozen (p := ⟨b, o, none⟩) h⟩
theorem below_setRow {B : Nat} {a w : World} (h : Below B a w) (g : Nat) (cs : Array Value) (hg : B ≤ g) : Below B a (w.setRow g cs) :=
  h.trans ⟨rfl, rfl, rfl, by simp, fun k hk => setRow_other w g k cs (by omega)⟩
/-- a whole row stored into the block that was made last -/
theorem wpList_store_new {P : Program} {ops : Array Oper} {rest : List Oper} {o : Oper} {a : Act} {w : World} {Q : Exit → Act → World → Prop} (hgd : o.guard = none) (ty : TypeId) (x y : Operand) (ho : o.op = .store ty x y)
    (cells : Array Value) (hx : a.eval x = .pointer (some ⟨w.heap.size, 0, none⟩)) (hy : a.eval y = .agg cells) (t : TypeId) (old : Array Value)
    (hi : (P.info? ty).map (·.size) = some cells.size) (hold : old.size = cells.size) (h1 : cells.all (·.oneCell') = true)
    (h : wpList P ops Q rest (a.put o.dst undef) (w.alloc (.cells cells t))) : wpList P ops Q (o :: rest) a (w.alloc (.cells old t)) :=
  wpList_store_row hgd ty x y ho w.heap.size cells hx hy t old (heap_alloc_last w _) hi hold h1 (by rw [World.setRow_alloc_new]; exact h)
/-! ### texts -/
def bytesOf (l : List UInt8) : ByteArray := ⟨l.toArray⟩
theorem len_toList (s : ByteArray) : s.data.toList.length = s.size := Array.length_toList
theorem extract_toList (s : ByteArray) (a b : Nat) : (s.extract a b).data.toList = (s.data.toList.drop a).take (b - a) := Lib.extract_data s a b
theorem prefix_size (s : ByteArray) (n : Nat) (h : n ≤ s.size) : (s.extract 0 n).size = n := by
  rw [← len_toList, extract_toList]; simp; omega
theorem ba_toList (s : ByteArray) : s.toList = s.data.toList := ByteArray.toList_eq s
theorem ba_beq_true {a b : ByteArray} (h : a.data.toList = b.data.toList) : (a.toList == b.toList) = true := by rw [ba_toList, ba_toList, h]; exact beq_self_eq_true _
theorem ba_beq_false {a b : ByteArray} (h : a.data.toList ≠ b.data.toList) : (a.toList == b.toList) = false := by rw [ba_toList, ba_toList]; exact beq_eq_false_iff_ne.2 h
theorem prefix_toList (s : ByteArray) (n : Nat) : (s.extract 0 n).data.toList = s.data.toList.take n := by rw [extract_toList]; simp
theorem prefix_bytes (s : ByteArray) (n : Nat) : s.extract 0 n = bytesOf (s.data.toList.take n) := by
  have := prefix_toList s n
  cases h : s.extract 0 n with
  | mk d => rw [h] at this; simp only at this; unfold bytesOf; rw [← this]
theorem bytesOf_toList (l : List UInt8) : (bytesOf l).data.toList = l := rfl
theorem bytesOf_size (l : List UInt8) : (bytesOf l).size = l.length := by simp [bytesOf, ByteArray.size]
theorem bytesOf_of (s : ByteArray) : bytesOf s.data.toList = s := by unfold bytesOf; cases s; simp
theorem bytesOf_inj {a b : List UInt8} (h : bytesOf a = bytesOf b) : a = b := by
  have := congrArg (·.data.toList) h; simpa [bytesOf] using this
theorem ba_ext {a b : ByteArray} (h : a.data.toList = b.data.toList) : a = b := by
  rw [← bytesOf_of a, ← bytesOf_of b, h]
theorem bytesOf_append (a b : List UInt8) : bytesOf a ++ bytesOf b = bytesOf (a ++ b) := ba_ext (by simp [bytesOf])
theorem strOfNums_bytes (xs : List Int) : strOfNums xs = bytesOf (xs.map fun n => UInt8.ofNat n.toNat) := rfl
/-- a row of bytes that was just made, as a text -/
theorem conv_row {P : Program} (w : World) (src dst e : TypeId) (hs : P.underlying src = some (.slice e)) (he : P.underlying e = some (.int .u8)) (hd : P.underlying dst = some .string)
    (xs : List Int) (n : Nat) (hn : xs.length = n) :
    (convert src dst (.slice (some ⟨w.heap.size, 0, none⟩) n n)).run P (w.alloc (.cells (xs.map (Value.int .u8)).toArray e)) = .ok (.string (strOfNums xs)) (w.alloc (.cells (xs.map (Value.int .u8)).toArray e)) := by
  refine run_convert_bytes_arg _ src e hs he w.heap.size 0 n n xs hn (fun i hi => ?_) dst hd
  rw [World.cell?_alloc_new]
  have h : i < xs.length := by omega
  simp [List.getD, h]
/-! ### a row of bytes that the call made out of a text -/
/-- a slice of integers that came in: nil, or a row of cap cells -/
def IsRow (k : IntKind) (w : World) (a : Option Addr) (len cap : Nat) (zs : List Int) : Prop :=
  (a = none ∧ len = 0 ∧ cap = 0 ∧ zs = []) ∨
  ∃ x, a = some x ∧ len ≤ cap ∧ cap ≤ maxLen ∧ zs.length = cap ∧ (∀ i, i < zs.length → w.cell? (x.add i) = some (.int k (zs.getD i 0))) ∧ ∀ n ∈ zs, (Lit.int k n).wf = true
def RowIs (w : World) (B : Nat) (e : TypeId) (l : List UInt8) : Prop :=
  ∃ row : Array Value, w.heap[B]? = some (.cells row e (row.size, row.size + 1)) ∧ l.length ≤ row.size ∧ ∀ j (h : j < l.length), row[j]? = some (.int .u8 (l[j].toNat : Int))
theorem RowIs.cell {w : World} {B : Nat} {e : TypeId} {l : List UInt8} (h : RowIs w B e l) {j : Nat} (hj : j < l.length) : w.cell? ⟨B, j, none⟩ = some (.int .u8 (l[j].toNat : Int)) := by
  obtain ⟨row, h1, _, h3⟩ := h
  simp [World.cell?, h1, h3 j hj]
theorem RowIs.frozen {w : World} {B : Nat} {e : TypeId} {l : List UInt8} (h : RowIs w B e l) {j : Nat} (hj : j < l.length) : w.frozen? ⟨B, j, none⟩ = false := by
  obtain ⟨row, h1, h2, _⟩ := h
  simp [World.frozen?, h1]; omega
theorem RowIs.set {w : World} {B : Nat} {e : TypeId} {l : List UInt8} (h : RowIs w B e l) {j : Nat} (hj : j < l.length) (b : UInt8) : RowIs (w.setCell ⟨B, j, none⟩ (.int .u8 (b.toNat : Int))) B e (l.set j b) := by
  obtain ⟨row, h1, h2, h3⟩ := h
  have hlt : B < w.heap.size := (Array.getElem?_eq_some_iff.1 h1).1
  refine ⟨row.setIfInBounds j (.int .u8 (b.toNat : Int)), ?_, by simpa using h2, ?_⟩
  · simp only [World.setCell, Array.getElem?_modify, if_true, h1, Option.map_some]
    simp
  · intro i hi
    rw [Array.getElem?_setIfInBounds]
    have hi' : i < l.length := by simpa using hi
    by_cases e : j = i
    · subst e
      rw [if_pos rfl, if_pos (by omega)]
      simp
    · rw [if_neg e, h3 i hi']
      simp [e]
theorem RowIs.same {w w' : World} {B : Nat} {e : TypeId} {l : List UInt8} (h : RowIs w B e l) (hh : w'.heap[B]? = w.heap[B]?) : RowIs w' B e l := by
  obtain ⟨row, h1, h2, h3⟩ := h
  exact ⟨row, hh.trans h1, h2, h3⟩
theorem RowIs.drew {w : World} {B : Nat} {e : TypeId} {l : List UInt8} (h : RowIs w B e l) : RowIs w.drew B e l := h.same rfl
theorem RowIs.lt {w : World} {B : Nat} {e : TypeId} {l : List UInt8} (h : RowIs w B e l) : B < w.heap.size := by
  obtain ⟨row, h1, _⟩ := h
  exact (Array.getElem?_eq_some_iff.1 h1).1
theorem RowIs.below {w w' : World} {B : Nat} {e : TypeId} {l : List UInt8} (h : RowIs w B e l) (hb : Below w.heap.size w w') : RowIs w' B e l := h.same (hb.block B h.lt)
theorem RowIs.conv {P : Program} {w : World} {B : Nat} {e : TypeId} {l : List UInt8} (h : RowIs w B e l) (src dst : TypeId) (hs : P.underlying src = some (.slice e)) (he : P.underlying e = some (.int .u8)) (hd : P.underlying dst = some .string) (n cap : Nat) (hn : n = l.length) :
    (convert src dst (.slice (some ⟨B, 0, none⟩) n cap)).run P w = .ok (.string (bytesOf l)) w := by
  subst hn
  refine run_convert_bytes_back w src dst e ⟨B, 0, none⟩ cap l hs he hd fun j hj => ?_
  have hadd : (⟨B, 0, none⟩ : Addr).add j = ⟨B, j, none⟩ := by unfold Addr.add; split <;> simp_all
  rw [hadd]; exact h.cell hj
theorem grownCap_le (w : World) (n e : Nat) : n ≤ grownCap w n 0 e := by
  unfold grownCap
  simp [Question.cut]
theorem rowIs_new (w : World) (s : ByteArray) (e : TypeId) (cap : Nat) : RowIs (w.alloc (.cells (bytesRow s cap) e ((bytesRow s cap).size, (bytesRow s cap).size + 1))) w.heap.size e s.data.toList := by
  refine ⟨bytesRow s cap, heap_alloc_last w _, ?_, fun j hj => ?_⟩
  · rw [len_toList]; simp [bytesRow]
  · have := bytesRow_at s cap j (by simpa using hj)
    simpa using this
/-! ### bits of ints -/
theorem ofInt_i64 (a : Nat) (ha : a < 9223372036854775808) : (BitVec.ofInt 64 (a : Int)).toNat = a := by
  rw [BitVec.toNat_ofInt]; omega
theorem i64_xor_nat (a b : Nat) (ha : a < 9223372036854775808) (hb : b < 9223372036854775808) : bits .xor .i64 (a : Int) (b : Int) = ((a ^^^ b : Nat) : Int) := by
  have hx : a ^^^ b < 2 ^ 63 := Nat.xor_lt_two_pow (by omega) (by omega)
  show IntKind.i64.wrap ((BitVec.ofInt 64 (a : Int) ^^^ BitVec.ofInt 64 (b : Int)).toNat : Int) = _
  rw [BitVec.toNat_xor, ofInt_i64 a ha, ofInt_i64 b hb, IntKind.wrap_i64]
  omega
theorem i64_or_nat (a b : Nat) (ha : a < 9223372036854775808) (hb : b < 9223372036854775808) : bits .or .i64 (a : Int) (b : Int) = ((a ||| b : Nat) : Int) := by
  have hx : a ||| b < 2 ^ 63 := Nat.or_lt_two_pow (by omega) (by omega)
  show IntKind.i64.wrap ((BitVec.ofInt 64 (a : Int) ||| BitVec.ofInt 64 (b : Int)).toNat : Int) = _
  rw [BitVec.toNat_or, ofInt_i64 a ha, ofInt_i64 b hb, IntKind.wrap_i64]
  omega
theorem i64_and_nat (a b : Nat) (ha : a < 9223372036854775808) (hb : b < 9223372036854775808) : bits .and .i64 (a : Int) (b : Int) = ((a &&& b : Nat) : Int) := by
  have hx : a &&& b < 2 ^ 63 := Nat.and_lt_two_pow _ (by omega)
  show IntKind.i64.wrap ((BitVec.ofInt 64 (a : Int) &&& BitVec.ofInt 64 (b : Int)).toNat : Int) = _
  rw [BitVec.toNat_and, ofInt_i64 a ha, ofInt_i64 b hb, IntKind.wrap_i64]
  omega
/-- the low k bits of any int -/
theorem i64_low (n : Int) (k : Nat) (hk : k < 63) : bits .and .i64 n ((2 ^ k - 1 : Nat) : Int) = n % ((2 ^ k : Nat) : Int) := by
  have hp : 2 ^ k ≤ 2 ^ 62 := Nat.pow_le_pow_right (by omega) (by omega)
  have hp0 : 0 < 2 ^ k := Nat.two_pow_pos k
  have h1 : (BitVec.ofInt 64 ((2 ^ k - 1 : Nat) : Int)).toNat = 2 ^ k - 1 := ofInt_i64 _ (by omega)
  have hd : 2 ^ 64 = 2 ^ k * 2 ^ (64 - k) := by rw [← Nat.pow_add]; congr 1; omega
  have key : (BitVec.ofInt 64 n &&& BitVec.ofInt 64 ((2 ^ k - 1 : Nat) : Int)).toNat = (n % ((2 ^ 64 : Nat) : Int)).toNat % 2 ^ k := by
    rw [BitVec.toNat_and, BitVec.toNat_ofInt, h1, Nat.and_two_pow_sub_one_eq_mod]
  show IntKind.i64.wrap ((BitVec.ofInt 64 n &&& BitVec.ofInt 64 ((2 ^ k - 1 : Nat) : Int)).toNat : Nat) = _
  have e2 : (((n % ((2 ^ 64 : Nat) : Int)).toNat % 2 ^ k : Nat) : Int) = n % ((2 ^ k : Nat) : Int) := by
    rw [Int.natCast_emod, Int.toNat_of_nonneg (Int.emod_nonneg _ (by omega)), hd, Int.natCast_mul, Int.emod_emod_of_dvd _ (Int.dvd_mul_right _ _)]
  have hl : (((n % ((2 ^ 64 : Nat) : Int)).toNat % 2 ^ k : Nat)) < 2 ^ k := Nat.mod_lt _ hp0
  rw [key, IntKind.wrap_i64, ← e2]
  omega
end Go.Proofs.YtagnbdenecphcaaDoor
/-! The shelf's contracts of strings.Split and strings.Cut, laid at this translation. -/
namespace Go.Proofs.YtagnbdenecphcaaDoor
open Go.Shelf Go.RowKit Go.Proofs
set_option maxRecDepth 100000
def ren146 : Go.Shelf.Ren := ⟨fun | 138 => 76 | 143 => 77 | 146 => 60 | 195 => 82 | 197 => 83 | 217 => 78 | 218 => 84 | 219 => 74 | 221 => 72 | 224 => 80 | 225 => 79 | 260 => 87 | 266 => 85 | 267 => 81 | 268 => 75 | 314 => 86 | n => n, fun | 0 => 0 | 3 => 3 | 4 => 4 | 5 => 5 | 9 => 9 | 21 => 21 | 31 => 111 | 46 => 25 | 51 => 130 | 105 => 128 | 119 => 133 | 138 => 135 | 139 => 136 | 146 => 131 | n => n, fun | 1 => 0 | 3 => 1 | 4 => 2 | n => n⟩
theorem lays146 : Go.Proofs.Lays.n146 Tryd.prog ren146 := {
  mixed := by kernel_rfl
  f138 := Tryd.func76.trans (congrArg some (by kernel_rfl))
  f143 := Tryd.func77.trans (congrArg some (by kernel_rfl))
  f146 := Tryd.func60.trans (congrArg some (by kernel_rfl))
  f195 := Tryd.func82.trans (congrArg some (by kernel_rfl))
  f197 := Tryd.func83.trans (congrArg some (by kernel_rfl))
  f217 := Tryd.func78.trans (congrArg some (by kernel_rfl))
  f218 := Tryd.func84.trans (congrArg some (by kernel_rfl))
  f219 := Tryd.func74.trans (congrArg some (by kernel_rfl))
  f221 := Tryd.func72.trans (congrArg some (by kernel_rfl))
  f224 := Tryd.func80.trans (congrArg some (by kernel_rfl))
  f225 := Tryd.func79.trans (congrArg some (by kernel_rfl))
  f260 := Tryd.func87.trans (congrArg some (by kernel_rfl))
  f266 := Tryd.func85.trans (congrArg some (by kernel_rfl))
  f267 := Tryd.func81.trans (congrArg some (by kernel_rfl))
  f268 := Tryd.func75.trans (congrArg some (by kernel_rfl))
  f314 := Tryd.func86.trans (congrArg some (by kernel_rfl))
  t0 := Tryd.underlying0
  a0 := Tryd.isAgg0
  z0 := Tryd.sizeOf0
  v0 := Tryd.zeroValue0
  t3 := Tryd.underlying3
  a3 := Tryd.isAgg3
  z3 := Tryd.sizeOf3
  v3 := Tryd.zeroValue3
  t4 := Tryd.underlying4
  a4 := Tryd.isAgg4
  z4 := Tryd.sizeOf4
  v4 := Tryd.zeroValue4
  t5 := Tryd.underlying5
  a5 := Tryd.isAgg5
  z5 := Tryd.sizeOf5
  v5 := Tryd.zeroValue5
  t9 := Tryd.underlying9
  a9 := Tryd.isAgg9
  z9 := Tryd.sizeOf9
  v9 := Tryd.zeroValue9
  t21 := Tryd.underlying21
  a21 := Tryd.isAgg21
  z21 := Tryd.sizeOf21
  v21 := Tryd.zeroValue21
  t31 := Tryd.underlying111
  a31 := Tryd.isAgg111
  z31 := Tryd.sizeOf111
  v31 := Tryd.zeroValue111
  t46 := Tryd.underlying25
  a46 := Tryd.isAgg25
  z46 := Tryd.sizeOf25
  v46 := Tryd.zeroValue25
  t51 := Tryd.underlying130
  a51 := Tryd.isAgg130
  z51 := Tryd.sizeOf130
  v51 := Tryd.zeroValue130
  t105 := Tryd.underlying128
  a105 := Tryd.isAgg128
  z105 := Tryd.sizeOf128
  v105 := Tryd.zeroValue128
  t119 := Tryd.underlying133
  a119 := Tryd.isAgg133
  z119 := Tryd.sizeOf133
  t138 := Tryd.underlying135
  a138 := Tryd.isAgg135
  z138 := Tryd.sizeOf135
  v138 := Tryd.zeroValue135
  t139 := Tryd.underlying136
  a139 := Tryd.isAgg136
  z139 := Tryd.sizeOf136
  v139 := Tryd.zeroValue136
  t146 := Tryd.underlying131
  a146 := Tryd.isAgg131
  z146 := Tryd.sizeOf131
  v146 := Tryd.zeroValue131
  g1 := by kernel_rfl
  g3 := by kernel_rfl
  g4 := by kernel_rfl }
def ren145 : Go.Shelf.Ren := ⟨fun | 145 => 59 | 217 => 78 | 219 => 74 | 220 => 71 | 224 => 80 | 225 => 79 | 266 => 85 | 267 => 81 | 314 => 86 | n => n, fun | 3 => 3 | 4 => 4 | 5 => 5 | 9 => 9 | 46 => 25 | 51 => 130 | 59 => 109 | 146 => 131 | n => n, fun | 1 => 0 | n => n⟩
theorem lays145 : Go.Proofs.Lays.n145 Tryd.prog ren145 := {
  mixed := by kernel_rfl
  f145 := Tryd.func59.trans (congrArg some (by kernel_rfl))
  f217 := Tryd.func78.trans (congrArg some (by kernel_rfl))
  f219 := Tryd.func74.trans (congrArg some (by kernel_rfl))
  f220 := Tryd.func71.trans (congrArg some (by kernel_rfl))
  f224 := Tryd.func80.trans (congrArg some (by kernel_rfl))
  f225 := Tryd.func79.trans (congrArg some (by kernel_rfl))
  f266 := Tryd.func85.trans (congrArg some (by kernel_rfl))
  f267 := Tryd.func81.trans (congrArg some (by kernel_rfl))
  f314 := Tryd.func86.trans (congrArg some (by kernel_rfl))
  t3 := Tryd.underlying3
  a3 := Tryd.isAgg3
  z3 := Tryd.sizeOf3
  v3 := Tryd.zeroValue3
  t4 := Tryd.underlying4
  a4 := Tryd.isAgg4
  z4 := Tryd.sizeOf4
  v4 := Tryd.zeroValue4
  t5 := Tryd.underlying5
  a5 := Tryd.isAgg5
  z5 := Tryd.sizeOf5
  v5 := Tryd.zeroValue5
  t9 := Tryd.underlying9
  a9 := Tryd.isAgg9
  z9 := Tryd.sizeOf9
  v9 := Tryd.zeroValue9
  t46 := Tryd.underlying25
  a46 := Tryd.isAgg25
  z46 := Tryd.sizeOf25
  v46 := Tryd.zeroValue25
  t51 := Tryd.underlying130
  a51 := Tryd.isAgg130
  z51 := Tryd.sizeOf130
  v51 := Tryd.zeroValue130
  t59 := Tryd.underlying109
  a59 := Tryd.isAgg109
  z59 := Tryd.sizeOf109
  v59 := Tryd.zeroValue109
  t146 := Tryd.underlying131
  a146 := Tryd.isAgg131
  z146 := Tryd.sizeOf131
  v146 := Tryd.zeroValue131
  g1 := by kernel_rfl }
/-- the variable internal/bytealg.MaxLen holds an int -/
def MaxLenIs (w : World) (m : Int) : Prop := w.cell? ⟨0, 0, none⟩ = some (.int .i64 m)
/-- the cells of a row of texts -/
def textsRow (l : List ByteArray) : Array Value := (l.map Value.string).toArray
/-- strings.Split at one byte -/
theorem splitAt_any (s : ByteArray) (c : UInt8) (m : Int) (w : World) (hs : s.size < 4294967281) (hm : MaxLenIs w m) :
    Calls Tryd.prog 60 #[.string s, .string (bytesOf [c])] w fun e w' =>
      e = .returned (.slice (some ⟨w.heap.size, 0, none⟩) (Lib.countB s (bytesOf [c]) + 1) (Lib.countB s (bytesOf [c]) + 1)) ∧ w' = w.alloc (.cells (textsRow (Lib.splitB (bytesOf [c]) 0 (Lib.countB s (bytesOf [c])) s)) 9) :=
  Any.strings_Split lays146 (by kernel_rfl) s _ m w hs hm (by rw [bytesOf_size]; simp)
/-- strings.Cut -/
theorem cut_any (s sep : ByteArray) (m : Int) (w : World) (hs : s.size < 4294967281) (hm : MaxLenIs w m) :
    Calls Tryd.prog 59 #[.string s, .string sep] w fun e w' => e = .returned (.tuple #[.string ⟨(Lib.cut s.data.toList sep.data.toList).1.toArray⟩, .string ⟨(Lib.cut s.data.toList sep.data.toList).2.1.toArray⟩, .bool (Lib.cut s.data.toList sep.data.toList).2.2]) ∧ ∃ n, w' = w.drewN n :=
  Any.strings_Cut lays145 s sep m w hs hm
end Go.Proofs.YtagnbdenecphcaaDoor
/-! Slices of values of one or many cells: read, owned, appended; worlds in which only some blocks have turned. -/
namespace Go.Proofs.YtagnbdenecphcaaDoor
open Go.RowKit
set_option linter.unusedVariables false
/-- nothing has turned but blocks of S -/
structure Only (S : Nat → Prop) (w w' : World) : Prop where
  os : w'.os = w.os
  tape : w'.tape = w.tape
  output : w'.output = w.output
  size : w.heap.size ≤ w'.heap.size
  block : ∀ k, k < w.heap.size → ¬ S k → w'.heap[k]? = w.heap[k]?
section
variable {S T : Nat → Prop} {w w1 w2 : World}
theorem Only.refl (S : Nat → Prop) (w : World) : Only S w w := ⟨rfl, rfl, rfl, Nat.le_refl _, fun _ _ _ => rfl⟩
theorem Only.trans (h : Only S w w1) (k : Only S w1 w2) : Only S w w2 :=
  ⟨k.os.trans h.os, k.tape.trans h.tape, k.output.trans h.output, Nat.le_trans h.size k.size, fun i hi hn => (k.block i (Nat.lt_of_lt_of_le hi h.size) hn).trans (h.block i hi hn)⟩
theorem Only.mono (h : Only S w w1) (hs : ∀ k, k < w.heap.size → S k → T k) : Only T w w1 := ⟨h.os, h.tape, h.output, h.size, fun k hk hn => h.block k hk fun e => hn (hs k hk e)⟩
theorem Only.ofBelow (h : Below w.heap.size w w1) : Only S w w1 := ⟨h.os, h.tape, h.output, h.size, fun k hk _ => h.block k hk⟩
theorem Only.below (h : Only S w w1) {B : Nat} (hB : B ≤ w.heap.size) (hs : ∀ k, S k → B ≤ k) : Below B w w1 :=
  ⟨h.os, h.tape, h.output, h.size, fun k hk => h.block k (by omega) fun e => by have := hs k e; omega⟩
/-- a step that turns nothing of what was there when it began -/
theorem Only.then (h : Only S w w1) (k : Below w1.heap.size w1 w2) : Only S w w2 := h.trans (Only.ofBelow k)
/-- a step whose blocks are of S, or were not there at the beginning -/
theorem Only.and (h : Only S w w1) (k : Only T w1 w2) (hs : ∀ i, T i → S i ∨ w.heap.size ≤ i) : Only S w w2 :=
  ⟨k.os.trans h.os, k.tape.trans h.tape, k.output.trans h.output, Nat.le_trans h.size k.size, fun i hi hn =>
    (k.block i (Nat.lt_of_lt_of_le hi h.size) (fun e => by rcases hs i e with h | h; exact hn h; omega)).trans (h.block i hi hn)⟩
theorem Only.alloc (h : Only S w w1) (o : Obj) : Only S w (w1.alloc o) := h.then ((Below.refl _ _).alloc (Nat.le_refl _) o)
theorem Only.drew (h : Only S w w1) : Only S w w1.drew := h.then (Below.refl _ _).drew
theorem Only.set (h : Only S w w1) {a : Addr} (ha : S a.block ∨ w.heap.size ≤ a.block) (x : Value) : Only S w (w1.setCell a x) :=
  ⟨h.os, h.tape, h.output, by simpa [World.setCell] using h.size, fun k hk hn => by
    rw [Below.heap_setCell _ _ _ _ (fun e => by subst e; rcases ha with h | h; exact hn h; omega)]
    exact h.block k hk hn⟩
theorem Only.cell (h : Only S w w1) {a : Addr} {v : Value} (hc : w.cell? a = some v) (hn : ¬ S a.block) : w1.cell? a = some v :=
  (World.cell?_of_block (h.block a.block (block_lt_of_cell hc) hn)).trans hc
theorem Only.heap (h : Only S w w1) {k : Nat} {o : Obj} (hk : w.heap[k]? = some o) (hn : ¬ S k) : w1.heap[k]? = some o :=
  (h.block k (Array.getElem?_eq_some_iff.1 hk).1 hn).trans hk
end
theorem below_of {w w' : World} (h : Below w.heap.size w w') {k : Nat} {o : Obj} (hk : w.heap[k]? = some o) : w'.heap[k]? = some o :=
  (h.block k (Array.getElem?_eq_some_iff.1 hk).1).trans hk
/-- an element type of slices, and how its values are read -/
structure Elem (P : Program) (α : Type) where
  tS : TypeId
  tE : TypeId
  size : Nat
  bytes : Nat
  z : Value
  enc : α → List Value
  und : P.underlying tS = some (.slice tE)
  info : (P.info? tE).map (fun i => (i.zero, i.size, i.bytes)) = some (some z, size, bytes)
  zs : z.cells.size = size
  len : ∀ a, (enc a).length = size
  one : ∀ a, ∀ u ∈ enc a, u.oneCell' = true
  pos : 0 < size
section
variable {P : Program} {α : Type} (E : Elem P α)
theorem Elem.length (l : List α) : (l.flatMap E.enc).length = l.length * E.size := by
  induction l with
  | nil => simp
  | cons a l ih => rw [List.flatMap_cons, List.length_append, ih, E.len, List.length_cons, Nat.add_mul]; omega
theorem Elem.at (l : List α) : ∀ j (h : j < l.length) i, i < E.size → (l.flatMap E.enc)[j * E.size + i]? = (E.enc l[j])[i]? := by
  induction l with
  | nil => intro j h; simp at h
  | cons a l ih =>
    intro j h i hi
    rw [List.flatMap_cons]
    cases j with
    | zero => rw [Nat.zero_mul, Nat.zero_add, List.getElem?_append_left (by rw [E.len]; exact hi)]; rfl
    | succ j =>
      rw [List.getElem?_append_right (by rw [E.len, Nat.add_mul]; omega), E.len]
      have e : (j + 1) * E.size + i - E.size = j * E.size + i := by rw [Nat.add_mul]; omega
      rw [e]
      exact ih j (by simpa using h) i hi
theorem Elem.one' (l : List α) : ∀ u ∈ l.flatMap E.enc, u.oneCell' = true := by
  intro u hu
  obtain ⟨a, _, h⟩ := List.mem_flatMap.1 hu
  exact E.one a u h
/-- v is a slice that reads as l -/
def SeqAt (w : World) (v : Value) (l : List α) : Prop :=
  (l = [] ∧ v = .slice none 0 0) ∨ ∃ g o c, v = .slice (some ⟨g, o, none⟩) l.length c ∧ l.length ≤ c ∧ c ≤ maxLen ∧ g < w.heap.size ∧ ∀ j (h : j < l.length) i, i < E.size → w.cell? ⟨g, o + j * E.size + i, none⟩ = (E.enc l[j])[i]?
/-- v is a slice of the call's own (nil, or from block base on), that reads as l -/
def OwnE (w : World) (base : Nat) (v : Value) (l : List α) : Prop := w.ownsRow base E.tE E.size v l.length (l.flatMap E.enc)
variable {E} {w w' : World} {v : Value} {l : List α} {bs : Nat}
theorem SeqAt.nil (E : Elem P α) (w : World) : SeqAt E w (.slice none 0 0) [] := .inl ⟨rfl, rfl⟩
theorem SeqAt.lt (h : SeqAt E w v l) : ∀ k, v.ownBlock = some k → k < w.heap.size := by
  intro k hk
  rcases h with ⟨_, rfl⟩ | ⟨g, o, c, rfl, _, _, hg, _⟩
  · cases hk
  · cases hk; exact hg
theorem SeqAt.only {S : Nat → Prop} (h : SeqAt E w v l) (ho : Only S w w') (hn : ∀ k, v.ownBlock = some k → ¬ S k) : SeqAt E w' v l := by
  rcases h with h | ⟨g, o, c, rfl, h1, h2, hg, hc⟩
  · exact .inl h
  · refine .inr ⟨g, o, c, rfl, h1, h2, Nat.lt_of_lt_of_le hg ho.size, fun j hj i hi => ?_⟩
    rw [← hc j hj i hi]
    exact World.cell?_of_block (ho.block g hg (hn g rfl))
theorem SeqAt.below (h : SeqAt E w v l) (hb : Below w.heap.size w w') : SeqAt E w' v l := h.only (S := fun _ => False) (Only.ofBelow hb) (fun _ _ h => h)
theorem SeqAt.form (h : SeqAt E w v l) : ∃ a c, v = .slice a l.length c ∧ l.length ≤ c ∧ c ≤ maxLen := by
  rcases h with ⟨rfl, rfl⟩ | ⟨g, o, c, rfl, h1, h2, _⟩
  · exact ⟨none, 0, rfl, Nat.le_refl _, Nat.zero_le _⟩
  · exact ⟨_, c, rfl, h1, h2⟩
theorem SeqAt.le (h : SeqAt E w v l) : l.length ≤ 9223372036854775807 := by
  obtain ⟨a, c, _, h1, h2⟩ := h.form
  unfold maxLen at h2; omega
theorem OwnE.nil (E : Elem P α) (w : World) (b0 : Nat) : OwnE E w b0 (.slice none 0 0) [] := ⟨by simp, .inl ⟨rfl, rfl⟩⟩
theorem OwnE.block (h : OwnE E w bs v l) : ∀ k, v.ownBlock = some k → bs ≤ k := by
  intro k hk
  rcases h.2 with ⟨rfl, _⟩ | ⟨g, cap, cur, rfl, hg, _⟩
  · cases hk
  · cases hk; exact hg
theorem OwnE.lt (h : OwnE E w bs v l) : ∀ k, v.ownBlock = some k → k < w.heap.size := by
  intro k hk
  rcases h.2 with ⟨rfl, _⟩ | ⟨g, cap, cur, rfl, hg, hh, _⟩
  · cases hk
  · cases hk; exact (Array.getElem?_eq_some_iff.1 hh).1
theorem OwnE.only {S : Nat → Prop} (h : OwnE E w bs v l) (ho : Only S w w') (hn : ∀ k, v.ownBlock = some k → ¬ S k) : OwnE E w' bs v l := by
  refine ⟨h.1, ?_⟩
  rcases h.2 with h2 | ⟨g, cap, cur, rfl, hg, hh, r⟩
  · exact .inl h2
  · exact .inr ⟨g, cap, cur, rfl, hg, ho.heap hh (hn g rfl), r⟩
theorem OwnE.below (h : OwnE E w bs v l) (hb : Below w.heap.size w w') : OwnE E w' bs v l := h.only (S := fun _ => False) (Only.ofBelow hb) (fun _ _ h => h)
theorem OwnE.base {b' : Nat} (h : OwnE E w bs v l) (hb : b' ≤ bs) : OwnE E w b' v l := by
  refine ⟨h.1, ?_⟩
  rcases h.2 with h2 | ⟨g, cap, cur, hv, hg, r⟩
  · exact .inl h2
  · exact .inr ⟨g, cap, cur, hv, by omega, r⟩
theorem OwnE.at (h : OwnE E w bs v l) : SeqAt E w v l := by
  rcases h.2 with ⟨rfl, h0⟩ | ⟨g, cap, cur, rfl, hg, hh, hn, hm, hs, ht⟩
  · exact .inl ⟨List.eq_nil_of_length_eq_zero h0, rfl⟩
  · refine .inr ⟨g, 0, cap, rfl, hn, hm, (Array.getElem?_eq_some_iff.1 hh).1, fun j hj i hi => ?_⟩
    rw [← E.at l j hj i hi, ← ht, List.getElem?_take]
    have hle : j * E.size + E.size ≤ l.length * E.size := by
      have := Nat.mul_le_mul_right E.size (show j + 1 ≤ l.length by omega)
      rw [Nat.add_mul] at this; omega
    rw [if_pos (by omega), Nat.zero_add]
    simp [World.cell?, hh]
theorem info_of (E : Elem P α) : ∃ i, P.info? E.tE = some i ∧ i.zero = some E.z ∧ i.size = E.size ∧ i.bytes = E.bytes := by
  have h := E.info
  cases e : P.info? E.tE with
  | none => rw [e] at h; cases h
  | some i => rw [e] at h; simp at h; exact ⟨i, rfl, h.1, h.2.1, h.2.2⟩
/-- append of one value that was just laid in a row of its own -/
theorem wpList_appE {ops : Array Oper} {rest : List Oper} {o : Oper} {act : Act} {w : World} {Q : Exit → Act → World → Prop} (E : Elem P α) (hgd : o.guard = none) (s x : Operand)
    (ho : o.op = .call { callee := .builtin .append, args := #[s, x], argTypes := #[E.tS, E.tS] })
    (W0 : World) (v : Value) (l : List α) (a : α) (c : Nat) (hown : OwnE E w W0.heap.size v l) (hs : act.eval s = v) (B : Nat) (hx : act.eval x = .slice (some ⟨B, 0, none⟩) 1 c) (hB : B = w.heap.size)
    (hlen : (l.length + 1) * E.bytes ≤ 140737488355328) (hbel : Below W0.heap.size W0 w) (hb1 : 1 ≤ E.bytes)
    (h : ∀ v' w', OwnE E w' W0.heap.size v' (l ++ [a]) → Below W0.heap.size W0 w' → Only (fun k => v.ownBlock = some k) w w' → (v'.ownBlock = v.ownBlock ∨ ∃ k, v'.ownBlock = some k ∧ w.heap.size ≤ k) → wpList P ops Q rest (act.put o.dst v') w') :
    wpList P ops Q (o :: rest) act (w.alloc (.cells (E.enc a).toArray E.tE)) := by
  subst hB
  obtain ⟨i0, hi, hz0, hz1, hz2⟩ := info_of E
  have hb2 : Below W0.heap.size W0 (w.alloc (.cells (E.enc a).toArray E.tE)) := allocB hbel _
  refine wpList_append_own_at _ hgd s x _ ho W0.heap.size E.tE i0 E.z E.size E.bytes E.und hi hz0 hz1 hz2 E.zs E.pos v l.length (l.flatMap E.enc) hs (hown.below ((Below.refl _ _).alloc (Nat.le_refl _) _)) ⟨w.heap.size, 0, none⟩ 1 c (E.enc a) hx (by rw [E.len, Nat.one_mul]) ?_ (E.one a) ?_ hlen hb2.size ?_
  · intro j u hu
    have hadd : (⟨w.heap.size, 0, none⟩ : Addr).add j = ⟨w.heap.size, j, none⟩ := by unfold Addr.add; split <;> simp_all
    rw [hadd, World.cell?_alloc_new]
    simpa using hu
  · have := Nat.le_mul_of_pos_right (l.length + 1) hb1
    simp only [maxLen]; omega
  · intro v' w' hown' hg _ hat
    refine h v' w' ?_ (hb2.grown hg hb2.size hown.block) ?_ (hat.imp id fun e => ⟨_, e, by simp⟩)
    · unfold OwnE
      rw [List.flatMap_append, List.length_append]
      simpa using hown'
    · refine (((Only.refl _ w).alloc (.cells (E.enc a).toArray E.tE)).and (T := fun k => v.ownBlock = some k) ⟨hg.os, hg.tape, hg.output, hg.size, fun k hk hn => hg.block k hk fun e => hn e.symm⟩ fun i hi => .inl hi)
/-- append of all of a slice -/
theorem wpList_appSeq {ops : Array Oper} {rest : List Oper} {o : Oper} {act : Act} {w : World} {Q : Exit → Act → World → Prop} (E : Elem P α) (hgd : o.guard = none) (s x : Operand)
    (ho : o.op = .call { callee := .builtin .append, args := #[s, x], argTypes := #[E.tS, E.tS] })
    (W0 : World) (v v2 : Value) (l l2 : List α) (hown : OwnE E w W0.heap.size v l) (hsrc : SeqAt E w v2 l2) (hs : act.eval s = v) (hx : act.eval x = v2)
    (hlen : (l.length + l2.length) * E.bytes ≤ 140737488355328) (hbel : Below W0.heap.size W0 w) (hb1 : 1 ≤ E.bytes)
    (h : ∀ v' w', OwnE E w' W0.heap.size v' (l ++ l2) → Below W0.heap.size W0 w' → Only (fun k => v.ownBlock = some k) w w' → (v'.ownBlock = v.ownBlock ∨ ∃ k, v'.ownBlock = some k ∧ w.heap.size ≤ k) → wpList P ops Q rest (act.put o.dst v') w') :
    wpList P ops Q (o :: rest) act w := by
  obtain ⟨i0, hi, hz0, hz1, hz2⟩ := info_of E
  rcases hsrc with ⟨rfl, rfl⟩ | ⟨g, o2, c, rfl, h1, h2, hg, hc⟩
  · exact wpList_append_own_none hgd s x _ ho W0.heap.size E.tE i0 E.size E.und hi v l.length (l.flatMap E.enc) hs hown hx (h v w (by rw [List.append_nil]; exact hown) hbel (Only.refl _ _) (.inl rfl))
  · refine wpList_append_own_at _ hgd s x _ ho W0.heap.size E.tE i0 E.z E.size E.bytes E.und hi hz0 hz1 hz2 E.zs E.pos v l.length (l.flatMap E.enc) hs hown ⟨g, o2, none⟩ l2.length c (l2.flatMap E.enc) hx (E.length l2) ?_ (E.one' l2) ?_ hlen hbel.size ?_
    · intro j u hu
      have hj : j < l2.length * E.size := by
        have := (List.getElem?_eq_some_iff.1 hu).1
        rw [E.length] at this; exact this
      have hdm := Nat.div_add_mod j E.size
      have hm := Nat.mod_lt j E.pos
      have hd : j / E.size < l2.length := Nat.div_lt_of_lt_mul (by rw [Nat.mul_comm]; exact hj)
      have hadd : (⟨g, o2, none⟩ : Addr).add j = ⟨g, o2 + j, none⟩ := by unfold Addr.add; split <;> simp_all
      have hjj : j = j / E.size * E.size + j % E.size := by rw [Nat.mul_comm]; omega
      have hcj := hc (j / E.size) hd (j % E.size) hm
      rw [← E.at l2 (j / E.size) hd (j % E.size) hm, ← hjj, hu, Nat.add_assoc, ← hjj] at hcj
      rw [hadd]; exact hcj
    · have := Nat.le_mul_of_pos_right (l.length + l2.length) hb1
      simp only [maxLen]; omega
    · intro v' w' hown' hg' _ hat
      refine h v' w' ?_ (hbel.grown hg' hbel.size hown.block) ?_ (hat.imp id fun e => ⟨_, e, Nat.le_refl _⟩)
      · unfold OwnE
        rw [List.flatMap_append, List.length_append]
        exact hown'
      · exact ⟨hg'.os, hg'.tape, hg'.output, hg'.size, fun k hk hn => hg'.block k hk fun e => hn e.symm⟩
end
/-- a region that draws: reads and quiet calls, then one operation that writes -/
theorem wp_stillTail {P : Program} {id : Nat} {Q : Exit → Act → World → Prop} {a : Act} {w : World} {l : List Oper} (n : Nat) (hm : P.follows .mixedOrders = true) (hB : Region.lexTailB .any l.toArray n = true)
    (h : wpStill P l.toArray w.drew (fun a' => wpList P l.toArray Q (l.drop n) a' w.drew) (l.take n) a) : (Code.region id l.toArray true).wp P Q a w :=
  wp_region_still_tail n hm hB h
/-- the same, nothing is written -/
theorem wp_stillAll {P : Program} {id : Nat} {Q : Exit → Act → World → Prop} {a : Act} {w : World} {l : List Oper} (hm : P.follows .mixedOrders = true) (hB : Region.lexB .any l.toArray = true)
    (h : wpStill P l.toArray w.drew (fun a' => Q .normal a' w.drew) l a) : (Code.region id l.toArray true).wp P Q a w :=
  wp_region_still_lit hm hB h
end Go.Proofs.YtagnbdenecphcaaDoor
/-! Slices of bytes that a call makes by appending. -/
namespace Go.Proofs.YtagnbdenecphcaaDoor
open Go.RowKit
theorem infoU8 : (Tryd.prog.info? 5).map (fun i => (i.zero, i.size, i.bytes)) = some (some (.int .u8 0), 1, 1) := by kernel_rfl
/-- v is a slice of bytes of the call's own (nil, or from block base on), that reads as l -/
def Own (w : World) (base : Nat) (v : Value) (l : List UInt8) : Prop := w.ownsRow base 5 1 v l.length (Lib.byteCells l)
theorem Own.nil (w : World) (base : Nat) : Own w base (.slice none 0 0) [] := ⟨rfl, .inl ⟨rfl, rfl⟩⟩
theorem Own.block {w : World} {base : Nat} {v : Value} {l : List UInt8} (h : Own w base v l) : ∀ k, v.ownBlock = some k → base ≤ k := by
  intro k hk
  rcases h.2 with ⟨rfl, _⟩ | ⟨g, cap, cur, rfl, hg, _⟩
  · cases hk
  · cases hk; exact hg
theorem Own.below {w w' : World} {base : Nat} {v : Value} {l : List UInt8} (h : Own w base v l) (hb : Below w.heap.size w w') : Own w' base v l := by
  refine ⟨h.1, ?_⟩
  rcases h.2 with h2 | ⟨g, cap, cur, hv, hg, hh, r⟩
  · exact .inl h2
  · exact .inr ⟨g, cap, cur, hv, hg, (hb.block g (Array.getElem?_eq_some_iff.1 hh).1).trans hh, r⟩
theorem Own.form {w : World} {base : Nat} {v : Value} {l : List UInt8} (h : Own w base v l) : ∃ a c, v = .slice a l.length c := by
  rcases h.2 with ⟨rfl, h0⟩ | ⟨g, cap, cur, rfl, _⟩
  · exact ⟨none, 0, by rw [h0]⟩
  · exact ⟨_, _, rfl⟩
theorem Own.conv {w : World} {base : Nat} {v : Value} {l : List UInt8} (h : Own w base v l) : (convert 77 9 v).run Tryd.prog w = .ok (.string (bytesOf l)) w := by
  rcases h.2 with ⟨rfl, h0⟩ | ⟨g, cap, cur, rfl, hg, hh, hn, hm, hs, ht⟩
  · have : l = [] := List.eq_nil_of_length_eq_zero h0
    subst this
    exact run_convert_bytes_nil w _ _ Tryd.underlying77 Tryd.underlying5 0 0 _ Tryd.underlying9
  · refine run_convert_bytes_back w _ _ _ ⟨g, 0, none⟩ cap l Tryd.underlying77 Tryd.underlying5 Tryd.underlying9 fun j hj => ?_
    have hadd : (⟨g, 0, none⟩ : Addr).add j = ⟨g, j, none⟩ := by unfold Addr.add; split <;> simp_all
    rw [hadd]
    have e : cur[j]? = (Lib.byteCells l)[j]? := by
      rw [← ht, List.getElem?_take, if_pos (by omega)]; simp
    simp [World.cell?, hh, e, Lib.byteCells, hj]
/-- append of bytes that were just laid in a row of their own -/
theorem wpList_app {ops : Array Oper} {rest : List Oper} {o : Oper} {a : Act} {w : World} {Q : Exit → Act → World → Prop} (hgd : o.guard = none) (s x : Operand)
    (ho : o.op = .call { callee := .builtin .append, args := #[s, x], argTypes := #[77, 77] })
    (W0 : World) (v : Value) (l news : List UInt8) (n c : Nat) (cells : Array Value) (hown : Own w W0.heap.size v l) (hs : a.eval s = v) (hx : a.eval x = .slice (some ⟨w.heap.size, 0, none⟩) n c)
    (hc : cells = (Lib.byteCells news).toArray) (hn : n = news.length) (hlen : l.length + news.length ≤ 140737488355328) (hbel : Below W0.heap.size W0 w)
    (h : ∀ v' w', Own w' W0.heap.size v' (l ++ news) → Below W0.heap.size W0 w' → wpList Tryd.prog ops Q rest (a.put o.dst v') w') :
    wpList Tryd.prog ops Q (o :: rest) a (w.alloc (.cells cells 5)) := by
  subst hc; subst hn
  obtain ⟨i0, hi, hz0, hz1, hz2⟩ := info_parts infoU8
  have hb2 : Below W0.heap.size W0 (w.alloc (.cells (Lib.byteCells news).toArray 5)) := allocB hbel _
  refine wpList_append_own _ hgd s x _ ho W0.heap.size 5 i0 (.int .u8 0) 1 1 Tryd.underlying77 hi hz0 hz1 hz2 rfl (by decide) v l.length (Lib.byteCells l) hs (hown.below ((Below.refl _ _).alloc (Nat.le_refl _) _)) ⟨w.heap.size, 0, none⟩ news.length c (Lib.byteCells news) hx (by rw [Lib.byteCells_length, Nat.mul_one]) ?_ ?_ ?_ ?_ ?_ ?_
  · intro j u hu
    have hadd : (⟨w.heap.size, 0, none⟩ : Addr).add j = ⟨w.heap.size, j, none⟩ := by unfold Addr.add; split <;> simp_all
    rw [hadd, World.cell?_alloc_new]
    simpa using hu
  · intro u hu
    obtain ⟨b, _, rfl⟩ := List.mem_map.1 hu
    rfl
  · simp only [maxLen]; omega
  · omega
  · exact hb2.size
  · intro v' w' hown' hg _
    refine h v' w' ?_ (hb2.grown hg hb2.size hown.block)
    have e : Lib.byteCells (l ++ news) = Lib.byteCells l ++ Lib.byteCells news := by simp [Lib.byteCells]
    unfold Own
    rw [e, List.length_append]
    exact hown'
end Go.Proofs.YtagnbdenecphcaaDoor
/-! Slices of texts: read, appended; SameTexts. -/
namespace Go.Proofs.YtagnbdenecphcaaDoor
open Go.RowKit
theorem infoStr : (Tryd.prog.info? 9).map (fun i => (i.zero, i.size, i.bytes)) = some (some (.string ByteArray.empty), 1, 16) := by kernel_rfl
/-- v is a slice of texts that reads as l -/
def TextsAt (w : World) (v : Value) (l : List ByteArray) : Prop :=
  (l = [] ∧ v = .slice none 0 0) ∨ ∃ g o c, v = .slice (some ⟨g, o, none⟩) l.length c ∧ ∀ j (h : j < l.length), w.cell? ⟨g, o + j, none⟩ = some (.string l[j])
theorem TextsAt.below {w w' : World} {v : Value} {l : List ByteArray} (h : TextsAt w v l) (hb : Below w.heap.size w w') : TextsAt w' v l := by
  rcases h with h | ⟨g, o, c, rfl, hc⟩
  · exact .inl h
  · refine .inr ⟨g, o, c, rfl, fun j hj => (hb.cell ?_).trans (hc j hj)⟩
    exact block_lt_of_cell (hc j hj)
/-- v is a slice of texts of the call's own (nil, or from block base on), that reads as l -/
def OwnT (w : World) (base : Nat) (v : Value) (l : List ByteArray) : Prop := w.ownsRow base 9 1 v l.length (l.map Value.string)
theorem OwnT.nil (w : World) (base : Nat) : OwnT w base (.slice none 0 0) [] := ⟨rfl, .inl ⟨rfl, rfl⟩⟩
theorem OwnT.block {w : World} {base : Nat} {v : Value} {l : List ByteArray} (h : OwnT w base v l) : ∀ k, v.ownBlock = some k → base ≤ k := by
  intro k hk
  rcases h.2 with ⟨rfl, _⟩ | ⟨g, cap, cur, rfl, hg, _⟩
  · cases hk
  · cases hk; exact hg
theorem OwnT.below {w w' : World} {base : Nat} {v : Value} {l : List ByteArray} (h : OwnT w base v l) (hb : Below w.heap.size w w') : OwnT w' base v l := by
  refine ⟨h.1, ?_⟩
  rcases h.2 with h2 | ⟨g, cap, cur, hv, hg, hh, r⟩
  · exact .inl h2
  · exact .inr ⟨g, cap, cur, hv, hg, (hb.block g (Array.getElem?_eq_some_iff.1 hh).1).trans hh, r⟩
theorem OwnT.form {w : World} {base : Nat} {v : Value} {l : List ByteArray} (h : OwnT w base v l) : ∃ a c, v = .slice a l.length c := by
  rcases h.2 with ⟨rfl, h0⟩ | ⟨g, cap, cur, rfl, _⟩
  · exact ⟨none, 0, by rw [h0]⟩
  · exact ⟨_, _, rfl⟩
theorem OwnT.at {w : World} {base : Nat} {v : Value} {l : List ByteArray} (h : OwnT w base v l) : TextsAt w v l := by
  rcases h.2 with ⟨rfl, h0⟩ | ⟨g, cap, cur, rfl, hg, hh, hn, hm, hs, ht⟩
  · exact .inl ⟨List.eq_nil_of_length_eq_zero h0, rfl⟩
  · refine .inr ⟨g, 0, cap, rfl, fun j hj => ?_⟩
    have e : cur[j]? = (l.map Value.string)[j]? := by
      rw [← ht, List.getElem?_take, if_pos (by omega)]; simp
    simp [World.cell?, hh, e, hj]
/-- append of one text that was just laid in a row of its own -/
theorem wpList_appT {ops : Array Oper} {rest : List Oper} {o : Oper} {a : Act} {w : World} {Q : Exit → Act → World → Prop} (hgd : o.guard = none) (s x : Operand)
    (ho : o.op = .call { callee := .builtin .append, args := #[s, x], argTypes := #[111, 111] })
    (W0 : World) (v : Value) (l : List ByteArray) (p : ByteArray) (c : Nat) (hown : OwnT w W0.heap.size v l) (hs : a.eval s = v) (hx : a.eval x = .slice (some ⟨w.heap.size, 0, none⟩) 1 c)
    (hlen : (l.length + 1) * 16 ≤ 140737488355328) (hbel : Below W0.heap.size W0 w)
    (h : ∀ v' w', OwnT w' W0.heap.size v' (l ++ [p]) → Below W0.heap.size W0 w' → wpList Tryd.prog ops Q rest (a.put o.dst v') w') :
    wpList Tryd.prog ops Q (o :: rest) a (w.alloc (.cells #[.string p] 9)) := by
  obtain ⟨i0, hi, hz0, hz1, hz2⟩ := info_parts infoStr
  have hb2 : Below W0.heap.size W0 (w.alloc (.cells #[.string p] 9)) := allocB hbel _
  refine wpList_append_own _ hgd s x _ ho W0.heap.size 9 i0 (.string ByteArray.empty) 1 16 Tryd.underlying111 hi hz0 hz1 hz2 rfl (by decide) v l.length (l.map Value.string) hs (hown.below ((Below.refl _ _).alloc (Nat.le_refl _) _)) ⟨w.heap.size, 0, none⟩ 1 c [.string p] hx rfl ?_ ?_ ?_ ?_ ?_ ?_
  · intro j u hu
    have hadd : (⟨w.heap.size, 0, none⟩ : Addr).add j = ⟨w.heap.size, j, none⟩ := by unfold Addr.add; split <;> simp_all
    rw [hadd, World.cell?_alloc_new]
    simpa using hu
  · intro u hu
    rw [List.mem_singleton] at hu
    subst hu; rfl
  · simp only [maxLen]; omega
  · exact hlen
  · exact hb2.size
  · intro v' w' hown' hg _
    refine h v' w' ?_ (hb2.grown hg hb2.size hown.block)
    unfold OwnT
    rw [List.map_append, List.length_append]
    exact hown'
end Go.Proofs.YtagnbdenecphcaaDoor
/-! Slices of ints: read, appended; SameInts. -/
namespace Go.Proofs.YtagnbdenecphcaaDoor
open Go.RowKit
theorem infoInt : (Tryd.prog.info? 3).map (fun i => (i.zero, i.size, i.bytes)) = some (some (.int .i64 0), 1, 8) := by kernel_rfl
/-- v is a slice of ints that reads as l -/
def IntsAt (w : World) (v : Value) (l : List Int) : Prop :=
  (l = [] ∧ v = .slice none 0 0) ∨ ∃ g o c, v = .slice (some ⟨g, o, none⟩) l.length c ∧ ∀ j (h : j < l.length), w.cell? ⟨g, o + j, none⟩ = some (.int .i64 l[j])
theorem IntsAt.below {w w' : World} {v : Value} {l : List Int} (h : IntsAt w v l) (hb : Below w.heap.size w w') : IntsAt w' v l := by
  rcases h with h | ⟨g, o, c, rfl, hc⟩
  · exact .inl h
  · refine .inr ⟨g, o, c, rfl, fun j hj => (hb.cell ?_).trans (hc j hj)⟩
    exact block_lt_of_cell (hc j hj)
/-- v is a slice of ints of the call's own (nil, or from block base on), that reads as l -/
def OwnI (w : World) (base : Nat) (v : Value) (l : List Int) : Prop := w.ownsRow base 3 1 v l.length (l.map (Value.int .i64))
theorem OwnI.nil (w : World) (base : Nat) : OwnI w base (.slice none 0 0) [] := ⟨rfl, .inl ⟨rfl, rfl⟩⟩
theorem OwnI.block {w : World} {base : Nat} {v : Value} {l : List Int} (h : OwnI w base v l) : ∀ k, v.ownBlock = some k → base ≤ k := by
  intro k hk
  rcases h.2 with ⟨rfl, _⟩ | ⟨g, cap, cur, rfl, hg, _⟩
  · cases hk
  · cases hk; exact hg
theorem OwnI.below {w w' : World} {base : Nat} {v : Value} {l : List Int} (h : OwnI w base v l) (hb : Below w.heap.size w w') : OwnI w' base v l := by
  refine ⟨h.1, ?_⟩
  rcases h.2 with h2 | ⟨g, cap, cur, hv, hg, hh, r⟩
  · exact .inl h2
  · exact .inr ⟨g, cap, cur, hv, hg, (hb.block g (Array.getElem?_eq_some_iff.1 hh).1).trans hh, r⟩
theorem OwnI.base {w : World} {base b' : Nat} {v : Value} {l : List Int} (h : OwnI w base v l) (hb : b' ≤ base) : OwnI w b' v l := by
  refine ⟨h.1, ?_⟩
  rcases h.2 with h2 | ⟨g, cap, cur, hv, hg, hh, r⟩
  · exact .inl h2
  · exact .inr ⟨g, cap, cur, hv, by omega, hh, r⟩
theorem OwnI.form {w : World} {base : Nat} {v : Value} {l : List Int} (h : OwnI w base v l) : ∃ a c, v = .slice a l.length c := by
  rcases h.2 with ⟨rfl, h0⟩ | ⟨g, cap, cur, rfl, _⟩
  · exact ⟨none, 0, by rw [h0]⟩
  · exact ⟨_, _, rfl⟩
theorem OwnI.at {w : World} {base : Nat} {v : Value} {l : List Int} (h : OwnI w base v l) : IntsAt w v l := by
  rcases h.2 with ⟨rfl, h0⟩ | ⟨g, cap, cur, rfl, hg, hh, hn, hm, hs, ht⟩
  · exact .inl ⟨List.eq_nil_of_length_eq_zero h0, rfl⟩
  · refine .inr ⟨g, 0, cap, rfl, fun j hj => ?_⟩
    have e : cur[j]? = (l.map (Value.int .i64))[j]? := by
      rw [← ht, List.getElem?_take, if_pos (by omega)]; simp
    simp [World.cell?, hh, e, hj]
/-- append of one int that was just laid in a row of its own -/
theorem wpList_appI {ops : Array Oper} {rest : List Oper} {o : Oper} {a : Act} {w : World} {Q : Exit → Act → World → Prop} (hgd : o.guard = none) (s x : Operand)
    (ho : o.op = .call { callee := .builtin .append, args := #[s, x], argTypes := #[47, 47] })
    (W0 : World) (v : Value) (l : List Int) (p : Int) (c : Nat) (hown : OwnI w W0.heap.size v l) (hs : a.eval s = v) (hx : a.eval x = .slice (some ⟨w.heap.size, 0, none⟩) 1 c)
    (hlen : (l.length + 1) * 8 ≤ 140737488355328) (hbel : Below W0.heap.size W0 w)
    (h : ∀ v' w', OwnI w' W0.heap.size v' (l ++ [p]) → Below W0.heap.size W0 w' → wpList Tryd.prog ops Q rest (a.put o.dst v') w') :
    wpList Tryd.prog ops Q (o :: rest) a (w.alloc (.cells #[.int .i64 p] 3)) := by
  obtain ⟨i0, hi, hz0, hz1, hz2⟩ := info_parts infoInt
  have hb2 : Below W0.heap.size W0 (w.alloc (.cells #[.int .i64 p] 3)) := allocB hbel _
  refine wpList_append_own _ hgd s x _ ho W0.heap.size 3 i0 (.int .i64 0) 1 8 Tryd.underlying47 hi hz0 hz1 hz2 rfl (by decide) v l.length (l.map (Value.int .i64)) hs (hown.below ((Below.refl _ _).alloc (Nat.le_refl _) _)) ⟨w.heap.size, 0, none⟩ 1 c [.int .i64 p] hx rfl ?_ ?_ ?_ ?_ ?_ ?_
  · intro j u hu
    have hadd : (⟨w.heap.size, 0, none⟩ : Addr).add j = ⟨w.heap.size, j, none⟩ := by unfold Addr.add; split <;> simp_all
    rw [hadd, World.cell?_alloc_new]
    simpa using hu
  · intro u hu
    rw [List.mem_singleton] at hu
    subst hu; rfl
  · simp only [maxLen]; omega
  · exact hlen
  · exact hb2.size
  · intro v' w' hown' hg _
    refine h v' w' ?_ (hb2.grown hg hb2.size hown.block)
    unfold OwnI
    rw [List.map_append, List.length_append]
    exact hown'
/-- append of one int that was just laid in a row of its own -/
theorem wpList_appI2 {ops : Array Oper} {rest : List Oper} {o : Oper} {a : Act} {w : World} {Q : Exit → Act → World → Prop} (hgd : o.guard = none) (s x : Operand)
    (ho : o.op = .call { callee := .builtin .append, args := #[s, x], argTypes := #[47, 47] })
    (W0 : World) (v : Value) (l : List Int) (p : Int) (c : Nat) (hown : OwnI w W0.heap.size v l) (hs : a.eval s = v) (hx : a.eval x = .slice (some ⟨w.heap.size, 0, none⟩) 1 c)
    (hlen : (l.length + 1) * 8 ≤ 140737488355328) (hbel : Below W0.heap.size W0 w)
    (h : ∀ v' w', OwnI w' W0.heap.size v' (l ++ [p]) → Below W0.heap.size W0 w' → (∀ (k : Nat) (cs : Array Value) (t : TypeId) (fz : Nat × Nat), w.heap[k]? = some (Obj.cells cs t fz) → t ≠ 3 → w'.heap[k]? = w.heap[k]?) → wpList Tryd.prog ops Q rest (a.put o.dst v') w') :
    wpList Tryd.prog ops Q (o :: rest) a (w.alloc (.cells #[.int .i64 p] 3)) := by
  obtain ⟨i0, hi, hz0, hz1, hz2⟩ := info_parts infoInt
  have hb2 : Below W0.heap.size W0 (w.alloc (.cells #[.int .i64 p] 3)) := allocB hbel _
  refine wpList_append_own _ hgd s x _ ho W0.heap.size 3 i0 (.int .i64 0) 1 8 Tryd.underlying47 hi hz0 hz1 hz2 rfl (by decide) v l.length (l.map (Value.int .i64)) hs (hown.below ((Below.refl _ _).alloc (Nat.le_refl _) _)) ⟨w.heap.size, 0, none⟩ 1 c [.int .i64 p] hx rfl ?_ ?_ ?_ ?_ ?_ ?_
  · intro j u hu
    have hadd : (⟨w.heap.size, 0, none⟩ : Addr).add j = ⟨w.heap.size, j, none⟩ := by unfold Addr.add; split <;> simp_all
    rw [hadd, World.cell?_alloc_new]
    simpa using hu
  · intro u hu
    rw [List.mem_singleton] at hu
    subst hu; rfl
  · simp only [maxLen]; omega
  · exact hlen
  · exact hb2.size
  · intro v' w' hown' hg _
    refine h v' w' ?_ (hb2.grown hg hb2.size hown.block) ?_
    · unfold OwnI
      rw [List.map_append, List.length_append]
      exact hown'
    · intro k cs t fz hk ht
      have hlt : k < w.heap.size := (Array.getElem?_eq_some_iff.1 hk).1
      rw [hg.block k (by simp; omega) ?_]
      · exact Below.block (Below.alloc (Below.refl w.heap.size w) (Nat.le_refl _) (.cells #[.int .i64 p] 3)) k hlt
      · intro e
        rcases hown.2 with ⟨rfl, _⟩ | ⟨g, cap, cur, rfl, hb, hh, _⟩
        · cases e
        · cases e
          rw [hh] at hk
          cases hk
          exact ht rfl
end Go.Proofs.YtagnbdenecphcaaDoor
/-! The automaton's table, plain; Made. -/
namespace Go.Proofs.YtagnbdenecphcaaDoor
open Go.RowKit
def tableT : List (List (List UInt8)) := [
  [[50], [105, 114, 99, 44, 115, 99, 114, 47, 54], [45], [45], [45], [45], [45], [45], [45], [45]],
  [[45], [45], [48], [116, 108, 115, 47, 49], [48], [49], [49], [49], [49], [116, 108, 100, 47, 49]],
  [[116, 108, 115, 47, 49], [49], [105, 114, 99, 44, 115, 99, 114, 47, 54], [51], [53], [53], [54], [55], [56], [57]],
  [[48], [116, 108, 102, 47, 48], [50], [50], [52], [52], [105, 114, 99, 44, 115, 116, 114, 47, 52], [105, 114, 99, 44, 115, 116, 114, 47, 52], [105, 114, 99, 44, 115, 116, 114, 47, 52], [116, 108, 100, 44, 105, 114, 99, 44, 115, 116, 114, 47, 52]],
  [[45], [45], [45], [45], [115, 116, 114, 47, 52], [115, 116, 114, 47, 53], [115, 99, 114, 47, 54], [115, 99, 114, 47, 54], [115, 99, 114, 47, 56], [45]],
  [[45], [45], [45], [45], [116, 108, 102, 47, 50], [116, 108, 102, 47, 51], [116, 108, 102, 47, 51], [116, 108, 102, 47, 51], [116, 108, 102, 47, 51], [45]],
  [[45], [45], [115, 116, 97, 47, 50], [105, 114, 99, 44, 115, 99, 114, 44, 115, 99, 97, 47, 56], [52], [53], [115, 99, 97, 47, 56], [115, 99, 97, 44, 116, 108, 117, 47, 57], [115, 99, 97, 47, 56], [116, 108, 100, 44, 115, 99, 114, 44, 115, 99, 97, 47, 56]],
  [[45], [45], [115, 116, 97, 47, 50], [105, 114, 99, 44, 115, 99, 114, 44, 115, 99, 110, 47, 54], [52], [53], [115, 99, 110, 47, 54], [115, 99, 110, 47, 55], [115, 99, 110, 47, 54], [116, 108, 100, 44, 115, 99, 114, 44, 115, 99, 110, 47, 54]],
  [[45], [45], [115, 116, 97, 47, 50], [115, 116, 97, 47, 51], [52], [53], [105, 114, 99, 47, 55], [115, 99, 114, 47, 54], [105, 114, 99, 44, 116, 108, 117, 47, 57], [116, 108, 100, 44, 115, 99, 114, 47, 54]],
  [[45], [45], [115, 116, 97, 47, 50], [115, 116, 97, 47, 51], [52], [53], [105, 114, 99, 44, 115, 99, 114, 47, 54], [115, 99, 114, 47, 54], [105, 114, 99, 44, 115, 99, 114, 47, 56], [116, 108, 100, 44, 115, 99, 114, 47, 54]],
  [[45], [45], [115, 116, 97, 47, 50], [115, 116, 97, 47, 51], [115, 116, 97, 47, 52], [115, 116, 97, 47, 53], [115, 116, 97, 47, 54], [115, 116, 97, 47, 54], [115, 116, 97, 47, 54], [116, 108, 100, 44, 122, 114, 99, 44, 115, 116, 97, 47, 53]],
  [[45], [45], [50], [51], [116, 108, 102, 47, 50], [116, 108, 102, 47, 51], [54], [54], [56], [116, 108, 100, 44, 115, 99, 114, 47, 54]],
  [[45], [45], [115, 99, 106, 47, 50], [115, 99, 106, 47, 51], [115, 99, 106, 47, 52], [115, 99, 106, 47, 53], [115, 99, 106, 47, 54], [115, 99, 106, 47, 55], [115, 99, 106, 47, 56], [115, 99, 106, 47, 57]],
  [[45], [45], [50], [51], [52], [53], [54], [54], [56], [57]],
  [[45], [45], [116, 108, 102, 47, 50], [116, 108, 102, 47, 51], [116, 108, 102, 47, 50], [116, 108, 102, 47, 51], [116, 108, 102, 47, 51], [116, 108, 102, 47, 51], [116, 108, 102, 47, 51], [116, 108, 100, 44, 105, 114, 99, 44, 115, 116, 114, 47, 53]],
  [[45], [45], [50], [51], [52], [53], [54], [55], [56], [115, 101, 114, 47, 57]]]
def cellT (v s : Nat) : List UInt8 := (tableT.getD v []).getD s []
/-- a pointer to a table in memory -/
def TableAt (w : World) (g : Nat) : Prop := ∀ v s, v < 16 → s < 10 → w.cell? ⟨g, v * 10 + s, none⟩ = some (.string (bytesOf (cellT v s)))
def tableCells : Array Value := (tableT.flatMap fun r => r.map fun c => Value.string (bytesOf c)).toArray
theorem tableCells_all : (List.range 160).map (fun i => tableCells[i]?) = (List.range 160).map (fun i => some (Value.string (bytesOf (cellT (i / 10) (i % 10))))) := by kernel_rfl
theorem tableCells_at (v s : Nat) (hv : v < 16) (hs : s < 10) : tableCells[v * 10 + s]? = some (.string (bytesOf (cellT v s))) := by
  have h := congrArg (·[v * 10 + s]?) tableCells_all
  simp only [List.getElem?_map, List.getElem?_range (show v * 10 + s < 160 by omega), Option.map_some] at h
  have e1 : (v * 10 + s) / 10 = v := by omega
  have e2 : (v * 10 + s) % 10 = s := by omega
  rw [e1, e2] at h
  exact Option.some.inj h
theorem wpList_build2 {P : Program} {ops : Array Oper} {rest : List Oper} {o : Oper} {a : Act} {w : World} {Q : Exit → Act → World → Prop} (hg : o.guard = none) (t : TypeId) (parts : Array (Nat × Operand)) (ho : o.op = .build t parts) (cells : Array Value)
    (hf : P.built t (parts.map fun (i, x) => (i, a.eval x)).toList = some cells)
    (h : wpList P ops Q rest (a.put o.dst (.agg cells)) w) : wpList P ops Q (o :: rest) a w :=
  wpList_build hg t parts ho (by rw [hf]; rfl) (by rw [hf]; exact h)
set_option maxRecDepth 100000 in
set_option maxHeartbeats 4000000 in
theorem made_any (w : World) : Calls Tryd.prog 24 #[] w fun e w' => ∃ g, e = .returned (.pointer (some ⟨g, 0, none⟩)) ∧ TableAt w' g ∧ Below w.heap.size w w' := by
  go_enter Tryd.func24, Tryd.ntmps24
  go_wp2_with (refine wpList_build2 rfl 71 _ rfl tableCells (by kernel_rfl) ?_)
  go_ret
  exact ⟨_, rfl, fun v s hv hs => by rw [World.cell?_alloc_new]; exact tableCells_at v s hv hs, (Below.refl _ _).alloc (Nat.le_refl _) _⟩
end Go.Proofs.YtagnbdenecphcaaDoor
/-! The automaton's Step. -/
namespace Go.Proofs.YtagnbdenecphcaaDoor
open Go.RowKit
set_option linter.unusedVariables false
theorem fsm_below_cell {W w' : World} (h : Below W.heap.size W w') {a : Addr} {v : Value} (hc : W.cell? a = some v) : w'.cell? a = some v := (h.cell (block_lt_of_cell hc)).trans hc
theorem MaxLenIs.below {w w' : World} {m : Int} (h : MaxLenIs w m) (hb : Below w.heap.size w w') : MaxLenIs w' m := fsm_below_cell hb h
def namesT : List (List UInt8) := [[], [116, 108, 117], [116, 108, 100], [116, 108, 115], [116, 108, 102], [105, 114, 99], [122, 114, 99], [115, 99, 114], [115, 99, 97], [115, 99, 110], [115, 116, 114], [115, 116, 97], [115, 99, 106], [115, 101, 114]]
def nameAt (j : Nat) : List UInt8 := namesT.getD j []
/-- a row of texts that was just laid -/
theorem texts_new (w : World) (l : List ByteArray) (cells : Array Value) (hc : cells = (l.map Value.string).toArray) (c : Nat) : TextsAt (w.alloc (.cells cells 9)) (.slice (some ⟨w.heap.size, 0, none⟩) l.length c) l := by
  subst hc
  refine .inr ⟨w.heap.size, 0, c, rfl, fun j hj => ?_⟩
  rw [World.cell?_alloc_new]; simp [hj]
set_option maxRecDepth 100000 in
theorem names_any (w : World) : Calls Tryd.prog 61 #[] w fun e w' => ∃ g, e = .returned (.slice (some ⟨g, 0, none⟩) 14 14) ∧ (∀ j (h : j < 14), w'.cell? ⟨g, j, none⟩ = some (.string (bytesOf (nameAt j)))) ∧ (∃ cs fz, w'.heap[g]? = some (.cells cs 9 fz)) ∧ Below w.heap.size w w' := by
  go_enter Tryd.func61, Tryd.ntmps61
  go_wp2_with fail
  go_ret
  refine ⟨_, rfl, fun j h => ?_, ⟨_, _, heap_alloc_last w _⟩, (Below.refl _ _).alloc (Nat.le_refl _) _⟩
  rw [World.cell?_alloc_new]
  match j, h with
  | 0, _ => rfl
  | 1, _ => rfl
  | 2, _ => rfl
  | 3, _ => rfl
  | 4, _ => rfl
  | 5, _ => rfl
  | 6, _ => rfl
  | 7, _ => rfl
  | 8, _ => rfl
  | 9, _ => rfl
  | 10, _ => rfl
  | 11, _ => rfl
  | 12, _ => rfl
  | 13, _ => rfl
/-- the numbers of a name, ahead of the j-th -/
def numsTo (w : List UInt8) (j : Nat) : List Int := ((List.range j).filter fun k => nameAt k == w).map Int.ofNat
theorem numsTo_succ (w : List UInt8) (j : Nat) : numsTo w (j + 1) = numsTo w j ++ (if nameAt j == w then [(j : Int)] else []) := by
  unfold numsTo
  rw [List.range_succ, List.filter_append, List.map_append]
  congr 1
  rw [List.filter_cons, List.filter_nil]
  split <;> rfl
theorem numsTo_len (w : List UInt8) (j : Nat) : (numsTo w j).length ≤ j := by
  unfold numsTo
  rw [List.length_map]
  exact Nat.le_trans (List.length_filter_le _ _) (by simp)
/-- the pieces of a text at commas -/
def pieces (a : List UInt8) : List (List UInt8) := (Lib.splitB (bytesOf [44]) 0 (Lib.countB (bytesOf a) (bytesOf [44])) (bytesOf a)).map (·.data.toList)
def digit (l : List UInt8) : Int := (((l.getD 0 0).toNat : Int) - 48) % 256
/-- what a cell of the table says -/
def cellSays (c : List UInt8) : Int × List Int × Int :=
  if c = [45] then (0, [], 1001) else
  if (Lib.cut c [47]).2.2 = false then (digit c, [], 0) else
  (digit (Lib.cut c [47]).2.1, (pieces (Lib.cut c [47]).1).flatMap (numsTo · 14), 0)
def stepSays (s v : Int) : Int × List Int × Int :=
  if s < 0 ∨ 10 ≤ s ∨ v < 0 ∨ 16 ≤ v then (0, [], 1000) else cellSays (cellT v.toNat s.toNat)
def cellGood (c : List UInt8) : Bool := decide (1 ≤ c.length) && decide (c.length ≤ 40) && (!(Lib.cut c [47]).2.2 || (decide (1 ≤ (Lib.cut c [47]).2.1.length) && decide ((Lib.cut c [47]).1.length ≤ 40) && decide ((Lib.cut c [47]).2.1.length ≤ 40)))
theorem cells_good : (List.range 16).all (fun v => (List.range 10).all fun s => cellGood (cellT v s)) = true := by decide +kernel
theorem cell_good (v s : Nat) (hv : v < 16) (hs : s < 10) : cellGood (cellT v s) = true :=
  List.all_eq_true.1 (List.all_eq_true.1 cells_good v (List.mem_range.2 hv)) s (List.mem_range.2 hs)
theorem u8_sub48 (c : UInt8) : IntKind.u8.wrap ((c.toNat : Int) - 48) = ((c.toNat : Int) - 48) % 256 := by rw [IntKind.wrap_u8]
theorem fsm_below_drewN {B : Nat} {a w : World} (h : Below B a w) (n : Nat) : Below B a (w.drewN n) := h.trans ⟨rfl, rfl, rfl, Nat.le_refl _, fun _ _ => rfl⟩
theorem digit_at (C : ByteArray) (h : 0 < C.size) : digit C.data.toList = ((C[0].toNat : Int) - 48) % 256 := by
  unfold digit
  rw [List.getD_eq_getElem?_getD, List.getElem?_eq_getElem (by simpa using h)]; rfl
set_option maxRecDepth 100000 in
set_option maxHeartbeats 4000000 in
theorem tstep_any (g : Nat) (s v : Int) (ml : Int) (w : World) (ht : TableAt w g) (hm : MaxLenIs w ml) :
    Calls Tryd.prog 43 #[.pointer (some ⟨g, 0, none⟩), .int .i64 s, .int .i64 v] w fun e w' => ∃ o, e = .returned (.tuple #[.int .i64 (stepSays s v).1, o, .int .i64 (stepSays s v).2.2]) ∧ OwnI w' w.heap.size o (stepSays s v).2.1 ∧ Below w.heap.size w w' := by
  by_cases hr : s < 0 ∨ 10 ≤ s ∨ v < 0 ∨ 16 ≤ v
  · have e : stepSays s v = (0, [], 1000) := by unfold stepSays; rw [if_pos hr]
    have E := Lib.hid e
    clear e
    go_enter Tryd.func43, Tryd.ntmps43
    go_wp2_with fail
    all_goals
      go_ret3
      exact ⟨.slice none 0 0, by rw [E.out]; rfl, by rw [E.out]; exact OwnI.nil _ _, Below.refl _ _⟩
  · obtain ⟨sn, rfl⟩ : ∃ sn : Nat, s = sn := ⟨s.toNat, by omega⟩
    obtain ⟨vn, rfl⟩ : ∃ vn : Nat, v = vn := ⟨v.toNat, by omega⟩
    have hs10 : sn < 10 := by omega
    have hv16 : vn < 16 := by omega
    have e : stepSays (sn : Int) (vn : Int) = cellSays (cellT vn sn) := by unfold stepSays; rw [if_neg hr]; rfl
    rw [e]
    have hc := ht vn sn hv16 hs10
    have hg := cell_good vn sn hv16 hs10
    obtain ⟨c, hcc⟩ : ∃ c, cellT vn sn = c := ⟨_, rfl⟩
    rw [hcc] at hc hg ⊢
    clear hr e hcc ht
    obtain ⟨C, hC⟩ : ∃ C, bytesOf c = C := ⟨_, rfl⟩
    have hCl : C.data.toList = c := by rw [← hC]; rfl
    have hCz : C.size = c.length := by rw [← hC, bytesOf_size]
    rw [hC] at hc
    by_cases h0 : c = [45]
    · have E : Hid (cellSays c = (0, [], 1001)) := by unfold cellSays; rw [if_pos h0]; exact rfl
      have q : C.toList = [45] := by rw [ba_toList, hCl, h0]
      clear h0 hg hCl hC hCz
      go_enter Tryd.func43, Tryd.ntmps43
      go_wp2_with fail
      go_ret3
      exact ⟨.slice none 0 0, by rw [E.out]; rfl, by rw [E.out]; exact OwnI.nil _ _, Below.refl _ _⟩
    · have q : (C.toList == [45]) = false := by rw [ba_toList, hCl]; exact beq_eq_false_iff_ne.2 h0
      unfold cellGood at hg
      simp only [Bool.and_eq_true, decide_eq_true_eq, Bool.or_eq_true, Bool.not_eq_true'] at hg
      obtain ⟨⟨g1, g2⟩, g3⟩ := hg
      have hz1 : 1 ≤ C.size := by omega
      have hz2 : C.size < 4294967281 := by omega
      by_cases hf : (Lib.cut c [47]).2.2 = false
      · have E : Hid (cellSays c = (digit c, [], 0)) := by unfold cellSays; rw [if_neg h0, if_pos hf]; exact rfl
        have HF := Lib.hid hf
        have HCl := Lib.hid hCl
        clear h0 hC hCz hf g3 g1 g2 hCl
        go_enter Tryd.func43, Tryd.ntmps43
        go_wp2_with fail
        refine (cut_any C (bytesOf [47]) ml _ hz2 hm).mono ?_
        rintro e w1 ⟨rfl, nq, rfl⟩
        rw [HCl.out, bytesOf_toList, HF.out]
        go_wp2_with fail
        go_ret3
        exact ⟨.slice none 0 0, by rw [E.out, ← HCl.out, digit_at C (by omega)]; rfl, by rw [E.out]; exact OwnI.nil _ _, fsm_below_drewN (Below.refl _ _) _⟩
      · have E : Hid (cellSays c = (digit (Lib.cut c [47]).2.1, (pieces (Lib.cut c [47]).1).flatMap (numsTo · 14), 0)) := by unfold cellSays; rw [if_neg h0, if_neg hf]; exact rfl
        have HF : Hid ((Lib.cut c [47]).2.2 = true) := Lib.hid (by simpa using hf)
        have HCl := Lib.hid hCl
        have g3' : (1 ≤ (Lib.cut c [47]).2.1.length ∧ (Lib.cut c [47]).1.length ≤ 40) ∧ (Lib.cut c [47]).2.1.length ≤ 40 := by
          rcases g3 with h | h
          · exact absurd h hf
          · exact h
        obtain ⟨a, ha⟩ : ∃ a, (Lib.cut c [47]).1 = a := ⟨_, rfl⟩
        obtain ⟨b, hb⟩ : ∃ b, (Lib.cut c [47]).2.1 = b := ⟨_, rfl⟩
        rw [ha, hb] at g3' E
        have Ha := Lib.hid ha
        have Hb := Lib.hid hb
        clear h0 hC hCz hf g3 g1 g2 hCl ha hb
        obtain ⟨A, hA⟩ : ∃ A : ByteArray, (⟨a.toArray⟩ : ByteArray) = A := ⟨_, rfl⟩
        obtain ⟨B, hB⟩ : ∃ B : ByteArray, (⟨b.toArray⟩ : ByteArray) = B := ⟨_, rfl⟩
        have hAb : bytesOf a = A := hA
        have hBl : B.data.toList = b := by rw [← hB]
        have hBz : 1 ≤ B.size := by rw [← hB]; simpa [ByteArray.size] using g3'.1.1
        have hAz : A.size < 4294967281 := by rw [← hAb, bytesOf_size]; omega
        obtain ⟨L, hL⟩ : ∃ L, Lib.splitB (bytesOf [44]) 0 (Lib.countB A (bytesOf [44])) A = L := ⟨_, rfl⟩
        have hLp : L.map (·.data.toList) = pieces a := by rw [← hL, ← hAb]; rfl
        have hLn : L.length = Lib.countB A (bytesOf [44]) + 1 := by rw [← hL]; exact Lib.splitB_all _ (by decide) _ _ A rfl
        have hLle := Lib.countB_le (bytesOf [44]) (by decide) A.size A (Nat.le_refl _)
        have hAz2 : A.size ≤ 40 := by rw [← hAb, bytesOf_size]; omega
        obtain ⟨n, hn⟩ : ∃ n, Lib.countB A (bytesOf [44]) = n := ⟨_, rfl⟩
        have hsp := fun w hm => splitAt_any A 44 ml w hAz hm
        rw [hL, hn] at hsp
        rw [hn] at hLn hLle
        have HA := Lib.hid hA
        have HB := Lib.hid hB
        have HLp := Lib.hid hLp
        have HLn := Lib.hid hLn
        have HBl := Lib.hid hBl
        clear hA hB hAb hL hn hLp hLn hBl g3'
        go_enter Tryd.func43, Tryd.ntmps43
        go_wp2_with fail
        refine (cut_any C (bytesOf [47]) ml _ hz2 hm).mono ?_
        rintro e w1 ⟨rfl, nq, rfl⟩
        rw [HCl.out, bytesOf_toList, HF.out, Ha.out, Hb.out, HA.out, HB.out]
        go_wp2_with fail
        refine (hsp _ (by exact hm)).mono ?_
        rintro e w2 ⟨rfl, rfl⟩
        have hcell : ∀ j (h : j < L.length), ((w.drewN nq).alloc (.cells (textsRow L) 9)).cell? ⟨w.heap.size, j, none⟩ = some (.string L[j]) := by
          intro j h
          have : (w.drewN nq).heap.size = w.heap.size := rfl
          rw [← this, World.cell?_alloc_new]; simp [textsRow, h]
        have hB2 : Below w.heap.size w ((w.drewN nq).alloc (.cells (textsRow L) 9)) := allocB (fsm_below_drewN (Below.refl _ _) _) _
        go_wp2_with fail
        obtain ⟨W2, hW2⟩ : ∃ W2, (w.drewN nq).alloc (.cells (textsRow L) 9) = W2 := ⟨_, rfl⟩
        rw [hW2] at hcell hB2 ⊢
        clear hW2
        go_loopw [13, 56] (fun o i wr => ∃ k : Nat, k ≤ n + 1 ∧ i = .int .i64 k ∧ OwnI wr W2.heap.size o ((L.take k).flatMap fun x => numsTo x.data.toList 14) ∧ Below W2.heap.size W2 wr) (fun _ i _ => n + 1 - (intOf i).toNat)
        case atStart => exact ⟨0, Nat.zero_le _, rfl, OwnI.nil _ _, Below.refl _ _⟩
        case round =>
          obtain ⟨k, hk, rfl, hown, hbl⟩ := hrel
          by_cases hlt : k < n + 1
          · have hx := fsm_below_cell hbl (hcell k (by rw [HLn.out]; exact hlt))
            have htk : L.take (k + 1) = L.take k ++ [L[k]'(by rw [HLn.out]; exact hlt)] := List.take_succ_eq_append_getElem _
            obtain ⟨x, hxx⟩ : ∃ x, L[k]'(by rw [HLn.out]; exact hlt) = x := ⟨_, rfl⟩
            rw [hxx] at hx htk
            have hsn : Hid (((L.take (k + 1)).flatMap fun x => numsTo x.data.toList 14) = ((L.take k).flatMap fun x => numsTo x.data.toList 14) ++ numsTo x.data.toList 14) := Lib.hid (by rw [htk, List.flatMap_append]; simp)
            clear htk hxx
            have hal : ((L.take k).flatMap fun x => numsTo x.data.toList 14).length ≤ 14 * k := by
              have : ∀ l : List ByteArray, (l.flatMap fun x => numsTo x.data.toList 14).length ≤ 14 * l.length := by
                intro l
                induction l with
                | nil => simp
                | cons y l ih => rw [List.flatMap_cons, List.length_append, List.length_cons]; have := numsTo_len y.data.toList 14; omega
              have h := this (L.take k)
              rw [List.length_take] at h
              omega
            obtain ⟨acc, hacc⟩ : ∃ acc, ((L.take k).flatMap fun x => numsTo x.data.toList 14) = acc := ⟨_, rfl⟩
            rw [hacc] at hown hsn hal
            clear hacc
            go_wp2_with fail
            refine (names_any _).mono ?_
            rintro e w3 ⟨gn, rfl, hnm, hnh, hb3⟩
            replace hx := fsm_below_cell hb3 hx
            replace hown := hown.below hb3
            replace hbl := seqB hbl hb3
            clear hb3
            go_wp2_with fail
            go_loopw [13, 62] (fun o i wz => ∃ j : Nat, j ≤ 14 ∧ i = .int .i64 j ∧ OwnI wz W2.heap.size o (acc ++ numsTo x.data.toList j) ∧ Below W2.heap.size W2 wz ∧ (∀ j (h : j < 14), wz.cell? ⟨gn, j, none⟩ = some (.string (bytesOf (nameAt j)))) ∧ ∃ cs fz, wz.heap[gn]? = some (.cells cs 9 fz)) (fun _ i _ => 14 - (intOf i).toNat)
            case atStart => exact ⟨0, Nat.zero_le _, rfl, by simpa [numsTo] using hown, hbl, hnm, hnh⟩
            case round =>
              obtain ⟨j, hj, rfl, hown2, hbl2, hnm2, cs2, fz2, hnh2⟩ := hrel
              by_cases hj14 : j < 14
              · have hnj := hnm2 j hj14
                have hns := numsTo_succ x.data.toList j
                have hnl := numsTo_len x.data.toList j
                by_cases heq : nameAt j = x.data.toList
                · have hq : ((bytesOf (nameAt j)).toList == x.toList) = true := ba_beq_true heq
                  have Hns : Hid (acc ++ numsTo x.data.toList (j + 1) = acc ++ numsTo x.data.toList j ++ [(j : Int)]) := Lib.hid (by rw [hns, heq]; simp)
                  clear hns heq hnj
                  go_wp2_with (at_builtin; refine wpList_appI2 rfl _ _ rfl W2 _ _ (j : Int) 1 hown2 rfl rfl (by rw [List.length_append]; omega) hbl2 ?_; intro v' w5 hown3 hbl3 hkeep)
                  have hk5 := hkeep gn cs2 _ fz2 hnh2 (by decide)
                  refine ⟨⟨j + 1, by omega, by go_num, by rw [Hns.out]; exact hown3, hbl3, ?_, cs2, fz2, hk5.trans hnh2⟩, by simp [intOf]; omega⟩
                  intro j' hj'
                  rw [World.cell?_of_block (a := ⟨gn, j', none⟩) hk5]
                  exact hnm2 j' hj'
                · have hq : ((bytesOf (nameAt j)).toList == x.toList) = false := ba_beq_false heq
                  have Hns : Hid (acc ++ numsTo x.data.toList (j + 1) = acc ++ numsTo x.data.toList j) := Lib.hid (by rw [hns, if_neg (by simpa using heq)]; simp)
                  clear hns heq hnj
                  go_wp2_with fail
                  go_roundw
                  case rel => exact ⟨j + 1, by omega, by go_num, by rw [Hns.out]; exact hown2, hbl2, hnm2, cs2, fz2, hnh2⟩
                  case measure => simp [intOf]; omega
              · obtain rfl : j = 14 := by omega
                go_wp2_with fail
                go_roundw
                case rel => exact ⟨k + 1, by omega, by go_num, by rw [hsn.out]; exact hown2, hbl2⟩
                case measure => simp [intOf]; omega
          · obtain rfl : k = n + 1 := by omega
            have hLL : L.take (n + 1) = L := List.take_of_length_le (by rw [HLn.out]; exact Nat.le_refl _)
            have hfin := hown
            rw [hLL, show (L.flatMap fun x => numsTo x.data.toList 14) = (pieces a).flatMap (numsTo · 14) by rw [← HLp.out, List.flatMap_map]] at hfin
            replace hfin := hfin.base (b' := w.heap.size) hB2.size
            have hBw : Below w.heap.size w wr := seqB hB2 hbl
            clear hown hLL hcell
            go_wp2_with fail
            go_ret3
            exact ⟨_, by rw [E.out, ← HBl.out, digit_at B (by omega)]; rfl, by rw [E.out]; exact hfin, hBw⟩
end Go.Proofs.YtagnbdenecphcaaDoor
