/- Small laws of my own that the walks of this seat share. The shelf's contracts of strings.Split and strings.Cut, laid at this translation. Slices of values of one or many cells: read, owned, appended; worlds in which only some blocks have turned. Slices of bytes that a call makes by appending. Slices of texts: read, appended; SameTexts. Slices of ints: read, appended; SameInts. The automaton's table, plain; Made. The automaton's Step. What packages policy, opts, control, neg answer: plain functions, no program in sight. Regions that draw: one order for all. What reads goes first; S holds behind each operation that writes. Regions that draw whose last writing operation L writes what the others read: S need not hold behind L. policy: unit, May, number, value, size, right. policy: number of four bytes, value, size, right; a side's methods. policy: a side's methods. Slices of options; opts.Find. policy: kinds, Ask. policy: better. policy: learn, Learn, Taken. policy: Learn. -/
import Derived.WalkKit
import Derived.WalkSpells
import Derived.WalkLawsBesides
import Derived.Deep.WholeRow
import Derived.Lib.Hide
import Derived.Lib.Strings
import Derived.Laws.IdiomStrings
import Derived.Shelf.Strings.Split
import Derived.Shelf.Strings.Cut
import Derived.Test.YtagnbdenecphcaaGreatDoorRows
import Derived.Laws.AppendOwnNone
import Derived.Maps.AppendAt
import Derived.Handy
import Derived.StillTailTactics
import Derived.Lib.UnsafeStr
import Derived.OrdersHeld
import Derived.RegionTactic
import Derived.StillTail
import Derived.Outline
import Derived.Deep.RegionWith
/-! Small laws of my own that the walks of this seat share. The shelf's contracts of strings.Split and strings.Cut, laid at this translation. Slices of values of one or many cells: read, owned, appended; worlds in which only some blocks have turned. Slices of bytes that a call makes by appending. Slices of texts: read, appended; SameTexts. Slices of ints: read, appended; SameInts. The automaton's table, plain; Made. The automaton's Step. -/
/-! Small laws of my own that the walks of this seat share. -/
namespace Go.Proofs.YtagnbdenecphcaaGreatDoor
open Go.RowKit
theorem seqB {w w1 w2 : World} (h : Below w.heap.size w w1) (k : Below w1.heap.size w1 w2) : Below w.heap.size w w2 := h.trans (k.mono h.size)
theorem allocB {w w1 : World} (h : Below w.heap.size w w1) (o : Obj) : Below w.heap.size w (w1.alloc o) := h.alloc h.size o
theorem drewB {w w1 : World} (h : Below w.heap.size w w1) : Below w.heap.size w w1.drew := h.drew
theorem bcell {W w1 : World} (hb : Below W.heap.size W w1) : (∀ b o, b < W.heap.size → w1.cell? ⟨b, o, none⟩ = W.cell? ⟨b, o, none⟩) ∧ (∀ b o, b < W.heap.size → w1.frozen? ⟨b, o, none⟩ = W.frozen? ⟨b, o, none⟩) :=
  ⟨fun b o h => hb.cell (p := ⟨b, o, none⟩) h, fun b o h => hb.frozen (p := ⟨b, o, none⟩) h⟩
theorem below_setRow {B : Nat} {a w : World} (h : Below B a w) (g : Nat) (cs : Array Value) (hg : B ≤ g) : Below B a (w.setRow g cs) :=
  h.trans ⟨rfl, rfl, rfl, by simp, fun k hk => setRow_other w g k cs (by omega)⟩
/-- a whole row stored into the block that was made last -/
theorem wpList_store_new {P : Program} {ops : Array Oper} {rest : List Oper} {o : Oper} {a : Act} {w : World} {Q : Exit → Act → World → Prop} (hgd : o.guard = none) (ty : TypeId) (x y : Operand) (ho : o.op = .store ty x y)
    (cells : Array Value) (hx : a.eval x = .pointer (some ⟨w.heap.size, 0, none⟩)) (hy : a.eval y = .agg cells) (t : TypeId) (old : Array Value)
    (hi : (P.info? ty).map (·.size) = some cells.size) (hold : old.size = cells.size) (h1 : cells.all (·.oneCell') = true)
    (h : wpList P ops Q rest (a.put o.dst undef) (w.alloc (.cells cells t))) : wpList P ops Q (o :: rest) a (w.alloc (.cells old t)) :=
  wpList_store_row hgd ty x y ho w.heap.size cells hx hy t old (heap_alloc_last w _) hi hold h1 (by rw [World.setRow_alloc_new]; exact h)
/-! ### texts -/
def bytesOf (l : List UInt8) : ByteArray := ⟨l.toArray⟩
theorem len_toList (s : ByteArray) : s.data.toList.length = s.size := Array.length_toList
theorem extract_toList (s : ByteArray) (a b : Nat) : (s.extract a b).data.toList = (s.data.toList.drop a).take (b - a) := Lib.extract_data s a b
theorem prefix_size (s : ByteArray) (n : Nat) (h : n ≤ s.size) : (s.extract 0 n).size = n := by
  rw [← len_toList, extract_toList]; simp; omega
theorem ba_toList (s : ByteArray) : s.toList = s.data.toList := ByteArray.toList_eq s
theorem ba_beq_true {a b : ByteArray} (h : a.data.toList = b.data.toList) : (a.toList == b.toList) = true := by rw [ba_toList, ba_toList, h]; exact beq_self_eq_true _
theorem ba_beq_false {a b : ByteArray} (h : a.data.toList ≠ b.data.toList) : (a.toList == b.toList) = false := by rw [ba_toList, ba_toList]; exact beq_eq_false_iff_ne.2 h
theorem prefix_toList (s : ByteArray) (n : Nat) : (s.extract 0 n).data.toList = s.data.toList.take n := by rw [extract_toList]; simp
theorem prefix_bytes (s : ByteArray) (n : Nat) : s.extract 0 n = bytesOf (s.data.toList.take n) := by
  have := prefix_toList s n
  cases h : s.extract 0 n with
  | mk d => rw [h] at this; simp only at this; unfold bytesOf; rw [← this]
theorem bytesOf_toList (l : List UInt8) : (bytesOf l).data.toList = l := rfl
theorem bytesOf_size (l : List UInt8) : (bytesOf l).size = l.length := by simp [bytesOf, ByteArray.size]
theorem bytesOf_of (s : ByteArray) : bytesOf s.data.toList = s := by unfold bytesOf; cases s; simp
theorem bytesOf_inj {a b : List UInt8} (h : bytesOf a = bytesOf b) : a = b := by
  have := congrArg (·.data.toList) h; simpa [bytesOf] using this
theorem ba_ext {a b : ByteArray} (h : a.data.toList = b.data.toList) : a = b := by
  rw [← bytesOf_of a, ← bytesOf_of b, h]
theorem bytesOf_append (a b : List UInt8) : bytesOf a ++ bytesOf b = bytesOf (a ++ b) := ba_ext (by simp [bytesOf])
theorem strOfNums_bytes (xs : List Int) : strOfNums xs = bytesOf (xs.map fun n => UInt8.ofNat n.toNat) := rfl
/-- a row of bytes that was just made, as a text -/
theorem conv_row {P : Program} (w : World) (src dst e : TypeId) (hs : P.underlying src = some (.slice e)) (he : P.underlying e = some (.int .u8)) (hd : P.underlying dst = some .string)
    (xs : List Int) (n : Nat) (hn : xs.length = n) :
    (convert src dst (.slice (some ⟨w.heap.size, 0, none⟩) n n)).run P (w.alloc (.cells (xs.map (Value.int .u8)).toArray e)) = .ok (.string (strOfNums xs)) (w.alloc (.cells (xs.map (Value.int .u8)).toArray e)) := by
  refine run_convert_bytes_arg _ src e hs he w.heap.size 0 n n xs hn (fun i hi => ?_) dst hd
  rw [World.cell?_alloc_new]
  have h : i < xs.length := by omega
  simp [List.getD, h]
/-! ### a row of bytes that the call made out of a text -/
/-- a slice of integers that came in: nil, or a row of cap cells -/
def IsRow (k : IntKind) (w : World) (a : Option Addr) (len cap : Nat) (zs : List Int) : Prop :=
  (a = none ∧ len = 0 ∧ cap = 0 ∧ zs = []) ∨
  ∃ x, a = some x ∧ len ≤ cap ∧ cap ≤ maxLen ∧ zs.length = cap ∧ (∀ i, i < zs.length → w.cell? (x.add i) = some (.int k (zs.getD i 0))) ∧ ∀ n ∈ zs, (Lit.int k n).wf = true
def RowIs (w : World) (B : Nat) (e : TypeId) (l : List UInt8) : Prop :=
  ∃ row : Array Value, w.heap[B]? = some (.cells row e (row.size, row.size + 1)) ∧ l.length ≤ row.size ∧ ∀ j (h : j < l.length), row[j]? = some (.int .u8 (l[j].toNat : Int))
theorem RowIs.cell {w : World} {B : Nat} {e : TypeId} {l : List UInt8} (h : RowIs w B e l) {j : Nat} (hj : j < l.length) : w.cell? ⟨B, j, none⟩ = some (.int .u8 (l[j].toNat : Int)) := by
  obtain ⟨row, h1, _, h3⟩ := h
  simp [World.cell?, h1, h3 j hj]
theorem RowIs.frozen {w : World} {B : Nat} {e : TypeId} {l : List UInt8} (h : RowIs w B e l) {j : Nat} (hj : j < l.length) : w.frozen? ⟨B, j, none⟩ = false := by
  obtain ⟨row, h1, h2, _⟩ := h
  simp [World.frozen?, h1]; omega
theorem RowIs.set {w : World} {B : Nat} {e : TypeId} {l : List UInt8} (h : RowIs w B e l) {j : Nat} (hj : j < l.length) (b : UInt8) : RowIs (w.setCell ⟨B, j, none⟩ (.int .u8 (b.toNat : Int))) B e (l.set j b) := by
  obtain ⟨row, h1, h2, h3⟩ := h
  have hlt : B < w.heap.size := (Array.getElem?_eq_some_iff.1 h1).1
  refine ⟨row.setIfInBounds j (.int .u8 (b.toNat : Int)), ?_, by simpa using h2, ?_⟩
  · simp only [World.setCell, Array.getElem?_modify, if_true, h1, Option.map_some]
    simp
  · intro i hi
    rw [Array.getElem?_setIfInBounds]
    have hi' : i < l.length := by simpa using hi
    by_cases e : j = i
    · subst e
      rw [if_pos rfl, if_pos (by omega)]
      simp
    · rw [if_neg e, h3 i hi']
      simp [e]
theorem RowIs.same {w w' : World} {B : Nat} {e : TypeId} {l : List UInt8} (h : RowIs w B e l) (hh : w'.heap[B]? = w.heap[B]?) : RowIs w' B e l := by
  obtain ⟨row, h1, h2, h3⟩ := h
  exact ⟨row, hh.trans h1, h2, h3⟩
theorem RowIs.drew {w : World} {B : Nat} {e : TypeId} {l : List UInt8} (h : RowIs w B e l) : RowIs w.drew B e l := h.same rfl
theorem RowIs.lt {w : World} {B : Nat} {e : TypeId} {l : List UInt8} (h : RowIs w B e l) : B < w.heap.size := by
  obtain ⟨row, h1, _⟩ := h
  exact (Array.getElem?_eq_some_iff.1 h1).1
theorem RowIs.below {w w' : World} {B : Nat} {e : TypeId} {l : List UInt8} (h : RowIs w B e l) (hb : Below w.heap.size w w') : RowIs w' B e l := h.same (hb.block B h.lt)
theorem RowIs.conv {P : Program} {w : World} {B : Nat} {e : TypeId} {l : List UInt8} (h : RowIs w B e l) (src dst : TypeId) (hs : P.underlying src = some (.slice e)) (he : P.underlying e = some (.int .u8)) (hd : P.underlying dst = some .string) (n cap : Nat) (hn : n = l.length) :
    (convert src dst (.slice (some ⟨B, 0, none⟩) n cap)).run P w = .ok (.string (bytesOf l)) w := by
  subst hn
  refine run_convert_bytes_back w src dst e ⟨B, 0, none⟩ cap l hs he hd fun j hj => ?_
  have hadd : (⟨B, 0, none⟩ : Addr).add j = ⟨B, j, none⟩ := by unfold Addr.add; split <;> simp_all
  rw [hadd]; exact h.cell hj
theorem grownCap_le (w : World) (n e : Nat) : n ≤ grownCap w n 0 e := by
  unfold grownCap
  simp [Question.cut]
theorem rowIs_new (w : World) (s : ByteArray) (e : TypeId) (cap : Nat) : RowIs (w.alloc (.cells (bytesRow s cap) e ((bytesRow s cap).size, (bytesRow s cap).size + 1))) w.heap.size e s.data.toList := by
  refine ⟨bytesRow s cap, heap_alloc_last w _, ?_, fun j hj => ?_⟩
  · rw [len_toList]; simp [bytesRow]
  · have := bytesRow_at s cap j (by simpa using hj)
    simpa using this
/-! ### bits of ints -/
theorem ofInt_i64 (a : Nat) (ha : a < 9223372036854775808) : (BitVec.ofInt 64 (a : Int)).toNat = a := by
  rw [BitVec.toNat_ofInt]; omega
theorem i64_xor_nat (a b : Nat) (ha : a < 9223372036854775808) (hb : b < 9223372036854775808) : bits .xor .i64 (a : Int) (b : Int) = ((a ^^^ b : Nat) : Int) := by
  have hx : a ^^^ b < 2 ^ 63 := Nat.xor_lt_two_pow (by omega) (by omega)
  show IntKind.i64.wrap ((BitVec.ofInt 64 (a : Int) ^^^ BitVec.ofInt 64 (b : Int)).toNat : Int) = _
  rw [BitVec.toNat_xor, ofInt_i64 a ha, ofInt_i64 b hb, IntKind.wrap_i64]
  omega
theorem i64_or_nat (a b : Nat) (ha : a < 9223372036854775808) (hb : b < 9223372036854775808) : bits .or .i64 (a : Int) (b : Int) = ((a ||| b : Nat) : Int) := by
  have hx : a ||| b < 2 ^ 63 := Nat.or_lt_two_pow (by omega) (by omega)
  show IntKind.i64.wrap ((BitVec.ofInt 64 (a : Int) ||| BitVec.ofInt 64 (b : Int)).toNat : Int) = _
  rw [BitVec.toNat_or, ofInt_i64 a ha, ofInt_i64 b hb, IntKind.wrap_i64]
  omega
theorem i64_and_nat (a b : Nat) (ha : a < 9223372036854775808) (hb : b < 9223372036854775808) : bits .and .i64 (a : Int) (b : Int) = ((a &&& b : Nat) : Int) := by
  have hx : a &&& b < 2 ^ 63 := Nat.and_lt_two_pow _ (by omega)
  show IntKind.i64.wrap ((BitVec.ofInt 64 (a : Int) &&& BitVec.ofInt 64 (b : Int)).toNat : Int) = _
  rw [BitVec.toNat_and, ofInt_i64 a ha, ofInt_i64 b hb, IntKind.wrap_i64]
  omega
/-- the low k bits of any int -/
theorem i64_low (n : Int) (k : Nat) (hk : k < 63) : bits .and .i64 n ((2 ^ k - 1 : Nat) : Int) = n % ((2 ^ k : Nat) : Int) := by
  have hp : 2 ^ k ≤ 2 ^ 62 := Nat.pow_le_pow_right (by omega) (by omega)
  have hp0 : 0 < 2 ^ k := Nat.two_pow_pos k
  have h1 : (BitVec.ofInt 64 ((2 ^ k - 1 : Nat) : Int)).toNat = 2 ^ k - 1 := ofInt_i64 _ (by omega)
  have hd : 2 ^ 64 = 2 ^ k * 2 ^ (64 - k) := by rw [← Nat.pow_add]; congr 1; omega
  have key : (BitVec.ofInt 64 n &&& BitVec.ofInt 64 ((2 ^ k - 1 : Nat) : Int)).toNat = (n % ((2 ^ 64 : Nat) : Int)).toNat % 2 ^ k := by
    rw [BitVec.toNat_and, BitVec.toNat_ofInt, h1, Nat.and_two_pow_sub_one_eq_mod]
  show IntKind.i64.wrap ((BitVec.ofInt 64 n &&& BitVec.ofInt 64 ((2 ^ k - 1 : Nat) : Int)).toNat : Nat) = _
  have e2 : (((n % ((2 ^ 64 : Nat) : Int)).toNat % 2 ^ k : Nat) : Int) = n % ((2 ^ k : Nat) : Int) := by
    rw [Int.natCast_emod, Int.toNat_of_nonneg (Int.emod_nonneg _ (by omega)), hd, Int.natCast_mul, Int.emod_emod_of_dvd _ (Int.dvd_mul_right _ _)]
  have hl : (((n % ((2 ^ 64 : Nat) : Int)).toNat % 2 ^ k : Nat)) < 2 ^ k := Nat.mod_lt _ hp0
  rw [key, IntKind.wrap_i64, ← e2]
  omega
end Go.Proofs.YtagnbdenecphcaaGreatDoor
/-! The shelf's contracts of strings.Split and strings.Cut, laid at this translation. -/
namespace Go.Proofs.YtagnbdenecphcaaGreatDoor
open Go.Shelf Go.RowKit Go.Proofs
set_option maxRecDepth 100000
def ren146 : Go.Shelf.Ren := ⟨fun | 138 => 97 | 143 => 98 | 146 => 81 | 195 => 103 | 197 => 104 | 217 => 99 | 218 => 105 | 219 => 95 | 221 => 93 | 224 => 101 | 225 => 100 | 260 => 108 | 266 => 106 | 267 => 102 | 268 => 96 | 314 => 107 | n => n, fun | 0 => 0 | 3 => 3 | 4 => 4 | 5 => 5 | 9 => 9 | 21 => 21 | 31 => 116 | 46 => 96 | 51 => 154 | 105 => 152 | 119 => 157 | 138 => 159 | 139 => 160 | 146 => 155 | n => n, fun | 1 => 0 | 3 => 1 | 4 => 2 | n => n⟩
theorem lays146 : Go.Proofs.Lays.n146 Tryz.prog ren146 := {
  mixed := by kernel_rfl
  f138 := Tryz.func97.trans (congrArg some (by kernel_rfl))
  f143 := Tryz.func98.trans (congrArg some (by kernel_rfl))
  f146 := Tryz.func81.trans (congrArg some (by kernel_rfl))
  f195 := Tryz.func103.trans (congrArg some (by kernel_rfl))
  f197 := Tryz.func104.trans (congrArg some (by kernel_rfl))
  f217 := Tryz.func99.trans (congrArg some (by kernel_rfl))
  f218 := Tryz.func105.trans (congrArg some (by kernel_rfl))
  f219 := Tryz.func95.trans (congrArg some (by kernel_rfl))
  f221 := Tryz.func93.trans (congrArg some (by kernel_rfl))
  f224 := Tryz.func101.trans (congrArg some (by kernel_rfl))
  f225 := Tryz.func100.trans (congrArg some (by kernel_rfl))
  f260 := Tryz.func108.trans (congrArg some (by kernel_rfl))
  f266 := Tryz.func106.trans (congrArg some (by kernel_rfl))
  f267 := Tryz.func102.trans (congrArg some (by kernel_rfl))
  f268 := Tryz.func96.trans (congrArg some (by kernel_rfl))
  f314 := Tryz.func107.trans (congrArg some (by kernel_rfl))
  t0 := Tryz.underlying0
  a0 := Tryz.isAgg0
  z0 := Tryz.sizeOf0
  v0 := Tryz.zeroValue0
  t3 := Tryz.underlying3
  a3 := Tryz.isAgg3
  z3 := Tryz.sizeOf3
  v3 := Tryz.zeroValue3
  t4 := Tryz.underlying4
  a4 := Tryz.isAgg4
  z4 := Tryz.sizeOf4
  v4 := Tryz.zeroValue4
  t5 := Tryz.underlying5
  a5 := Tryz.isAgg5
  z5 := Tryz.sizeOf5
  v5 := Tryz.zeroValue5
  t9 := Tryz.underlying9
  a9 := Tryz.isAgg9
  z9 := Tryz.sizeOf9
  v9 := Tryz.zeroValue9
  t21 := Tryz.underlying21
  a21 := Tryz.isAgg21
  z21 := Tryz.sizeOf21
  v21 := Tryz.zeroValue21
  t31 := Tryz.underlying116
  a31 := Tryz.isAgg116
  z31 := Tryz.sizeOf116
  v31 := Tryz.zeroValue116
  t46 := Tryz.underlying96
  a46 := Tryz.isAgg96
  z46 := Tryz.sizeOf96
  v46 := Tryz.zeroValue96
  t51 := Tryz.underlying154
  a51 := Tryz.isAgg154
  z51 := Tryz.sizeOf154
  v51 := Tryz.zeroValue154
  t105 := Tryz.underlying152
  a105 := Tryz.isAgg152
  z105 := Tryz.sizeOf152
  v105 := Tryz.zeroValue152
  t119 := Tryz.underlying157
  a119 := Tryz.isAgg157
  z119 := Tryz.sizeOf157
  t138 := Tryz.underlying159
  a138 := Tryz.isAgg159
  z138 := Tryz.sizeOf159
  v138 := Tryz.zeroValue159
  t139 := Tryz.underlying160
  a139 := Tryz.isAgg160
  z139 := Tryz.sizeOf160
  v139 := Tryz.zeroValue160
  t146 := Tryz.underlying155
  a146 := Tryz.isAgg155
  z146 := Tryz.sizeOf155
  v146 := Tryz.zeroValue155
  g1 := by kernel_rfl
  g3 := by kernel_rfl
  g4 := by kernel_rfl }
def ren145 : Go.Shelf.Ren := ⟨fun | 145 => 80 | 217 => 99 | 219 => 95 | 220 => 92 | 224 => 101 | 225 => 100 | 266 => 106 | 267 => 102 | 314 => 107 | n => n, fun | 3 => 3 | 4 => 4 | 5 => 5 | 9 => 9 | 46 => 96 | 51 => 154 | 59 => 136 | 146 => 155 | n => n, fun | 1 => 0 | n => n⟩
theorem lays145 : Go.Proofs.Lays.n145 Tryz.prog ren145 := {
  mixed := by kernel_rfl
  f145 := Tryz.func80.trans (congrArg some (by kernel_rfl))
  f217 := Tryz.func99.trans (congrArg some (by kernel_rfl))
  f219 := Tryz.func95.trans (congrArg some (by kernel_rfl))
  f220 := Tryz.func92.trans (congrArg some (by kernel_rfl))
  f224 := Tryz.func101.trans (congrArg some (by kernel_rfl))
  f225 := Tryz.func100.trans (congrArg some (by kernel_rfl))
  f266 := Tryz.func106.trans (congrArg some (by kernel_rfl))
  f267 := Tryz.func102.trans (congrArg some (by kernel_rfl))
  f314 := Tryz.func107.trans (congrArg some (by kernel_rfl))
  t3 := Tryz.underlying3
  a3 := Tryz.isAgg3
  z3 := Tryz.sizeOf3
  v3 := Tryz.zeroValue3
  t4 := Tryz.underlying4
  a4 := Tryz.isAgg4
  z4 := Tryz.sizeOf4
  v4 := Tryz.zeroValue4
  t5 := Tryz.underlying5
  a5 := Tryz.isAgg5
  z5 := Tryz.sizeOf5
  v5 := Tryz.zeroValue5
  t9 := Tryz.underlying9
  a9 := Tryz.isAgg9
  z9 := Tryz.sizeOf9
  v9 := Tryz.zeroValue9
  t46 := Tryz.underlying96
  a46 := Tryz.isAgg96
  z46 := Tryz.sizeOf96
  v46 := Tryz.zeroValue96
  t51 := Tryz.underlying154
  a51 := Tryz.isAgg154
  z51 := Tryz.sizeOf154
  v51 := Tryz.zeroValue154
  t59 := Tryz.underlying136
  a59 := Tryz.isAgg136
  z59 := Tryz.sizeOf136
  v59 := Tryz.zeroValue136
  t146 := Tryz.underlying155
  a146 := Tryz.isAgg155
  z146 := Tryz.sizeOf155
  v146 := Tryz.zeroValue155
  g1 := by kernel_rfl }
/-- the variable internal/bytealg.MaxLen holds an int -/
def MaxLenIs (w : World) (m : Int) : Prop := w.cell? ⟨0, 0, none⟩ = some (.int .i64 m)
/-- the cells of a row of texts -/
def textsRow (l : List ByteArray) : Array Value := (l.map Value.string).toArray
/-- strings.Split at one byte -/
theorem splitAt_any (s : ByteArray) (c : UInt8) (m : Int) (w : World) (hs : s.size < 4294967281) (hm : MaxLenIs w m) :
    Calls Tryz.prog 81 #[.string s, .string (bytesOf [c])] w fun e w' =>
      e = .returned (.slice (some ⟨w.heap.size, 0, none⟩) (Lib.countB s (bytesOf [c]) + 1) (Lib.countB s (bytesOf [c]) + 1)) ∧ w' = w.alloc (.cells (textsRow (Lib.splitB (bytesOf [c]) 0 (Lib.countB s (bytesOf [c])) s)) 9) :=
  Any.strings_Split lays146 (by kernel_rfl) s _ m w hs hm (by rw [bytesOf_size]; simp)
/-- strings.Cut -/
theorem cut_any (s sep : ByteArray) (m : Int) (w : World) (hs : s.size < 4294967281) (hm : MaxLenIs w m) :
    Calls Tryz.prog 80 #[.string s, .string sep] w fun e w' => e = .returned (.tuple #[.string ⟨(Lib.cut s.data.toList sep.data.toList).1.toArray⟩, .string ⟨(Lib.cut s.data.toList sep.data.toList).2.1.toArray⟩, .bool (Lib.cut s.data.toList sep.data.toList).2.2]) ∧ ∃ n, w' = w.drewN n :=
  Any.strings_Cut lays145 s sep m w hs hm
end Go.Proofs.YtagnbdenecphcaaGreatDoor
/-! Slices of values of one or many cells: read, owned, appended; worlds in which only some blocks have turned. -/
namespace Go.Proofs.YtagnbdenecphcaaGreatDoor
open Go.RowKit
set_option linter.unusedVariables false
/-- nothing has turned but blocks of S -/
structure Only (S : Nat → Prop) (w w' : World) : Prop where
  os : w'.os = w.os
  tape : w'.tape = w.tape
  output : w'.output = w.output
  size : w.heap.size ≤ w'.heap.size
  block : ∀ k, k < w.heap.size → ¬ S k → w'.heap[k]? = w.heap[k]?
section
variable {S T : Nat → Prop} {w w1 w2 : World}
theorem Only.refl (S : Nat → Prop) (w : World) : Only S w w := ⟨rfl, rfl, rfl, Nat.le_refl _, fun _ _ _ => rfl⟩
theorem Only.trans (h : Only S w w1) (k : Only S w1 w2) : Only S w w2 :=
  ⟨k.os.trans h.os, k.tape.trans h.tape, k.output.trans h.output, Nat.le_trans h.size k.size, fun i hi hn => (k.block i (Nat.lt_of_lt_of_le hi h.size) hn).trans (h.block i hi hn)⟩
theorem Only.mono (h : Only S w w1) (hs : ∀ k, k < w.heap.size → S k → T k) : Only T w w1 := ⟨h.os, h.tape, h.output, h.size, fun k hk hn => h.block k hk fun e => hn (hs k hk e)⟩
theorem Only.ofBelow (h : Below w.heap.size w w1) : Only S w w1 := ⟨h.os, h.tape, h.output, h.size, fun k hk _ => h.block k hk⟩
theorem Only.below (h : Only S w w1) {B : Nat} (hB : B ≤ w.heap.size) (hs : ∀ k, S k → B ≤ k) : Below B w w1 :=
  ⟨h.os, h.tape, h.output, h.size, fun k hk => h.block k (by omega) fun e => by have := hs k e; omega⟩
/-- a step that turns nothing of what was there when it began -/
theorem Only.then (h : Only S w w1) (k : Below w1.heap.size w1 w2) : Only S w w2 := h.trans (Only.ofBelow k)
/-- a step whose blocks are of S, or were not there at the beginning -/
theorem Only.and (h : Only S w w1) (k : Only T w1 w2) (hs : ∀ i, T i → S i ∨ w.heap.size ≤ i) : Only S w w2 :=
  ⟨k.os.trans h.os, k.tape.trans h.tape, k.output.trans h.output, Nat.le_trans h.size k.size, fun i hi hn =>
    (k.block i (Nat.lt_of_lt_of_le hi h.size) (fun e => by rcases hs i e with h | h; exact hn h; omega)).trans (h.block i hi hn)⟩
theorem Only.alloc (h : Only S w w1) (o : Obj) : Only S w (w1.alloc o) := h.then ((Below.refl _ _).alloc (Nat.le_refl _) o)
theorem Only.drew (h : Only S w w1) : Only S w w1.drew := h.then (Below.refl _ _).drew
theorem Only.set (h : Only S w w1) {a : Addr} (ha : S a.block ∨ w.heap.size ≤ a.block) (x : Value) : Only S w (w1.setCell a x) :=
  ⟨h.os, h.tape, h.output, by simpa [World.setCell] using h.size, fun k hk hn => by
    rw [Below.heap_setCell _ _ _ _ (fun e => by subst e; rcases ha with h | h; exact hn h; omega)]
    exact h.block k hk hn⟩
theorem Only.cell (h : Only S w w1) {a : Addr} {v : Value} (hc : w.cell? a = some v) (hn : ¬ S a.block) : w1.cell? a = some v :=
  (World.cell?_of_block (h.block a.block (block_lt_of_cell hc) hn)).trans hc
theorem Only.heap (h : Only S w w1) {k : Nat} {o : Obj} (hk : w.heap[k]? = some o) (hn : ¬ S k) : w1.heap[k]? = some o :=
  (h.block k (Array.getElem?_eq_some_iff.1 hk).1 hn).trans hk
end
theorem below_of {w w' : World} (h : Below w.heap.size w w') {k : Nat} {o : Obj} (hk : w.heap[k]? = some o) : w'.heap[k]? = some o :=
  (h.block k (Array.getElem?_eq_some_iff.1 hk).1).trans hk
/-- an element type of slices, and how its values are read -/
structure Elem (P : Program) (α : Type) where
  tS : TypeId
  tE : TypeId
  size : Nat
  bytes : Nat
  z : Value
  enc : α → List Value
  und : P.underlying tS = some (.slice tE)
  info : (P.info? tE).map (fun i => (i.zero, i.size, i.bytes)) = some (some z, size, bytes)
  zs : z.cells.size = size
  len : ∀ a, (enc a).length = size
  one : ∀ a, ∀ u ∈ enc a, u.oneCell' = true
  pos : 0 < size
section
variable {P : Program} {α : Type} (E : Elem P α)
theorem Elem.length (l : List α) : (l.flatMap E.enc).length = l.length * E.size := by
  induction l with
  | nil => simp
  | cons a l ih => rw [List.flatMap_cons, List.length_append, ih, E.len, List.length_cons, Nat.add_mul]; omega
theorem Elem.at (l : List α) : ∀ j (h : j < l.length) i, i < E.size → (l.flatMap E.enc)[j * E.size + i]? = (E.enc l[j])[i]? := by
  induction l with
  | nil => intro j h; simp at h
  | cons a l ih =>
    intro j h i hi
    rw [List.flatMap_cons]
    cases j with
    | zero => rw [Nat.zero_mul, Nat.zero_add, List.getElem?_append_left (by rw [E.len]; exact hi)]; rfl
    | succ j =>
      rw [List.getElem?_append_right (by rw [E.len, Nat.add_mul]; omega), E.len]
      have e : (j + 1) * E.size + i - E.size = j * E.size + i := by rw [Nat.add_mul]; omega
      rw [e]
      exact ih j (by simpa using h) i hi
theorem Elem.one' (l : List α) : ∀ u ∈ l.flatMap E.enc, u.oneCell' = true := by
  intro u hu
  obtain ⟨a, _, h⟩ := List.mem_flatMap.1 hu
  exact E.one a u h
/-- v is a slice that reads as l -/
def SeqAt (w : World) (v : Value) (l : List α) : Prop :=
  (l = [] ∧ v = .slice none 0 0) ∨ ∃ g o c, v = .slice (some ⟨g, o, none⟩) l.length c ∧ l.length ≤ c ∧ c ≤ maxLen ∧ g < w.heap.size ∧ ∀ j (h : j < l.length) i, i < E.size → w.cell? ⟨g, o + j * E.size + i, none⟩ = (E.enc l[j])[i]?
/-- v is a slice of the call's own (nil, or from block base on), that reads as l -/
def OwnE (w : World) (base : Nat) (v : Value) (l : List α) : Prop := w.ownsRow base E.tE E.size v l.length (l.flatMap E.enc)
variable {E} {w w' : World} {v : Value} {l : List α} {bs : Nat}
theorem SeqAt.nil (E : Elem P α) (w : World) : SeqAt E w (.slice none 0 0) [] := .inl ⟨rfl, rfl⟩
theorem SeqAt.lt (h : SeqAt E w v l) : ∀ k, v.ownBlock = some k → k < w.heap.size := by
  intro k hk
  rcases h with ⟨_, rfl⟩ | ⟨g, o, c, rfl, _, _, hg, _⟩
  · cases hk
  · cases hk; exact hg
theorem SeqAt.only {S : Nat → Prop} (h : SeqAt E w v l) (ho : Only S w w') (hn : ∀ k, v.ownBlock = some k → ¬ S k) : SeqAt E w' v l := by
  rcases h with h | ⟨g, o, c, rfl, h1, h2, hg, hc⟩
  · exact .inl h
  · refine .inr ⟨g, o, c, rfl, h1, h2, Nat.lt_of_lt_of_le hg ho.size, fun j hj i hi => ?_⟩
    rw [← hc j hj i hi]
    exact World.cell?_of_block (ho.block g hg (hn g rfl))
theorem SeqAt.below (h : SeqAt E w v l) (hb : Below w.heap.size w w') : SeqAt E w' v l := h.only (S := fun _ => False) (Only.ofBelow hb) (fun _ _ h => h)
theorem SeqAt.form (h : SeqAt E w v l) : ∃ a c, v = .slice a l.length c ∧ l.length ≤ c ∧ c ≤ maxLen := by
  rcases h with ⟨rfl, rfl⟩ | ⟨g, o, c, rfl, h1, h2, _⟩
  · exact ⟨none, 0, rfl, Nat.le_refl _, Nat.zero_le _⟩
  · exact ⟨_, c, rfl, h1, h2⟩
theorem SeqAt.le (h : SeqAt E w v l) : l.length ≤ 9223372036854775807 := by
  obtain ⟨a, c, _, h1, h2⟩ := h.form
  unfold maxLen at h2; omega
theorem OwnE.nil (E : Elem P α) (w : World) (b0 : Nat) : OwnE E w b0 (.slice none 0 0) [] := ⟨by simp, .inl ⟨rfl, rfl⟩⟩
theorem OwnE.block (h : OwnE E w bs v l) : ∀ k, v.ownBlock = some k → bs ≤ k := by
  intro k hk
  rcases h.2 with ⟨rfl, _⟩ | ⟨g, cap, cur, rfl, hg, _⟩
  · cases hk
  · cases hk; exact hg
theorem OwnE.lt (h : OwnE E w bs v l) : ∀ k, v.ownBlock = some k → k < w.heap.size := by
  intro k hk
  rcases h.2 with ⟨rfl, _⟩ | ⟨g, cap, cur, rfl, hg, hh, _⟩
  · cases hk
  · cases hk; exact (Array.getElem?_eq_some_iff.1 hh).1
theorem OwnE.only {S : Nat → Prop} (h : OwnE E w bs v l) (ho : Only S w w') (hn : ∀ k, v.ownBlock = some k → ¬ S k) : OwnE E w' bs v l := by
  refine ⟨h.1, ?_⟩
  rcases h.2 with h2 | ⟨g, cap, cur, rfl, hg, hh, r⟩
  · exact .inl h2
  · exact .inr ⟨g, cap, cur, rfl, hg, ho.heap hh (hn g rfl), r⟩
theorem OwnE.below (h : OwnE E w bs v l) (hb : Below w.heap.size w w') : OwnE E w' bs v l := h.only (S := fun _ => False) (Only.ofBelow hb) (fun _ _ h => h)
theorem OwnE.base {b' : Nat} (h : OwnE E w bs v l) (hb : b' ≤ bs) : OwnE E w b' v l := by
  refine ⟨h.1, ?_⟩
  rcases h.2 with h2 | ⟨g, cap, cur, hv, hg, r⟩
  · exact .inl h2
  · exact .inr ⟨g, cap, cur, hv, by omega, r⟩
theorem OwnE.at (h : OwnE E w bs v l) : SeqAt E w v l := by
  rcases h.2 with ⟨rfl, h0⟩ | ⟨g, cap, cur, rfl, hg, hh, hn, hm, hs, ht⟩
  · exact .inl ⟨List.eq_nil_of_length_eq_zero h0, rfl⟩
  · refine .inr ⟨g, 0, cap, rfl, hn, hm, (Array.getElem?_eq_some_iff.1 hh).1, fun j hj i hi => ?_⟩
    rw [← E.at l j hj i hi, ← ht, List.getElem?_take]
    have hle : j * E.size + E.size ≤ l.length * E.size := by
      have := Nat.mul_le_mul_right E.size (show j + 1 ≤ l.length by omega)
      rw [Nat.add_mul] at this; omega
    rw [if_pos (by omega), Nat.zero_add]
    simp [World.cell?, hh]
theorem info_of (E : Elem P α) : ∃ i, P.info? E.tE = some i ∧ i.zero = some E.z ∧ i.size = E.size ∧ i.bytes = E.bytes := by
  have h := E.info
  cases e : P.info? E.tE with
  | none => rw [e] at h; cases h
  | some i => rw [e] at h; simp at h; exact ⟨i, rfl, h.1, h.2.1, h.2.2⟩
/-- append of one value that was just laid in a row of its own -/
theorem wpList_appE {ops : Array Oper} {rest : List Oper} {o : Oper} {act : Act} {w : World} {Q : Exit → Act → World → Prop} (E : Elem P α) (hgd : o.guard = none) (s x : Operand)
    (ho : o.op = .call { callee := .builtin .append, args := #[s, x], argTypes := #[E.tS, E.tS] })
    (W0 : World) (v : Value) (l : List α) (a : α) (c : Nat) (hown : OwnE E w W0.heap.size v l) (hs : act.eval s = v) (B : Nat) (hx : act.eval x = .slice (some ⟨B, 0, none⟩) 1 c) (hB : B = w.heap.size)
    (hlen : (l.length + 1) * E.bytes ≤ 140737488355328) (hbel : Below W0.heap.size W0 w) (hb1 : 1 ≤ E.bytes)
    (h : ∀ v' w', OwnE E w' W0.heap.size v' (l ++ [a]) → Below W0.heap.size W0 w' → Only (fun k => v.ownBlock = some k) w w' → (v'.ownBlock = v.ownBlock ∨ ∃ k, v'.ownBlock = some k ∧ w.heap.size ≤ k) → wpList P ops Q rest (act.put o.dst v') w') :
    wpList P ops Q (o :: rest) act (w.alloc (.cells (E.enc a).toArray E.tE)) := by
  subst hB
  obtain ⟨i0, hi, hz0, hz1, hz2⟩ := info_of E
  have hb2 : Below W0.heap.size W0 (w.alloc (.cells (E.enc a).toArray E.tE)) := allocB hbel _
  refine wpList_append_own_at _ hgd s x _ ho W0.heap.size E.tE i0 E.z E.size E.bytes E.und hi hz0 hz1 hz2 E.zs E.pos v l.length (l.flatMap E.enc) hs (hown.below ((Below.refl _ _).alloc (Nat.le_refl _) _)) ⟨w.heap.size, 0, none⟩ 1 c (E.enc a) hx (by rw [E.len, Nat.one_mul]) ?_ (E.one a) ?_ hlen hb2.size ?_
  · intro j u hu
    have hadd : (⟨w.heap.size, 0, none⟩ : Addr).add j = ⟨w.heap.size, j, none⟩ := by unfold Addr.add; split <;> simp_all
    rw [hadd, World.cell?_alloc_new]
    simpa using hu
  · have := Nat.le_mul_of_pos_right (l.length + 1) hb1
    simp only [maxLen]; omega
  · intro v' w' hown' hg _ hat
    refine h v' w' ?_ (hb2.grown hg hb2.size hown.block) ?_ (hat.imp id fun e => ⟨_, e, by simp⟩)
    · unfold OwnE
      rw [List.flatMap_append, List.length_append]
      simpa using hown'
    · refine (((Only.refl _ w).alloc (.cells (E.enc a).toArray E.tE)).and (T := fun k => v.ownBlock = some k) ⟨hg.os, hg.tape, hg.output, hg.size, fun k hk hn => hg.block k hk fun e => hn e.symm⟩ fun i hi => .inl hi)
/-- append of all of a slice -/
theorem wpList_appSeq {ops : Array Oper} {rest : List Oper} {o : Oper} {act : Act} {w : World} {Q : Exit → Act → World → Prop} (E : Elem P α) (hgd : o.guard = none) (s x : Operand)
    (ho : o.op = .call { callee := .builtin .append, args := #[s, x], argTypes := #[E.tS, E.tS] })
    (W0 : World) (v v2 : Value) (l l2 : List α) (hown : OwnE E w W0.heap.size v l) (hsrc : SeqAt E w v2 l2) (hs : act.eval s = v) (hx : act.eval x = v2)
    (hlen : (l.length + l2.length) * E.bytes ≤ 140737488355328) (hbel : Below W0.heap.size W0 w) (hb1 : 1 ≤ E.bytes)
    (h : ∀ v' w', OwnE E w' W0.heap.size v' (l ++ l2) → Below W0.heap.size W0 w' → Only (fun k => v.ownBlock = some k) w w' → (v'.ownBlock = v.ownBlock ∨ ∃ k, v'.ownBlock = some k ∧ w.heap.size ≤ k) → wpList P ops Q rest (act.put o.dst v') w') :
    wpList P ops Q (o :: rest) act w := by
  obtain ⟨i0, hi, hz0, hz1, hz2⟩ := info_of E
  rcases hsrc with ⟨rfl, rfl⟩ | ⟨g, o2, c, rfl, h1, h2, hg, hc⟩
  · exact wpList_append_own_none hgd s x _ ho W0.heap.size E.tE i0 E.size E.und hi v l.length (l.flatMap E.enc) hs hown hx (h v w (by rw [List.append_nil]; exact hown) hbel (Only.refl _ _) (.inl rfl))
  · refine wpList_append_own_at _ hgd s x _ ho W0.heap.size E.tE i0 E.z E.size E.bytes E.und hi hz0 hz1 hz2 E.zs E.pos v l.length (l.flatMap E.enc) hs hown ⟨g, o2, none⟩ l2.length c (l2.flatMap E.enc) hx (E.length l2) ?_ (E.one' l2) ?_ hlen hbel.size ?_
    · intro j u hu
      have hj : j < l2.length * E.size := by
        have := (List.getElem?_eq_some_iff.1 hu).1
        rw [E.length] at this; exact this
      have hdm := Nat.div_add_mod j E.size
      have hm := Nat.mod_lt j E.pos
      have hd : j / E.size < l2.length := Nat.div_lt_of_lt_mul (by rw [Nat.mul_comm]; exact hj)
      have hadd : (⟨g, o2, none⟩ : Addr).add j = ⟨g, o2 + j, none⟩ := by unfold Addr.add; split <;> simp_all
      have hjj : j = j / E.size * E.size + j % E.size := by rw [Nat.mul_comm]; omega
      have hcj := hc (j / E.size) hd (j % E.size) hm
      rw [← E.at l2 (j / E.size) hd (j % E.size) hm, ← hjj, hu, Nat.add_assoc, ← hjj] at hcj
      rw [hadd]; exact hcj
    · have := Nat.le_mul_of_pos_right (l.length + l2.length) hb1
      simp only [maxLen]; omega
    · intro v' w' hown' hg' _ hat
      refine h v' w' ?_ (hbel.grown hg' hbel.size hown.block) ?_ (hat.imp id fun e => ⟨_, e, Nat.le_refl _⟩)
      · unfold OwnE
        rw [List.flatMap_append, List.length_append]
        exact hown'
      · exact ⟨hg'.os, hg'.tape, hg'.output, hg'.size, fun k hk hn => hg'.block k hk fun e => hn e.symm⟩
end
/-- a region that draws: reads and quiet calls, then one operation that writes -/
theorem wp_stillTail {P : Program} {id : Nat} {Q : Exit → Act → World → Prop} {a : Act} {w : World} {l : List Oper} (n : Nat) (hm : P.follows .mixedOrders = true) (hB : Region.lexTailB .any l.toArray n = true)
    (h : wpStill P l.toArray w.drew (fun a' => wpList P l.toArray Q (l.drop n) a' w.drew) (l.take n) a) : (Code.region id l.toArray true).wp P Q a w :=
  wp_region_still_tail n hm hB h
/-- the same, nothing is written -/
theorem wp_stillAll {P : Program} {id : Nat} {Q : Exit → Act → World → Prop} {a : Act} {w : World} {l : List Oper} (hm : P.follows .mixedOrders = true) (hB : Region.lexB .any l.toArray = true)
    (h : wpStill P l.toArray w.drew (fun a' => Q .normal a' w.drew) l a) : (Code.region id l.toArray true).wp P Q a w :=
  wp_region_still_lit hm hB h
end Go.Proofs.YtagnbdenecphcaaGreatDoor
/-! Slices of bytes that a call makes by appending. -/
namespace Go.Proofs.YtagnbdenecphcaaGreatDoor
open Go.RowKit
theorem infoU8 : (Tryz.prog.info? 5).map (fun i => (i.zero, i.size, i.bytes)) = some (some (.int .u8 0), 1, 1) := by kernel_rfl
/-- v is a slice of bytes of the call's own (nil, or from block base on), that reads as l -/
def Own (w : World) (base : Nat) (v : Value) (l : List UInt8) : Prop := w.ownsRow base 5 1 v l.length (Lib.byteCells l)
theorem Own.nil (w : World) (base : Nat) : Own w base (.slice none 0 0) [] := ⟨rfl, .inl ⟨rfl, rfl⟩⟩
theorem Own.block {w : World} {base : Nat} {v : Value} {l : List UInt8} (h : Own w base v l) : ∀ k, v.ownBlock = some k → base ≤ k := by
  intro k hk
  rcases h.2 with ⟨rfl, _⟩ | ⟨g, cap, cur, rfl, hg, _⟩
  · cases hk
  · cases hk; exact hg
theorem Own.below {w w' : World} {base : Nat} {v : Value} {l : List UInt8} (h : Own w base v l) (hb : Below w.heap.size w w') : Own w' base v l := by
  refine ⟨h.1, ?_⟩
  rcases h.2 with h2 | ⟨g, cap, cur, hv, hg, hh, r⟩
  · exact .inl h2
  · exact .inr ⟨g, cap, cur, hv, hg, (hb.block g (Array.getElem?_eq_some_iff.1 hh).1).trans hh, r⟩
theorem Own.form {w : World} {base : Nat} {v : Value} {l : List UInt8} (h : Own w base v l) : ∃ a c, v = .slice a l.length c := by
  rcases h.2 with ⟨rfl, h0⟩ | ⟨g, cap, cur, rfl, _⟩
  · exact ⟨none, 0, by rw [h0]⟩
  · exact ⟨_, _, rfl⟩
theorem Own.conv {w : World} {base : Nat} {v : Value} {l : List UInt8} (h : Own w base v l) : (convert 97 9 v).run Tryz.prog w = .ok (.string (bytesOf l)) w := by
  rcases h.2 with ⟨rfl, h0⟩ | ⟨g, cap, cur, rfl, hg, hh, hn, hm, hs, ht⟩
  · have : l = [] := List.eq_nil_of_length_eq_zero h0
    subst this
    exact run_convert_bytes_nil w _ _ Tryz.underlying97 Tryz.underlying5 0 0 _ Tryz.underlying9
  · refine run_convert_bytes_back w _ _ _ ⟨g, 0, none⟩ cap l Tryz.underlying97 Tryz.underlying5 Tryz.underlying9 fun j hj => ?_
    have hadd : (⟨g, 0, none⟩ : Addr).add j = ⟨g, j, none⟩ := by unfold Addr.add; split <;> simp_all
    rw [hadd]
    have e : cur[j]? = (Lib.byteCells l)[j]? := by
      rw [← ht, List.getElem?_take, if_pos (by omega)]; simp
    simp [World.cell?, hh, e, Lib.byteCells, hj]
/-- append of bytes that were just laid in a row of their own -/
theorem wpList_app {ops : Array Oper} {rest : List Oper} {o : Oper} {a : Act} {w : World} {Q : Exit → Act → World → Prop} (hgd : o.guard = none) (s x : Operand)
    (ho : o.op = .call { callee := .builtin .append, args := #[s, x], argTypes := #[97, 97] })
    (W0 : World) (v : Value) (l news : List UInt8) (n c : Nat) (cells : Array Value) (hown : Own w W0.heap.size v l) (hs : a.eval s = v) (hx : a.eval x = .slice (some ⟨w.heap.size, 0, none⟩) n c)
    (hc : cells = (Lib.byteCells news).toArray) (hn : n = news.length) (hlen : l.length + news.length ≤ 140737488355328) (hbel : Below W0.heap.size W0 w)
    (h : ∀ v' w', Own w' W0.heap.size v' (l ++ news) → Below W0.heap.size W0 w' → wpList Tryz.prog ops Q rest (a.put o.dst v') w') :
    wpList Tryz.prog ops Q (o :: rest) a (w.alloc (.cells cells 5)) := by
  subst hc; subst hn
  obtain ⟨i0, hi, hz0, hz1, hz2⟩ := info_parts infoU8
  have hb2 : Below W0.heap.size W0 (w.alloc (.cells (Lib.byteCells news).toArray 5)) := allocB hbel _
  refine wpList_append_own _ hgd s x _ ho W0.heap.size 5 i0 (.int .u8 0) 1 1 Tryz.underlying97 hi hz0 hz1 hz2 rfl (by decide) v l.length (Lib.byteCells l) hs (hown.below ((Below.refl _ _).alloc (Nat.le_refl _) _)) ⟨w.heap.size, 0, none⟩ news.length c (Lib.byteCells news) hx (by rw [Lib.byteCells_length, Nat.mul_one]) ?_ ?_ ?_ ?_ ?_ ?_
  · intro j u hu
    have hadd : (⟨w.heap.size, 0, none⟩ : Addr).add j = ⟨w.heap.size, j, none⟩ := by unfold Addr.add; split <;> simp_all
    rw [hadd, World.cell?_alloc_new]
    simpa using hu
  · intro u hu
    obtain ⟨b, _, rfl⟩ := List.mem_map.1 hu
    rfl
  · simp only [maxLen]; omega
  · omega
  · exact hb2.size
  · intro v' w' hown' hg _
    refine h v' w' ?_ (hb2.grown hg hb2.size hown.block)
    have e : Lib.byteCells (l ++ news) = Lib.byteCells l ++ Lib.byteCells news := by simp [Lib.byteCells]
    unfold Own
    rw [e, List.length_append]
    exact hown'
end Go.Proofs.YtagnbdenecphcaaGreatDoor
/-! Slices of texts: read, appended; SameTexts. -/
namespace Go.Proofs.YtagnbdenecphcaaGreatDoor
open Go.RowKit
theorem infoStr : (Tryz.prog.info? 9).map (fun i => (i.zero, i.size, i.bytes)) = some (some (.string ByteArray.empty), 1, 16) := by kernel_rfl
/-- v is a slice of texts that reads as l -/
def TextsAt (w : World) (v : Value) (l : List ByteArray) : Prop :=
  (l = [] ∧ v = .slice none 0 0) ∨ ∃ g o c, v = .slice (some ⟨g, o, none⟩) l.length c ∧ ∀ j (h : j < l.length), w.cell? ⟨g, o + j, none⟩ = some (.string l[j])
theorem TextsAt.below {w w' : World} {v : Value} {l : List ByteArray} (h : TextsAt w v l) (hb : Below w.heap.size w w') : TextsAt w' v l := by
  rcases h with h | ⟨g, o, c, rfl, hc⟩
  · exact .inl h
  · refine .inr ⟨g, o, c, rfl, fun j hj => (hb.cell ?_).trans (hc j hj)⟩
    exact block_lt_of_cell (hc j hj)
/-- v is a slice of texts of the call's own (nil, or from block base on), that reads as l -/
def OwnT (w : World) (base : Nat) (v : Value) (l : List ByteArray) : Prop := w.ownsRow base 9 1 v l.length (l.map Value.string)
theorem OwnT.nil (w : World) (base : Nat) : OwnT w base (.slice none 0 0) [] := ⟨rfl, .inl ⟨rfl, rfl⟩⟩
theorem OwnT.block {w : World} {base : Nat} {v : Value} {l : List ByteArray} (h : OwnT w base v l) : ∀ k, v.ownBlock = some k → base ≤ k := by
  intro k hk
  rcases h.2 with ⟨rfl, _⟩ | ⟨g, cap, cur, rfl, hg, _⟩
  · cases hk
  · cases hk; exact hg
theorem OwnT.below {w w' : World} {base : Nat} {v : Value} {l : List ByteArray} (h : OwnT w base v l) (hb : Below w.heap.size w w') : OwnT w' base v l := by
  refine ⟨h.1, ?_⟩
  rcases h.2 with h2 | ⟨g, cap, cur, hv, hg, hh, r⟩
  · exact .inl h2
  · exact .inr ⟨g, cap, cur, hv, hg, (hb.block g (Array.getElem?_eq_some_iff.1 hh).1).trans hh, r⟩
theorem OwnT.form {w : World} {base : Nat} {v : Value} {l : List ByteArray} (h : OwnT w base v l) : ∃ a c, v = .slice a l.length c := by
  rcases h.2 with ⟨rfl, h0⟩ | ⟨g, cap, cur, rfl, _⟩
  · exact ⟨none, 0, by rw [h0]⟩
  · exact ⟨_, _, rfl⟩
theorem OwnT.at {w : World} {base : Nat} {v : Value} {l : List ByteArray} (h : OwnT w base v l) : TextsAt w v l := by
  rcases h.2 with ⟨rfl, h0⟩ | ⟨g, cap, cur, rfl, hg, hh, hn, hm, hs, ht⟩
  · exact .inl ⟨List.eq_nil_of_length_eq_zero h0, rfl⟩
  · refine .inr ⟨g, 0, cap, rfl, fun j hj => ?_⟩
    have e : cur[j]? = (l.map Value.string)[j]? := by
      rw [← ht, List.getElem?_take, if_pos (by omega)]; simp
    simp [World.cell?, hh, e, hj]
/-- append of one text that was just laid in a row of its own -/
theorem wpList_appT {ops : Array Oper} {rest : List Oper} {o : Oper} {a : Act} {w : World} {Q : Exit → Act → World → Prop} (hgd : o.guard = none) (s x : Operand)
    (ho : o.op = .call { callee := .builtin .append, args := #[s, x], argTypes := #[116, 116] })
    (W0 : World) (v : Value) (l : List ByteArray) (p : ByteArray) (c : Nat) (hown : OwnT w W0.heap.size v l) (hs : a.eval s = v) (hx : a.eval x = .slice (some ⟨w.heap.size, 0, none⟩) 1 c)
    (hlen : (l.length + 1) * 16 ≤ 140737488355328) (hbel : Below W0.heap.size W0 w)
    (h : ∀ v' w', OwnT w' W0.heap.size v' (l ++ [p]) → Below W0.heap.size W0 w' → wpList Tryz.prog ops Q rest (a.put o.dst v') w') :
    wpList Tryz.prog ops Q (o :: rest) a (w.alloc (.cells #[.string p] 9)) := by
  obtain ⟨i0, hi, hz0, hz1, hz2⟩ := info_parts infoStr
  have hb2 : Below W0.heap.size W0 (w.alloc (.cells #[.string p] 9)) := allocB hbel _
  refine wpList_append_own _ hgd s x _ ho W0.heap.size 9 i0 (.string ByteArray.empty) 1 16 Tryz.underlying116 hi hz0 hz1 hz2 rfl (by decide) v l.length (l.map Value.string) hs (hown.below ((Below.refl _ _).alloc (Nat.le_refl _) _)) ⟨w.heap.size, 0, none⟩ 1 c [.string p] hx rfl ?_ ?_ ?_ ?_ ?_ ?_
  · intro j u hu
    have hadd : (⟨w.heap.size, 0, none⟩ : Addr).add j = ⟨w.heap.size, j, none⟩ := by unfold Addr.add; split <;> simp_all
    rw [hadd, World.cell?_alloc_new]
    simpa using hu
  · intro u hu
    rw [List.mem_singleton] at hu
    subst hu; rfl
  · simp only [maxLen]; omega
  · exact hlen
  · exact hb2.size
  · intro v' w' hown' hg _
    refine h v' w' ?_ (hb2.grown hg hb2.size hown.block)
    unfold OwnT
    rw [List.map_append, List.length_append]
    exact hown'
end Go.Proofs.YtagnbdenecphcaaGreatDoor
/-! Slices of ints: read, appended; SameInts. -/
namespace Go.Proofs.YtagnbdenecphcaaGreatDoor
open Go.RowKit
theorem infoInt : (Tryz.prog.info? 3).map (fun i => (i.zero, i.size, i.bytes)) = some (some (.int .i64 0), 1, 8) := by kernel_rfl
/-- v is a slice of ints that reads as l -/
def IntsAt (w : World) (v : Value) (l : List Int) : Prop :=
  (l = [] ∧ v = .slice none 0 0) ∨ ∃ g o c, v = .slice (some ⟨g, o, none⟩) l.length c ∧ ∀ j (h : j < l.length), w.cell? ⟨g, o + j, none⟩ = some (.int .i64 l[j])
theorem IntsAt.below {w w' : World} {v : Value} {l : List Int} (h : IntsAt w v l) (hb : Below w.heap.size w w') : IntsAt w' v l := by
  rcases h with h | ⟨g, o, c, rfl, hc⟩
  · exact .inl h
  · refine .inr ⟨g, o, c, rfl, fun j hj => (hb.cell ?_).trans (hc j hj)⟩
    exact block_lt_of_cell (hc j hj)
/-- v is a slice of ints of the call's own (nil, or from block base on), that reads as l -/
def OwnI (w : World) (base : Nat) (v : Value) (l : List Int) : Prop := w.ownsRow base 3 1 v l.length (l.map (Value.int .i64))
theorem OwnI.nil (w : World) (base : Nat) : OwnI w base (.slice none 0 0) [] := ⟨rfl, .inl ⟨rfl, rfl⟩⟩
theorem OwnI.block {w : World} {base : Nat} {v : Value} {l : List Int} (h : OwnI w base v l) : ∀ k, v.ownBlock = some k → base ≤ k := by
  intro k hk
  rcases h.2 with ⟨rfl, _⟩ | ⟨g, cap, cur, rfl, hg, _⟩
  · cases hk
  · cases hk; exact hg
theorem OwnI.below {w w' : World} {base : Nat} {v : Value} {l : List Int} (h : OwnI w base v l) (hb : Below w.heap.size w w') : OwnI w' base v l := by
  refine ⟨h.1, ?_⟩
  rcases h.2 with h2 | ⟨g, cap, cur, hv, hg, hh, r⟩
  · exact .inl h2
  · exact .inr ⟨g, cap, cur, hv, hg, (hb.block g (Array.getElem?_eq_some_iff.1 hh).1).trans hh, r⟩
theorem OwnI.base {w : World} {base b' : Nat} {v : Value} {l : List Int} (h : OwnI w base v l) (hb : b' ≤ base) : OwnI w b' v l := by
  refine ⟨h.1, ?_⟩
  rcases h.2 with h2 | ⟨g, cap, cur, hv, hg, hh, r⟩
  · exact .inl h2
  · exact .inr ⟨g, cap, cur, hv, by omega, hh, r⟩
theorem OwnI.form {w : World} {base : Nat} {v : Value} {l : List Int} (h : OwnI w base v l) : ∃ a c, v = .slice a l.length c := by
  rcases h.2 with ⟨rfl, h0⟩ | ⟨g, cap, cur, rfl, _⟩
  · exact ⟨none, 0, by rw [h0]⟩
  · exact ⟨_, _, rfl⟩
theorem OwnI.at {w : World} {base : Nat} {v : Value} {l : List Int} (h : OwnI w base v l) : IntsAt w v l := by
  rcases h.2 with ⟨rfl, h0⟩ | ⟨g, cap, cur, rfl, hg, hh, hn, hm, hs, ht⟩
  · exact .inl ⟨List.eq_nil_of_length_eq_zero h0, rfl⟩
  · refine .inr ⟨g, 0, cap, rfl, fun j hj => ?_⟩
    have e : cur[j]? = (l.map (Value.int .i64))[j]? := by
      rw [← ht, List.getElem?_take, if_pos (by omega)]; simp
    simp [World.cell?, hh, e, hj]
/-- append of one int that was just laid in a row of its own -/
theorem wpList_appI {ops : Array Oper} {rest : List Oper} {o : Oper} {a : Act} {w : World} {Q : Exit → Act → World → Prop} (hgd : o.guard = none) (s x : Operand)
    (ho : o.op = .call { callee := .builtin .append, args := #[s, x], argTypes := #[85, 85] })
    (W0 : World) (v : Value) (l : List Int) (p : Int) (c : Nat) (hown : OwnI w W0.heap.size v l) (hs : a.eval s = v) (hx : a.eval x = .slice (some ⟨w.heap.size, 0, none⟩) 1 c)
    (hlen : (l.length + 1) * 8 ≤ 140737488355328) (hbel : Below W0.heap.size W0 w)
    (h : ∀ v' w', OwnI w' W0.heap.size v' (l ++ [p]) → Below W0.heap.size W0 w' → wpList Tryz.prog ops Q rest (a.put o.dst v') w') :
    wpList Tryz.prog ops Q (o :: rest) a (w.alloc (.cells #[.int .i64 p] 3)) := by
  obtain ⟨i0, hi, hz0, hz1, hz2⟩ := info_parts infoInt
  have hb2 : Below W0.heap.size W0 (w.alloc (.cells #[.int .i64 p] 3)) := allocB hbel _
  refine wpList_append_own _ hgd s x _ ho W0.heap.size 3 i0 (.int .i64 0) 1 8 Tryz.underlying85 hi hz0 hz1 hz2 rfl (by decide) v l.length (l.map (Value.int .i64)) hs (hown.below ((Below.refl _ _).alloc (Nat.le_refl _) _)) ⟨w.heap.size, 0, none⟩ 1 c [.int .i64 p] hx rfl ?_ ?_ ?_ ?_ ?_ ?_
  · intro j u hu
    have hadd : (⟨w.heap.size, 0, none⟩ : Addr).add j = ⟨w.heap.size, j, none⟩ := by unfold Addr.add; split <;> simp_all
    rw [hadd, World.cell?_alloc_new]
    simpa using hu
  · intro u hu
    rw [List.mem_singleton] at hu
    subst hu; rfl
  · simp only [maxLen]; omega
  · exact hlen
  · exact hb2.size
  · intro v' w' hown' hg _
    refine h v' w' ?_ (hb2.grown hg hb2.size hown.block)
    unfold OwnI
    rw [List.map_append, List.length_append]
    exact hown'
/-- append of one int that was just laid in a row of its own -/
theorem wpList_appI2 {ops : Array Oper} {rest : List Oper} {o : Oper} {a : Act} {w : World} {Q : Exit → Act → World → Prop} (hgd : o.guard = none) (s x : Operand)
    (ho : o.op = .call { callee := .builtin .append, args := #[s, x], argTypes := #[85, 85] })
    (W0 : World) (v : Value) (l : List Int) (p : Int) (c : Nat) (hown : OwnI w W0.heap.size v l) (hs : a.eval s = v) (hx : a.eval x = .slice (some ⟨w.heap.size, 0, none⟩) 1 c)
    (hlen : (l.length + 1) * 8 ≤ 140737488355328) (hbel : Below W0.heap.size W0 w)
    (h : ∀ v' w', OwnI w' W0.heap.size v' (l ++ [p]) → Below W0.heap.size W0 w' → (∀ (k : Nat) (cs : Array Value) (t : TypeId) (fz : Nat × Nat), w.heap[k]? = some (Obj.cells cs t fz) → t ≠ 3 → w'.heap[k]? = w.heap[k]?) → wpList Tryz.prog ops Q rest (a.put o.dst v') w') :
    wpList Tryz.prog ops Q (o :: rest) a (w.alloc (.cells #[.int .i64 p] 3)) := by
  obtain ⟨i0, hi, hz0, hz1, hz2⟩ := info_parts infoInt
  have hb2 : Below W0.heap.size W0 (w.alloc (.cells #[.int .i64 p] 3)) := allocB hbel _
  refine wpList_append_own _ hgd s x _ ho W0.heap.size 3 i0 (.int .i64 0) 1 8 Tryz.underlying85 hi hz0 hz1 hz2 rfl (by decide) v l.length (l.map (Value.int .i64)) hs (hown.below ((Below.refl _ _).alloc (Nat.le_refl _) _)) ⟨w.heap.size, 0, none⟩ 1 c [.int .i64 p] hx rfl ?_ ?_ ?_ ?_ ?_ ?_
  · intro j u hu
    have hadd : (⟨w.heap.size, 0, none⟩ : Addr).add j = ⟨w.heap.size, j, none⟩ := by unfold Addr.add; split <;> simp_all
    rw [hadd, World.cell?_alloc_new]
    simpa using hu
  · intro u hu
    rw [List.mem_singleton] at hu
    subst hu; rfl
  · simp only [maxLen]; omega
  · exact hlen
  · exact hb2.size
  · intro v' w' hown' hg _
    refine h v' w' ?_ (hb2.grown hg hb2.size hown.block) ?_
    · unfold OwnI
      rw [List.map_append, List.length_append]
      exact hown'
    · intro k cs t fz hk ht
      have hlt : k < w.heap.size := (Array.getElem?_eq_some_iff.1 hk).1
      rw [hg.block k (by simp; omega) ?_]
      · exact Below.block (Below.alloc (Below.refl w.heap.size w) (Nat.le_refl _) (.cells #[.int .i64 p] 3)) k hlt
      · intro e
        rcases hown.2 with ⟨rfl, _⟩ | ⟨g, cap, cur, rfl, hb, hh, _⟩
        · cases e
        · cases e
          rw [hh] at hk
          cases hk
          exact ht rfl
end Go.Proofs.YtagnbdenecphcaaGreatDoor
/-! The automaton's table, plain; Made. -/
namespace Go.Proofs.YtagnbdenecphcaaGreatDoor
open Go.RowKit
def tableT : List (List (List UInt8)) := [
  [[50], [105, 114, 99, 44, 115, 99, 114, 47, 54], [45], [45], [45], [45], [45], [45], [45], [45]],
  [[45], [45], [48], [116, 108, 115, 47, 49], [48], [49], [49], [49], [49], [116, 108, 100, 47, 49]],
  [[116, 108, 115, 47, 49], [49], [105, 114, 99, 44, 115, 99, 114, 47, 54], [51], [53], [53], [54], [55], [56], [57]],
  [[48], [116, 108, 102, 47, 48], [50], [50], [52], [52], [105, 114, 99, 44, 115, 116, 114, 47, 52], [105, 114, 99, 44, 115, 116, 114, 47, 52], [105, 114, 99, 44, 115, 116, 114, 47, 52], [116, 108, 100, 44, 105, 114, 99, 44, 115, 116, 114, 47, 52]],
  [[45], [45], [45], [45], [115, 116, 114, 47, 52], [115, 116, 114, 47, 53], [115, 99, 114, 47, 54], [115, 99, 114, 47, 54], [115, 99, 114, 47, 56], [45]],
  [[45], [45], [45], [45], [116, 108, 102, 47, 50], [116, 108, 102, 47, 51], [116, 108, 102, 47, 51], [116, 108, 102, 47, 51], [116, 108, 102, 47, 51], [45]],
  [[45], [45], [115, 116, 97, 47, 50], [105, 114, 99, 44, 115, 99, 114, 44, 115, 99, 97, 47, 56], [52], [53], [115, 99, 97, 47, 56], [115, 99, 97, 44, 116, 108, 117, 47, 57], [115, 99, 97, 47, 56], [116, 108, 100, 44, 115, 99, 114, 44, 115, 99, 97, 47, 56]],
  [[45], [45], [115, 116, 97, 47, 50], [105, 114, 99, 44, 115, 99, 114, 44, 115, 99, 110, 47, 54], [52], [53], [115, 99, 110, 47, 54], [115, 99, 110, 47, 55], [115, 99, 110, 47, 54], [116, 108, 100, 44, 115, 99, 114, 44, 115, 99, 110, 47, 54]],
  [[45], [45], [115, 116, 97, 47, 50], [115, 116, 97, 47, 51], [52], [53], [105, 114, 99, 47, 55], [115, 99, 114, 47, 54], [105, 114, 99, 44, 116, 108, 117, 47, 57], [116, 108, 100, 44, 115, 99, 114, 47, 54]],
  [[45], [45], [115, 116, 97, 47, 50], [115, 116, 97, 47, 51], [52], [53], [105, 114, 99, 44, 115, 99, 114, 47, 54], [115, 99, 114, 47, 54], [105, 114, 99, 44, 115, 99, 114, 47, 56], [116, 108, 100, 44, 115, 99, 114, 47, 54]],
  [[45], [45], [115, 116, 97, 47, 50], [115, 116, 97, 47, 51], [115, 116, 97, 47, 52], [115, 116, 97, 47, 53], [115, 116, 97, 47, 54], [115, 116, 97, 47, 54], [115, 116, 97, 47, 54], [116, 108, 100, 44, 122, 114, 99, 44, 115, 116, 97, 47, 53]],
  [[45], [45], [50], [51], [116, 108, 102, 47, 50], [116, 108, 102, 47, 51], [54], [54], [56], [116, 108, 100, 44, 115, 99, 114, 47, 54]],
  [[45], [45], [115, 99, 106, 47, 50], [115, 99, 106, 47, 51], [115, 99, 106, 47, 52], [115, 99, 106, 47, 53], [115, 99, 106, 47, 54], [115, 99, 106, 47, 55], [115, 99, 106, 47, 56], [115, 99, 106, 47, 57]],
  [[45], [45], [50], [51], [52], [53], [54], [54], [56], [57]],
  [[45], [45], [116, 108, 102, 47, 50], [116, 108, 102, 47, 51], [116, 108, 102, 47, 50], [116, 108, 102, 47, 51], [116, 108, 102, 47, 51], [116, 108, 102, 47, 51], [116, 108, 102, 47, 51], [116, 108, 100, 44, 105, 114, 99, 44, 115, 116, 114, 47, 53]],
  [[45], [45], [50], [51], [52], [53], [54], [55], [56], [115, 101, 114, 47, 57]]]
def cellT (v s : Nat) : List UInt8 := (tableT.getD v []).getD s []
/-- a pointer to a table in memory -/
def TableAt (w : World) (g : Nat) : Prop := ∀ v s, v < 16 → s < 10 → w.cell? ⟨g, v * 10 + s, none⟩ = some (.string (bytesOf (cellT v s)))
def tableCells : Array Value := (tableT.flatMap fun r => r.map fun c => Value.string (bytesOf c)).toArray
theorem tableCells_all : (List.range 160).map (fun i => tableCells[i]?) = (List.range 160).map (fun i => some (Value.string (bytesOf (cellT (i / 10) (i % 10))))) := by kernel_rfl
theorem tableCells_at (v s : Nat) (hv : v < 16) (hs : s < 10) : tableCells[v * 10 + s]? = some (.string (bytesOf (cellT v s))) := by
  have h := congrArg (·[v * 10 + s]?) tableCells_all
  simp only [List.getElem?_map, List.getElem?_range (show v * 10 + s < 160 by omega), Option.map_some] at h
  have e1 : (v * 10 + s) / 10 = v := by omega
  have e2 : (v * 10 + s) % 10 = s := by omega
  rw [e1, e2] at h
  exact Option.some.inj h
theorem wpList_build2 {P : Program} {ops : Array Oper} {rest : List Oper} {o : Oper} {a : Act} {w : World} {Q : Exit → Act → World → Prop} (hg : o.guard = none) (t : TypeId) (parts : Array (Nat × Operand)) (ho : o.op = .build t parts) (cells : Array Value)
    (hf : P.built t (parts.map fun (i, x) => (i, a.eval x)).toList = some cells)
    (h : wpList P ops Q rest (a.put o.dst (.agg cells)) w) : wpList P ops Q (o :: rest) a w :=
  wpList_build hg t parts ho (by rw [hf]; rfl) (by rw [hf]; exact h)
set_option maxRecDepth 100000 in
set_option maxHeartbeats 4000000 in
theorem made_any (w : World) : Calls Tryz.prog 21 #[] w fun e w' => ∃ g, e = .returned (.pointer (some ⟨g, 0, none⟩)) ∧ TableAt w' g ∧ Below w.heap.size w w' := by
  go_enter Tryz.func21, Tryz.ntmps21
  go_wp2_with (refine wpList_build2 rfl 84 _ rfl tableCells (by kernel_rfl) ?_)
  go_ret
  exact ⟨_, rfl, fun v s hv hs => by rw [World.cell?_alloc_new]; exact tableCells_at v s hv hs, (Below.refl _ _).alloc (Nat.le_refl _) _⟩
end Go.Proofs.YtagnbdenecphcaaGreatDoor
/-! The automaton's Step. -/
namespace Go.Proofs.YtagnbdenecphcaaGreatDoor
open Go.RowKit
set_option linter.unusedVariables false
theorem fsm_below_cell {W w' : World} (h : Below W.heap.size W w') {a : Addr} {v : Value} (hc : W.cell? a = some v) : w'.cell? a = some v := (h.cell (block_lt_of_cell hc)).trans hc
theorem MaxLenIs.below {w w' : World} {m : Int} (h : MaxLenIs w m) (hb : Below w.heap.size w w') : MaxLenIs w' m := fsm_below_cell hb h
def namesT : List (List UInt8) := [[], [116, 108, 117], [116, 108, 100], [116, 108, 115], [116, 108, 102], [105, 114, 99], [122, 114, 99], [115, 99, 114], [115, 99, 97], [115, 99, 110], [115, 116, 114], [115, 116, 97], [115, 99, 106], [115, 101, 114]]
def nameAt (j : Nat) : List UInt8 := namesT.getD j []
/-- a row of texts that was just laid -/
theorem texts_new (w : World) (l : List ByteArray) (cells : Array Value) (hc : cells = (l.map Value.string).toArray) (c : Nat) : TextsAt (w.alloc (.cells cells 9)) (.slice (some ⟨w.heap.size, 0, none⟩) l.length c) l := by
  subst hc
  refine .inr ⟨w.heap.size, 0, c, rfl, fun j hj => ?_⟩
  rw [World.cell?_alloc_new]; simp [hj]
set_option maxRecDepth 100000 in
theorem names_any (w : World) : Calls Tryz.prog 82 #[] w fun e w' => ∃ g, e = .returned (.slice (some ⟨g, 0, none⟩) 14 14) ∧ (∀ j (h : j < 14), w'.cell? ⟨g, j, none⟩ = some (.string (bytesOf (nameAt j)))) ∧ (∃ cs fz, w'.heap[g]? = some (.cells cs 9 fz)) ∧ Below w.heap.size w w' := by
  go_enter Tryz.func82, Tryz.ntmps82
  go_wp2_with fail
  go_ret
  refine ⟨_, rfl, fun j h => ?_, ⟨_, _, heap_alloc_last w _⟩, (Below.refl _ _).alloc (Nat.le_refl _) _⟩
  rw [World.cell?_alloc_new]
  match j, h with
  | 0, _ => rfl
  | 1, _ => rfl
  | 2, _ => rfl
  | 3, _ => rfl
  | 4, _ => rfl
  | 5, _ => rfl
  | 6, _ => rfl
  | 7, _ => rfl
  | 8, _ => rfl
  | 9, _ => rfl
  | 10, _ => rfl
  | 11, _ => rfl
  | 12, _ => rfl
  | 13, _ => rfl
/-- the numbers of a name, ahead of the j-th -/
def numsTo (w : List UInt8) (j : Nat) : List Int := ((List.range j).filter fun k => nameAt k == w).map Int.ofNat
theorem numsTo_succ (w : List UInt8) (j : Nat) : numsTo w (j + 1) = numsTo w j ++ (if nameAt j == w then [(j : Int)] else []) := by
  unfold numsTo
  rw [List.range_succ, List.filter_append, List.map_append]
  congr 1
  rw [List.filter_cons, List.filter_nil]
  split <;> rfl
theorem numsTo_len (w : List UInt8) (j : Nat) : (numsTo w j).length ≤ j := by
  unfold numsTo
  rw [List.length_map]
  exact Nat.le_trans (List.length_filter_le _ _) (by simp)
/-- the pieces of a text at commas -/
def pieces (a : List UInt8) : List (List UInt8) := (Lib.splitB (bytesOf [44]) 0 (Lib.countB (bytesOf a) (bytesOf [44])) (bytesOf a)).map (·.data.toList)
def digit (l : List UInt8) : Int := (((l.getD 0 0).toNat : Int) - 48) % 256
/-- what a cell of the table says -/
def cellSays (c : List UInt8) : Int × List Int × Int :=
  if c = [45] then (0, [], 1001) else
  if (Lib.cut c [47]).2.2 = false then (digit c, [], 0) else
  (digit (Lib.cut c [47]).2.1, (pieces (Lib.cut c [47]).1).flatMap (numsTo · 14), 0)
def stepSays (s v : Int) : Int × List Int × Int :=
  if s < 0 ∨ 10 ≤ s ∨ v < 0 ∨ 16 ≤ v then (0, [], 1000) else cellSays (cellT v.toNat s.toNat)
def cellGood (c : List UInt8) : Bool := decide (1 ≤ c.length) && decide (c.length ≤ 40) && (!(Lib.cut c [47]).2.2 || (decide (1 ≤ (Lib.cut c [47]).2.1.length) && decide ((Lib.cut c [47]).1.length ≤ 40) && decide ((Lib.cut c [47]).2.1.length ≤ 40)))
theorem cells_good : (List.range 16).all (fun v => (List.range 10).all fun s => cellGood (cellT v s)) = true := by decide +kernel
theorem cell_good (v s : Nat) (hv : v < 16) (hs : s < 10) : cellGood (cellT v s) = true :=
  List.all_eq_true.1 (List.all_eq_true.1 cells_good v (List.mem_range.2 hv)) s (List.mem_range.2 hs)
theorem u8_sub48 (c : UInt8) : IntKind.u8.wrap ((c.toNat : Int) - 48) = ((c.toNat : Int) - 48) % 256 := by rw [IntKind.wrap_u8]
theorem fsm_below_drewN {B : Nat} {a w : World} (h : Below B a w) (n : Nat) : Below B a (w.drewN n) := h.trans ⟨rfl, rfl, rfl, Nat.le_refl _, fun _ _ => rfl⟩
theorem digit_at (C : ByteArray) (h : 0 < C.size) : digit C.data.toList = ((C[0].toNat : Int) - 48) % 256 := by
  unfold digit
  rw [List.getD_eq_getElem?_getD, List.getElem?_eq_getElem (by simpa using h)]; rfl
set_option maxRecDepth 100000 in
set_option maxHeartbeats 4000000 in
theorem tstep_any (g : Nat) (s v : Int) (ml : Int) (w : World) (ht : TableAt w g) (hm : MaxLenIs w ml) :
    Calls Tryz.prog 60 #[.pointer (some ⟨g, 0, none⟩), .int .i64 s, .int .i64 v] w fun e w' => ∃ o, e = .returned (.tuple #[.int .i64 (stepSays s v).1, o, .int .i64 (stepSays s v).2.2]) ∧ OwnI w' w.heap.size o (stepSays s v).2.1 ∧ Below w.heap.size w w' := by
  by_cases hr : s < 0 ∨ 10 ≤ s ∨ v < 0 ∨ 16 ≤ v
  · have e : stepSays s v = (0, [], 1000) := by unfold stepSays; rw [if_pos hr]
    have E := Lib.hid e
    clear e
    go_enter Tryz.func60, Tryz.ntmps60
    go_wp2_with fail
    all_goals
      go_ret3
      exact ⟨.slice none 0 0, by rw [E.out]; rfl, by rw [E.out]; exact OwnI.nil _ _, Below.refl _ _⟩
  · obtain ⟨sn, rfl⟩ : ∃ sn : Nat, s = sn := ⟨s.toNat, by omega⟩
    obtain ⟨vn, rfl⟩ : ∃ vn : Nat, v = vn := ⟨v.toNat, by omega⟩
    have hs10 : sn < 10 := by omega
    have hv16 : vn < 16 := by omega
    have e : stepSays (sn : Int) (vn : Int) = cellSays (cellT vn sn) := by unfold stepSays; rw [if_neg hr]; rfl
    rw [e]
    have hc := ht vn sn hv16 hs10
    have hg := cell_good vn sn hv16 hs10
    obtain ⟨c, hcc⟩ : ∃ c, cellT vn sn = c := ⟨_, rfl⟩
    rw [hcc] at hc hg ⊢
    clear hr e hcc ht
    obtain ⟨C, hC⟩ : ∃ C, bytesOf c = C := ⟨_, rfl⟩
    have hCl : C.data.toList = c := by rw [← hC]; rfl
    have hCz : C.size = c.length := by rw [← hC, bytesOf_size]
    rw [hC] at hc
    by_cases h0 : c = [45]
    · have E : Hid (cellSays c = (0, [], 1001)) := by unfold cellSays; rw [if_pos h0]; exact rfl
      have q : C.toList = [45] := by rw [ba_toList, hCl, h0]
      clear h0 hg hCl hC hCz
      go_enter Tryz.func60, Tryz.ntmps60
      go_wp2_with fail
      go_ret3
      exact ⟨.slice none 0 0, by rw [E.out]; rfl, by rw [E.out]; exact OwnI.nil _ _, Below.refl _ _⟩
    · have q : (C.toList == [45]) = false := by rw [ba_toList, hCl]; exact beq_eq_false_iff_ne.2 h0
      unfold cellGood at hg
      simp only [Bool.and_eq_true, decide_eq_true_eq, Bool.or_eq_true, Bool.not_eq_true'] at hg
      obtain ⟨⟨g1, g2⟩, g3⟩ := hg
      have hz1 : 1 ≤ C.size := by omega
      have hz2 : C.size < 4294967281 := by omega
      by_cases hf : (Lib.cut c [47]).2.2 = false
      · have E : Hid (cellSays c = (digit c, [], 0)) := by unfold cellSays; rw [if_neg h0, if_pos hf]; exact rfl
        have HF := Lib.hid hf
        have HCl := Lib.hid hCl
        clear h0 hC hCz hf g3 g1 g2 hCl
        go_enter Tryz.func60, Tryz.ntmps60
        go_wp2_with fail
        refine (cut_any C (bytesOf [47]) ml _ hz2 hm).mono ?_
        rintro e w1 ⟨rfl, nq, rfl⟩
        rw [HCl.out, bytesOf_toList, HF.out]
        go_wp2_with fail
        go_ret3
        exact ⟨.slice none 0 0, by rw [E.out, ← HCl.out, digit_at C (by omega)]; rfl, by rw [E.out]; exact OwnI.nil _ _, fsm_below_drewN (Below.refl _ _) _⟩
      · have E : Hid (cellSays c = (digit (Lib.cut c [47]).2.1, (pieces (Lib.cut c [47]).1).flatMap (numsTo · 14), 0)) := by unfold cellSays; rw [if_neg h0, if_neg hf]; exact rfl
        have HF : Hid ((Lib.cut c [47]).2.2 = true) := Lib.hid (by simpa using hf)
        have HCl := Lib.hid hCl
        have g3' : (1 ≤ (Lib.cut c [47]).2.1.length ∧ (Lib.cut c [47]).1.length ≤ 40) ∧ (Lib.cut c [47]).2.1.length ≤ 40 := by
          rcases g3 with h | h
          · exact absurd h hf
          · exact h
        obtain ⟨a, ha⟩ : ∃ a, (Lib.cut c [47]).1 = a := ⟨_, rfl⟩
        obtain ⟨b, hb⟩ : ∃ b, (Lib.cut c [47]).2.1 = b := ⟨_, rfl⟩
        rw [ha, hb] at g3' E
        have Ha := Lib.hid ha
        have Hb := Lib.hid hb
        clear h0 hC hCz hf g3 g1 g2 hCl ha hb
        obtain ⟨A, hA⟩ : ∃ A : ByteArray, (⟨a.toArray⟩ : ByteArray) = A := ⟨_, rfl⟩
        obtain ⟨B, hB⟩ : ∃ B : ByteArray, (⟨b.toArray⟩ : ByteArray) = B := ⟨_, rfl⟩
        have hAb : bytesOf a = A := hA
        have hBl : B.data.toList = b := by rw [← hB]
        have hBz : 1 ≤ B.size := by rw [← hB]; simpa [ByteArray.size] using g3'.1.1
        have hAz : A.size < 4294967281 := by rw [← hAb, bytesOf_size]; omega
        obtain ⟨L, hL⟩ : ∃ L, Lib.splitB (bytesOf [44]) 0 (Lib.countB A (bytesOf [44])) A = L := ⟨_, rfl⟩
        have hLp : L.map (·.data.toList) = pieces a := by rw [← hL, ← hAb]; rfl
        have hLn : L.length = Lib.countB A (bytesOf [44]) + 1 := by rw [← hL]; exact Lib.splitB_all _ (by decide) _ _ A rfl
        have hLle := Lib.countB_le (bytesOf [44]) (by decide) A.size A (Nat.le_refl _)
        have hAz2 : A.size ≤ 40 := by rw [← hAb, bytesOf_size]; omega
        obtain ⟨n, hn⟩ : ∃ n, Lib.countB A (bytesOf [44]) = n := ⟨_, rfl⟩
        have hsp := fun w hm => splitAt_any A 44 ml w hAz hm
        rw [hL, hn] at hsp
        rw [hn] at hLn hLle
        have HA := Lib.hid hA
        have HB := Lib.hid hB
        have HLp := Lib.hid hLp
        have HLn := Lib.hid hLn
        have HBl := Lib.hid hBl
        clear hA hB hAb hL hn hLp hLn hBl g3'
        go_enter Tryz.func60, Tryz.ntmps60
        go_wp2_with fail
        refine (cut_any C (bytesOf [47]) ml _ hz2 hm).mono ?_
        rintro e w1 ⟨rfl, nq, rfl⟩
        rw [HCl.out, bytesOf_toList, HF.out, Ha.out, Hb.out, HA.out, HB.out]
        go_wp2_with fail
        refine (hsp _ (by exact hm)).mono ?_
        rintro e w2 ⟨rfl, rfl⟩
        have hcell : ∀ j (h : j < L.length), ((w.drewN nq).alloc (.cells (textsRow L) 9)).cell? ⟨w.heap.size, j, none⟩ = some (.string L[j]) := by
          intro j h
          have : (w.drewN nq).heap.size = w.heap.size := rfl
          rw [← this, World.cell?_alloc_new]; simp [textsRow, h]
        have hB2 : Below w.heap.size w ((w.drewN nq).alloc (.cells (textsRow L) 9)) := allocB (fsm_below_drewN (Below.refl _ _) _) _
        go_wp2_with fail
        obtain ⟨W2, hW2⟩ : ∃ W2, (w.drewN nq).alloc (.cells (textsRow L) 9) = W2 := ⟨_, rfl⟩
        rw [hW2] at hcell hB2 ⊢
        clear hW2
        go_loopw [13, 56] (fun o i wr => ∃ k : Nat, k ≤ n + 1 ∧ i = .int .i64 k ∧ OwnI wr W2.heap.size o ((L.take k).flatMap fun x => numsTo x.data.toList 14) ∧ Below W2.heap.size W2 wr) (fun _ i _ => n + 1 - (intOf i).toNat)
        case atStart => exact ⟨0, Nat.zero_le _, rfl, OwnI.nil _ _, Below.refl _ _⟩
        case round =>
          obtain ⟨k, hk, rfl, hown, hbl⟩ := hrel
          by_cases hlt : k < n + 1
          · have hx := fsm_below_cell hbl (hcell k (by rw [HLn.out]; exact hlt))
            have htk : L.take (k + 1) = L.take k ++ [L[k]'(by rw [HLn.out]; exact hlt)] := List.take_succ_eq_append_getElem _
            obtain ⟨x, hxx⟩ : ∃ x, L[k]'(by rw [HLn.out]; exact hlt) = x := ⟨_, rfl⟩
            rw [hxx] at hx htk
            have hsn : Hid (((L.take (k + 1)).flatMap fun x => numsTo x.data.toList 14) = ((L.take k).flatMap fun x => numsTo x.data.toList 14) ++ numsTo x.data.toList 14) := Lib.hid (by rw [htk, List.flatMap_append]; simp)
            clear htk hxx
            have hal : ((L.take k).flatMap fun x => numsTo x.data.toList 14).length ≤ 14 * k := by
              have : ∀ l : List ByteArray, (l.flatMap fun x => numsTo x.data.toList 14).length ≤ 14 * l.length := by
                intro l
                induction l with
                | nil => simp
                | cons y l ih => rw [List.flatMap_cons, List.length_append, List.length_cons]; have := numsTo_len y.data.toList 14; omega
              have h := this (L.take k)
              rw [List.length_take] at h
              omega
            obtain ⟨acc, hacc⟩ : ∃ acc, ((L.take k).flatMap fun x => numsTo x.data.toList 14) = acc := ⟨_, rfl⟩
            rw [hacc] at hown hsn hal
            clear hacc
            go_wp2_with fail
            refine (names_any _).mono ?_
            rintro e w3 ⟨gn, rfl, hnm, hnh, hb3⟩
            replace hx := fsm_below_cell hb3 hx
            replace hown := hown.below hb3
            replace hbl := seqB hbl hb3
            clear hb3
            go_wp2_with fail
            go_loopw [13, 62] (fun o i wz => ∃ j : Nat, j ≤ 14 ∧ i = .int .i64 j ∧ OwnI wz W2.heap.size o (acc ++ numsTo x.data.toList j) ∧ Below W2.heap.size W2 wz ∧ (∀ j (h : j < 14), wz.cell? ⟨gn, j, none⟩ = some (.string (bytesOf (nameAt j)))) ∧ ∃ cs fz, wz.heap[gn]? = some (.cells cs 9 fz)) (fun _ i _ => 14 - (intOf i).toNat)
            case atStart => exact ⟨0, Nat.zero_le _, rfl, by simpa [numsTo] using hown, hbl, hnm, hnh⟩
            case round =>
              obtain ⟨j, hj, rfl, hown2, hbl2, hnm2, cs2, fz2, hnh2⟩ := hrel
              by_cases hj14 : j < 14
              · have hnj := hnm2 j hj14
                have hns := numsTo_succ x.data.toList j
                have hnl := numsTo_len x.data.toList j
                by_cases heq : nameAt j = x.data.toList
                · have hq : ((bytesOf (nameAt j)).toList == x.toList) = true := ba_beq_true heq
                  have Hns : Hid (acc ++ numsTo x.data.toList (j + 1) = acc ++ numsTo x.data.toList j ++ [(j : Int)]) := Lib.hid (by rw [hns, heq]; simp)
                  clear hns heq hnj
                  go_wp2_with (at_builtin; refine wpList_appI2 rfl _ _ rfl W2 _ _ (j : Int) 1 hown2 rfl rfl (by rw [List.length_append]; omega) hbl2 ?_; intro v' w5 hown3 hbl3 hkeep)
                  have hk5 := hkeep gn cs2 _ fz2 hnh2 (by decide)
                  refine ⟨⟨j + 1, by omega, by go_num, by rw [Hns.out]; exact hown3, hbl3, ?_, cs2, fz2, hk5.trans hnh2⟩, by simp [intOf]; omega⟩
                  intro j' hj'
                  rw [World.cell?_of_block (a := ⟨gn, j', none⟩) hk5]
                  exact hnm2 j' hj'
                · have hq : ((bytesOf (nameAt j)).toList == x.toList) = false := ba_beq_false heq
                  have Hns : Hid (acc ++ numsTo x.data.toList (j + 1) = acc ++ numsTo x.data.toList j) := Lib.hid (by rw [hns, if_neg (by simpa using heq)]; simp)
                  clear hns heq hnj
                  go_wp2_with fail
                  go_roundw
                  case rel => exact ⟨j + 1, by omega, by go_num, by rw [Hns.out]; exact hown2, hbl2, hnm2, cs2, fz2, hnh2⟩
                  case measure => simp [intOf]; omega
              · obtain rfl : j = 14 := by omega
                go_wp2_with fail
                go_roundw
                case rel => exact ⟨k + 1, by omega, by go_num, by rw [hsn.out]; exact hown2, hbl2⟩
                case measure => simp [intOf]; omega
          · obtain rfl : k = n + 1 := by omega
            have hLL : L.take (n + 1) = L := List.take_of_length_le (by rw [HLn.out]; exact Nat.le_refl _)
            have hfin := hown
            rw [hLL, show (L.flatMap fun x => numsTo x.data.toList 14) = (pieces a).flatMap (numsTo · 14) by rw [← HLp.out, List.flatMap_map]] at hfin
            replace hfin := hfin.base (b' := w.heap.size) hB2.size
            have hBw : Below w.heap.size w wr := seqB hB2 hbl
            clear hown hLL hcell
            go_wp2_with fail
            go_ret3
            exact ⟨_, by rw [E.out, ← HBl.out, digit_at B (by omega)]; rfl, by rw [E.out]; exact hfin, hBw⟩
end Go.Proofs.YtagnbdenecphcaaGreatDoor
/-! What packages policy, opts, control, neg answer: plain functions, no program in sight. Regions that draw: one order for all. What reads goes first; S holds behind each operation that writes. Regions that draw whose last writing operation L writes what the others read: S need not hold behind L. -/
/-! What packages policy, opts, control, neg answer: plain functions, no program in sight. -/
namespace Go.Proofs.YtagnbdenecphcaaGreatDoor
open Go.RowKit
/-- an option: its kind, its data -/
abbrev OptM := Int × ByteArray
structure LinkM where
  mru : Int
  magic : Int
  mrru : Int
  short : Bool
  disc : ByteArray
  num : Int
structure PacketM where
  code : Int
  id : Int
  opts : List OptM
  data : ByteArray
def linkZ : LinkM := ⟨0, 0, 0, false, ⟨#[]⟩, 0⟩
def unitM (x : Int) : Bool := decide (128 ≤ x) && decide (x ≤ 1500)
def mayM (l : LinkM) : Bool :=
  (decide (l.mru = 0) || unitM l.mru) && (decide (l.mrru = 0) || unitM l.mrru) && decide (0 ≤ l.magic) && decide (l.magic ≤ 4294967295) && decide (l.disc.size ≤ 20) && decide (0 ≤ l.num) && decide (l.num ≤ 65535)
def numB (x : Int) (n : Nat) : List UInt8 := (List.range n).map fun i => UInt8.ofNat ((x / (256 ^ (n - 1 - i) : Nat)) % 256).toNat
def valueStep (x : Int) (b : UInt8) : Int := bits .or .i64 (wrap64 (x * 256)) (b.toNat : Int)
def valueM (s : List UInt8) : Int := s.foldl valueStep 0
def sizeM (k : Int) : Int := if k = 1 ∨ k = 17 ∨ k = 23 then 2 else if k = 5 then 4 else if k = 18 then 0 else if k = 19 then -1 else -2
def rightM (o : OptM) : Bool := decide (sizeM o.1 = (o.2.size : Int)) || (decide (sizeM o.1 = -1) && decide (1 ≤ o.2.size) && decide (o.2.size ≤ 20))
def fieldM (l : LinkM) (k : Int) : Option Int := if k = 1 then some l.mru else if k = 5 then some l.magic else if k = 17 then some l.mrru else if k = 23 then some l.num else none
def asksM (l : LinkM) (k : Int) : Bool := if k = 18 then l.short else if k = 19 then decide (l.disc.data.toList ≠ []) else match fieldM l k with | some x => decide (x ≠ 0) | none => false
def putF (l : LinkM) (k x : Int) : LinkM := if k = 1 then { l with mru := x } else if k = 5 then { l with magic := x } else if k = 17 then { l with mrru := x } else { l with num := x }
def setM (l : LinkM) (o : OptM) : LinkM := if o.1 = 18 then { l with short := true } else if o.1 = 19 then { l with disc := o.2 } else putF l o.1 (valueM o.2.data.toList)
def clearM (l : LinkM) (k : Int) : LinkM := if k = 18 then { l with short := false } else if k = 19 then { l with disc := ⟨#[]⟩ } else putF l k 0
def kindsM : List Int := [1, 5, 17, 18, 19, 23]
def optOf (l : LinkM) (k : Int) : OptM := (k, match fieldM l k with | some x => bytesOf (numB x (sizeM k).toNat) | none => if k = 19 then l.disc else ⟨#[]⟩)
def askM (l : LinkM) : List OptM := (kindsM.filter (asksM l)).map (optOf l)
def betterM (own : LinkM) (o : OptM) : Option OptM :=
  if o.1 = 1 ∨ o.1 = 17 then (if unitM (valueM o.2.data.toList) then none else some (o.1, bytesOf (numB 1500 2)))
  else if o.1 = 5 then (if valueM o.2.data.toList = 0 ∨ valueM o.2.data.toList = own.magic then some (5, bytesOf (numB (max 1 (bits .xor .i64 own.magic 4294967295)) 4)) else none)
  else none
def fitM (o : OptM) : Bool := decide (0 ≤ o.1) && decide (o.1 ≤ 255) && decide (o.2.size ≤ 253)
def badM (own : LinkM) (pre : List OptM) (o : OptM) : Bool := !rightM o || (decide (o.1 = 18) && !own.short) || pre.any fun q => decide (q.1 = o.1)
def badsTo (own : LinkM) (os : List OptM) (k : Nat) : List OptM := (List.range k).filterMap fun i => match os[i]? with | some o => if badM own (os.take i) o then some o else none | none => none
def bettersTo (own : LinkM) (os : List OptM) (k : Nat) : List OptM := (List.range k).filterMap fun i => match os[i]? with | some o => if badM own (os.take i) o then none else betterM own o | none => none
def judgeM (own : LinkM) (os : List OptM) : Int × List OptM × Int :=
  if mayM own = false ∨ os.any (fun o => !fitM o) = true then (0, [], 1400)
  else if badsTo own os os.length ≠ [] then (2, badsTo own os os.length, 0)
  else if bettersTo own os os.length ≠ [] then (1, bettersTo own os os.length, 0)
  else (0, os, 0)
def learnOne (l : LinkM) (o : OptM) : LinkM :=
  if ((o.1 = 1 ∨ o.1 = 17) ∧ unitM (valueM o.2.data.toList) = false) ∨ (o.1 = 5 ∧ valueM o.2.data.toList = 0) then l else setM l o
def learnStep (code : Int) (l : LinkM) (o : OptM) : LinkM := if rightM o = false ∨ asksM l o.1 = false then l else if code = 4 then clearM l o.1 else learnOne l o
def learnM (l : LinkM) (code : Int) (os : List OptM) : LinkM × Int := if mayM l = false ∨ (code ≠ 3 ∧ code ≠ 4) then (linkZ, 1400) else (os.foldl (learnStep code) l, 0)
def takenBad (os : List OptM) (k : Nat) : Bool := (List.range k).any fun i => match os[i]? with | some o => !rightM o || (os.take i).any fun q => decide (q.1 = o.1) | none => false
def takenM (os : List OptM) : LinkM × Int := if takenBad os os.length = true ∨ mayM (os.foldl setM linkZ) = false then (linkZ, 1400) else (os.foldl setM linkZ, 0)
/-! ### options and packets as bytes -/
def optB (o : OptM) : List UInt8 := UInt8.ofNat o.1.toNat :: UInt8.ofNat (2 + o.2.size) :: o.2.data.toList
def optsTo (os : List OptM) (k : Nat) : List UInt8 := (os.take k).flatMap optB
def optLong (os : List OptM) (k : Nat) : Bool := match os[k]? with | some o => decide (253 < o.2.size) || decide (2048 < (optsTo os k).length + 2 + o.2.size) | none => false
def optsM (os : List OptM) : List UInt8 × Int :=
  if os.any (fun o => decide (o.1 < 0) || decide (255 < o.1)) = true then ([], 400)
  else if (List.range os.length).any (optLong os) = true then ([], 401) else (optsTo os os.length, 0)
def confM (c : Int) : Bool := decide (1 ≤ c) && decide (c ≤ 4)
def octetM (c : Int) : Bool := decide (0 ≤ c) && decide (c ≤ 255)
def controlM (p : PacketM) : List UInt8 × Int :=
  if octetM p.code = false ∨ octetM p.id = false then ([], 501)
  else if (optsM p.opts).2 ≠ 0 ∨ (confM p.code = false ∧ p.opts ≠ []) ∨ (confM p.code = true ∧ p.data.data.toList ≠ []) then ([], 502)
  else if 2048 < 4 + ((optsM p.opts).1.length + p.data.size) then ([], 503)
  else ([UInt8.ofNat p.code.toNat, UInt8.ofNat p.id.toNat, UInt8.ofNat ((4 + ((optsM p.opts).1.length + p.data.size)) / 256), UInt8.ofNat ((4 + ((optsM p.opts).1.length + p.data.size)) % 256)] ++ ((optsM p.opts).1 ++ p.data.data.toList), 0)
/-! ### a side that negotiates -/
structure NegM where
  state : Int
  left : Int
  tries : Int
  own : LinkM
  other : LinkM
  id : Int
  asked : Int
  os : List OptM
/-- what an event is answered by: the packet that came, the event, the verdict, the options -/
structure ReplyM where
  p : PacketM
  event : Int
  verdict : Int
  os : List OptM
def packetZ : PacketM := ⟨0, 0, [], ⟨#[]⟩⟩
def replyZ : ReplyM := ⟨packetZ, 0, 0, []⟩
def newM (l : LinkM) (tries : Int) : NegM := ⟨0, 0, tries, l, linkZ, 0, -1, []⟩
def newOk (l : LinkM) (tries : Int) : Bool := mayM l && decide (1 ≤ tries) && decide (tries ≤ 10)
def nextM (s : NegM) : NegM := { s with id := (s.id + 1) % 256 }
def countM (s : NegM) : NegM := { s with left := max 0 (s.left - 1) }
def reqM (s : NegM) : NegM := { nextM (countM s) with asked := (s.id + 1) % 256, os := askM s.own }
def sendM (s : NegM) (act : Int) (r : ReplyM) : NegM × Option PacketM :=
  if act = 7 then (reqM s, some ⟨1, (s.id + 1) % 256, askM s.own, ⟨#[]⟩⟩)
  else if act = 10 then (nextM (countM s), some ⟨5, (s.id + 1) % 256, [], ⟨#[]⟩⟩)
  else if act = 8 then ({ s with other := (takenM r.os).1 }, some ⟨2, r.p.id, r.os, ⟨#[]⟩⟩)
  else if act = 9 then (s, some ⟨if r.verdict = 2 then 4 else 3, r.p.id, r.os, ⟨#[]⟩⟩)
  else if act = 11 then (s, some ⟨6, if r.event = 10 then r.p.id else 0, [], ⟨#[]⟩⟩)
  else if act = 12 then (nextM s, some ⟨7, (s.id + 1) % 256, [], bytesOf ((controlM r.p).1.take 64)⟩)
  else if act = 13 then (s, if r.p.code = 9 then some ⟨10, r.p.id, [], r.p.data⟩ else none)
  else (s, none)
def setLeft (s : NegM) (act : Int) : NegM := if act = 5 then { s with left := s.tries } else if act = 6 then { s with left := 0 } else s
def actM (r : ReplyM) (x : NegM × List PacketM) (act : Int) : NegM × List PacketM :=
  ((sendM (setLeft x.1 act) act r).1, x.2 ++ (sendM (setLeft x.1 act) act r).2.toList)
def actsM (s : NegM) (r : ReplyM) (acts : List Int) : NegM × List PacketM := acts.foldl (actM r) (s, [])
def runM (s : NegM) (event : Int) (r : ReplyM) : NegM × List PacketM × Int :=
  if (stepSays s.state event).2.2 ≠ 0 then (s, [], 1501)
  else ((actsM { s with state := (stepSays s.state event).1 } { r with event := event } (stepSays s.state event).2.1).1, (actsM { s with state := (stepSays s.state event).1 } { r with event := event } (stepSays s.state event).2.1).2, 0)
def doM (s : NegM) (event : Int) : NegM × List PacketM × Int :=
  if event = 0 ∨ event = 1 ∨ event = 2 ∨ event = 3 then runM s event replyZ
  else if event = 4 then runM s (if s.left = 0 then 5 else 4) replyZ
  else (s, [], 1500)
/-- the event of a packet: the state behind it, the reply, the event; none: nothing is done -/
def eventM (s : NegM) (p : PacketM) : NegM × ReplyM × Option Int :=
  if p.code = 1 then (s, ⟨p, 0, (judgeM s.own p.opts).1, (judgeM s.own p.opts).2.1⟩, some (if (judgeM s.own p.opts).1 = 0 then 6 else 7))
  else if p.code = 2 then (s, ⟨p, 0, 0, []⟩, if p.id = s.asked ∧ p.opts = s.os then some 8 else none)
  else if p.code = 3 ∨ p.code = 4 then (if p.id = s.asked then ({ s with own := (learnM s.own p.code p.opts).1 }, ⟨p, 0, 0, []⟩, some 9) else (s, ⟨p, 0, 0, []⟩, none))
  else (s, ⟨p, 0, 0, []⟩, some (if p.code = 5 then 10 else if p.code = 6 then 11 else if p.code = 7 ∨ p.code = 8 then 13 else if p.code = 9 ∨ p.code = 10 ∨ p.code = 11 then 15 else 12))
def takeM (s : NegM) (p : PacketM) : NegM × List PacketM × Int :=
  if (controlM p).2 ≠ 0 then (s, [], 1500)
  else if s.state = 0 ∨ s.state = 1 then (s, [], 1501)
  else match (eventM s p).2.2 with
    | none => ((eventM s p).1, [], 0)
    | some e => runM (eventM s p).1 e (eventM s p).2.1
end Go.Proofs.YtagnbdenecphcaaGreatDoor
/-! Regions that draw: one order for all. What reads goes first; S holds behind each operation that writes. -/
namespace Go.Proofs.YtagnbdenecphcaaGreatDoor
open Go.RowKit
section
variable {P : Program} {ops : Array Oper} {Q : Exit → Act → World → Prop} {S : World → Prop}
/-- a store into another block -/
theorem cell_far (w : World) (p a : Addr) (v : Value) (h : p.block ≠ a.block) : (w.setCell p v).cell? a = w.cell? a :=
  World.cell?_setCell_other w p a v (fun e => h (by rw [e]))
/-- Q behind an exit; K behind the normal end -/
def QRun (Q : Exit → Act → World → Prop) (K : Act → World → Prop) : Exit → Act → World → Prop
  | .normal, a, w => K a w
  | e, a, w => Q e a w
theorem wpOp_of_list {i : Nat} {o : Oper} {K : Act → World → Prop} {a : Act} {w : World} (ho : ops[i]? = some o) (h : wpList P ops (QRun Q K) [o] a w) : wpOp P ops Q i K a w := by
  unfold wpOp
  rw [ho]
  simp only [wpList] at h
  show if _ then _ else _
  split
  · rename_i hw
    rw [if_pos hw] at h
    rcases h with h | ⟨h1, h2⟩
    · refine .inl ?_
      unfold Oper.wp at *
      generalize (execOp a.eval o).run P w = r at *
      cases r with
      | ok n w' =>
        cases n <;> simp only [Oper.upon] at h ⊢
        all_goals first
          | exact h
          | (refine h.mono ?_
             intro e w'' he
             cases e <;> first | exact he | (exact fun hx => he hx))
      | halt x w' => cases x <;> first | exact h | exact h.elim
    · exact .inr ⟨h1, h2⟩
  · rename_i hw
    rw [if_neg hw] at h
    exact h
/-- is a schedule one that every order may be turned into? true: a read, taken first; false: all that may come up -/
def schedB (md : Region.Mode) (ops : Array Oper) : List (Nat × Bool) → Array Bool → Bool
  | [], listed => (Region.ready md ops listed).isEmpty
  | (i, true) :: r, listed => Region.free md ops listed i && (Region.ready md ops listed).contains i && schedB md ops r (listed.setIfInBounds i true)
  | (i, false) :: r, listed => (Region.ready md ops listed == [i]) && schedB md ops r (listed.setIfInBounds i true)
def wpSched (P : Program) (ops : Array Oper) (S : World → Prop) (Q : Exit → Act → World → Prop) : List (Nat × Bool) → Act → World → Prop
  | [], a, w => Q .normal a w
  | (i, true) :: r, a, w => ∃ o v, ops[i]? = some o ∧ YieldsIf P ops S o v a ∧ wpSched P ops S Q r (a.put o.dst v) w
  | (i, false) :: r, a, w => wpOp P ops Q i (fun a' w' => S w' ∧ wpSched P ops S Q r a' w') a w
theorem sched_held (hs : Region.noSelect ops = true) (hQ : ∀ c d v a w, Q (.panic c) (Act.put a d v) w → Q (.panic c) a w) : ∀ (l : List (Nat × Bool)) (listed : Array Bool) (a : Act) (w : World),
    schedB .any ops l listed = true → S w → wpSched P ops S Q l a w → wpAnyH P .any ops Q S l.length listed a w
  | [], listed, a, w, hB, _, h => ⟨by simpa [schedB] using hB, h⟩
  | (i, true) :: r, listed, a, w, hB, hS, ⟨o, v, ho, hy, h⟩ => by
    simp only [schedB, Bool.and_eq_true] at hB
    obtain ⟨⟨h1, h2⟩, h3⟩ := hB
    exact wpAnyH_take ho hs h1 h2 (fun c a w => hQ c _ _ a w) hy hS (sched_held hs hQ r _ _ w h3 hS h)
  | (i, false) :: r, listed, a, w, hB, hS, h => by
    simp only [schedB, Bool.and_eq_true, beq_iff_eq] at hB
    obtain ⟨h1, h2⟩ := hB
    refine wpAnyH_all h1 (by simp) fun j hj => ?_
    rw [List.mem_singleton] at hj
    subst hj
    exact wpOp_mono (fun a' w' ⟨k1, k2⟩ => ⟨k1, sched_held hs hQ r _ a' w' h2 k1 k2⟩) h
theorem wp_sched {id : Nat} {a : Act} {w : World} {l : List Oper} (S : World → Prop) (sc : List (Nat × Bool)) (hm : P.follows .mixedOrders = true) (hs : Region.noSelect l.toArray = true) (hn : sc.length = l.toArray.size)
    (hB : schedB .any l.toArray sc (Array.replicate l.toArray.size false) = true) (hS : S w.drew) (hQ : ∀ c d v a w, Q (.panic c) (Act.put a d v) w → Q (.panic c) a w)
    (h : wpSched P l.toArray S Q sc a w.drew) : (Code.region id l.toArray true).wp P Q a w := by
  refine wp_region_held (S := S) hm ?_
  rw [← hn]
  have := sched_held (P := P) hs hQ sc (Array.replicate l.toArray.size false) a w.drew hB hS h
  rw [← hn] at this
  exact this
/-- the operations of a schedule, in its row -/
def schedOps (ops : Array Oper) (sc : List (Nat × Bool)) : List (Oper × Bool) := sc.filterMap fun x => (ops[x.1]?).map fun o => (o, x.2)
def wpSchedL (P : Program) (ops : Array Oper) (S : World → Prop) (Q : Exit → Act → World → Prop) : List (Oper × Bool) → Act → World → Prop
  | [], a, w => Q .normal a w
  | (o, true) :: r, a, w => ∃ v, YieldsIf P ops S o v a ∧ wpSchedL P ops S Q r (a.put o.dst v) w
  | (o, false) :: r, a, w => ∀ K : Act → World → Prop, Hid (∀ a' w', S w' → wpSchedL P ops S Q r a' w' → K a' w') → wpList P ops (QRun Q K) [o] a w
theorem sched_of_list : ∀ (sc : List (Nat × Bool)) (a : Act) (w : World), (sc.all fun x => decide (x.1 < ops.size)) = true → wpSchedL P ops S Q (schedOps ops sc) a w → wpSched P ops S Q sc a w
  | [], a, w, _, h => h
  | (i, b) :: r, a, w, hB, h => by
    simp only [List.all_cons, Bool.and_eq_true, decide_eq_true_eq] at hB
    obtain ⟨hi, hr⟩ := hB
    have ho : ops[i]? = some ops[i] := Array.getElem?_eq_getElem hi
    have e : schedOps ops ((i, b) :: r) = (ops[i], b) :: schedOps ops r := by
      unfold schedOps
      rw [List.filterMap_cons]
      simp only [ho, Option.map_some]
    rw [e] at h
    cases b with
    | true =>
      obtain ⟨v, hy, h2⟩ := h
      exact ⟨ops[i], v, ho, hy, sched_of_list r _ w hr h2⟩
    | false => exact wpOp_of_list ho (h _ (Lib.hid fun a' w' h1 h2 => ⟨h1, sched_of_list r a' w' hr h2⟩))
theorem wp_schedL {id : Nat} {a : Act} {w : World} {l : List Oper} (S : World → Prop) (sc : List (Nat × Bool)) (hm : P.follows .mixedOrders = true) (hs : Region.noSelect l.toArray = true) (hn : sc.length = l.toArray.size)
    (hi : (sc.all fun x => decide (x.1 < l.toArray.size)) = true)
    (hB : schedB .any l.toArray sc (Array.replicate l.toArray.size false) = true) (hS : S w.drew) (hQ : ∀ c d v a w, Q (.panic c) (Act.put a d v) w → Q (.panic c) a w)
    (h : wpSchedL P l.toArray S Q (schedOps l.toArray sc) a w.drew) : (Code.region id l.toArray true).wp P Q a w :=
  wp_sched S sc hm hs hn hB hS hQ (sched_of_list sc _ _ hi h)
theorem wpSched_take {o : Oper} {r : List (Oper × Bool)} {a : Act} {w : World} (v : Value) (hw : Region.wanted o (yielded ops a.tmps) = true)
    (hv : ∀ w, S w → (execOp a.eval o).run P w = .ok (.value v) w) (h : wpSchedL P ops S Q r (a.put o.dst v) w) : wpSchedL P ops S Q ((o, true) :: r) a w := ⟨v, .inl ⟨hw, hv⟩, h⟩
theorem wpSched_skip {o : Oper} {r : List (Oper × Bool)} {a : Act} {w : World} (hw : Region.wanted o (yielded ops a.tmps) = false)
    (h : wpSchedL P ops S Q r (a.put o.dst undef) w) : wpSchedL P ops S Q ((o, true) :: r) a w := ⟨undef, .inr ⟨hw, rfl⟩, h⟩
theorem wpSched_run {o : Oper} {r : List (Oper × Bool)} {a : Act} {w : World}
    (h : ∀ K : Act → World → Prop, Hid (∀ a' w', S w' → wpSchedL P ops S Q r a' w' → K a' w') → wpList P ops (QRun Q K) [o] a w) : wpSchedL P ops S Q ((o, false) :: r) a w := h
theorem wpSched_done {a : Act} {w : World} (h : Q .normal a w) : wpSchedL P ops S Q [] a w := h
theorem QRun_normal {K : Act → World → Prop} {a : Act} {w : World} (h : K a w) : QRun Q K .normal a w := h
end
end Go.Proofs.YtagnbdenecphcaaGreatDoor
/-! Regions that draw whose last writing operation L writes what the others read: S need not hold behind L. -/
namespace Go.Proofs.YtagnbdenecphcaaGreatDoor
open Go.RowKit
section
variable {P : Program} {ops : Array Oper} {Q : Exit → Act → World → Prop} {S : World → Prop}
/-- whatever order is picked; S holds behind each operation as long as L has not come up -/
def wpAnyS (P : Program) (ops : Array Oper) (Q : Exit → Act → World → Prop) (S : World → Prop) (L : Nat) : Nat → Array Bool → Act → World → Prop
  | 0, listed, a, w => Region.ready .any ops listed = [] ∧ Q .normal a w
  | fuel + 1, listed, a, w =>
    (Region.ready .any ops listed = [] → Q .normal a w) ∧
    ∀ i ∈ Region.ready .any ops listed, wpOp P ops Q i (fun a' w' => ((listed.setIfInBounds i true).getD L false = false → S w') ∧ wpAnyS P ops Q S L fuel (listed.setIfInBounds i true) a' w') a w
theorem wpAny_of_S {L : Nat} : ∀ (fuel : Nat) (listed : Array Bool) (a : Act) (w : World), wpAnyS P ops Q S L fuel listed a w → wpAny P .any ops Q fuel listed a w
  | 0, _, _, _, h => h
  | fuel + 1, _, _, _, h => ⟨h.1, fun i hi => wpOp_mono (fun a' w' h' => wpAny_of_S fuel _ a' w' h'.2) (h.2 i hi)⟩
theorem getD_clash {listed : Array Bool} {i : Nat} (h1 : listed.getD i false = true) (h0 : listed.getD i true = false) : False := by
  rcases Nat.lt_or_ge i listed.size with h' | h'
  · simp [h'] at h0 h1
    rw [h0] at h1; cases h1
  · simp [Array.getElem?_eq_none h'] at h1
theorem last_waits {L i : Nat} (h : Region.waitsFor .any ops L i = true) {listed : Array Bool} (hr : L ∈ Region.ready .any ops listed) : listed.getD i false = true := by
  obtain ⟨oj, hoj, e, he, hb, rfl⟩ := Region.waitsFor_spec h
  obtain ⟨_, oj', hoj', hall⟩ := mem_ready.1 hr
  rw [hoj] at hoj'
  cases hoj'
  exact hall e he hb
/-- an operation that yields in every world that meets T may be taken first; T is S where L waits for it, else nothing -/
theorem wpAnyS_first {L i : Nat} {oi : Oper} {v : Value} {T : World → Prop} (hil : i ≠ L) (hT : (Region.waitsFor .any ops L i = true ∧ ∀ w, S w → T w) ∨ (∀ w, T w)) (hi : ops[i]? = some oi) (hsel : ∀ (j : Nat) (o : Oper) cs b, ops[j]? = some o → o.op ≠ .select cs b)
    (hQ : ∀ c a w, Q (.panic c) (a.put oi.dst v) w → Q (.panic c) a w) :
    ∀ (fuel : Nat) (listed : Array Bool) (a : Act) (w : World),
      (∀ j oj, ops[j]? = some oj → j ≠ i → listed.getD j true = false → (∀ e ∈ oj.after, Region.binds .any e = true → e.on ≠ i) → oi.apart ops oj = true) →
      i ∈ Region.ready .any ops listed → YieldsIf P ops T oi v a → T w → (Region.waitsFor .any ops L i = true → listed.getD L false = false) → (listed.getD L false = false → S w) →
      wpAnyS P ops Q S L fuel (listed.setIfInBounds i true) (a.put oi.dst v) w → wpAnyS P ops Q S L (fuel + 1) listed a w := by
  intro fuel
  induction fuel with
  | zero =>
    intro listed a w _ hr hy hTw _ hS H
    refine ⟨fun h => absurd hr (by rw [h]; simp), fun j hj => ?_⟩
    by_cases hji : j = i
    · subst hji; exact hy.wpOp hi hTw ⟨fun h => hS (by rwa [getD_set_ne false hil] at h), H⟩
    · exact absurd (ready_mono hj hji) (by rw [H.1]; simp)
  | succ fuel ih =>
    intro listed a w hfree hr hy hTw hLu hS H
    refine ⟨fun h => absurd hr (by rw [h]; simp), fun j hj => ?_⟩
    by_cases hji : j = i
    · subst hji; exact hy.wpOp hi hTw ⟨fun h => hS (by rwa [getD_set_ne false hil] at h), H⟩
    · obtain ⟨hjun, oj, hoj, hall⟩ := mem_ready.1 hj
      have hiun := (mem_ready.1 hr).1
      have hnot : ∀ e ∈ oj.after, Region.binds .any e = true → e.on ≠ i := fun e he hb heq => by
        have h1 := hall e he hb
        rw [heq] at h1
        exact getD_clash h1 hiun
      have hjL : Region.waitsFor .any ops L i = true → j ≠ L := fun hw e => by
        subst e
        exact getD_clash (last_waits hw hj) hiun
      have h2 := wpOp_putIf hoj (hfree j oj hoj hji hjun hnot) (fun cs b => hsel i oi cs b hi) (fun cs b => hsel j oj cs b hoj) hQ hy (H.2 j (ready_mono hj hji))
      have hcm : (listed.setIfInBounds i true).setIfInBounds j true = (listed.setIfInBounds j true).setIfInBounds i true := Array.setIfInBounds_comm _ _ (Ne.symm hji)
      refine wpOp_mono (fun a' w' h3 => ?_) h2
      obtain ⟨h3y, h3S, h3H⟩ := h3
      rw [hcm] at h3S h3H
      have hS' : (listed.setIfInBounds j true).getD L false = false → S w' := fun h => h3S (by rwa [getD_set_ne false hil])
      have hLu' : Region.waitsFor .any ops L i = true → (listed.setIfInBounds j true).getD L false = false := fun hw => by rw [getD_set_ne false (hjL hw)]; exact hLu hw
      refine ⟨hS', ih (listed.setIfInBounds j true) a' w' ?_ (ready_mono hr (Ne.symm hji)) h3y ?_ hLu' hS' h3H⟩
      · intro k ok hk hki hun hno
        refine hfree k ok hk hki ?_ hno
        by_cases hjk : j = k
        · subst hjk; exact hjun
        · rw [getD_set_ne true hjk] at hun; exact hun
      · rcases hT with ⟨hw, hST⟩ | hT
        · exact hST _ (hS' (hLu' hw))
        · exact hT _
/-- a schedule: (i, 0) carried out alone; (i, 1) taken first, L waits for it; (i, 2) taken first in any world -/
def schedLB (ops : Array Oper) (L : Nat) : List (Nat × Nat) → Array Bool → Bool
  | [], listed => (Region.ready .any ops listed).isEmpty
  | (i, 0) :: r, listed => (Region.ready .any ops listed == [i]) && (if i == L then r.isEmpty else !r.isEmpty) && schedLB ops L r (listed.setIfInBounds i true)
  | (i, k + 1) :: r, listed => Region.free .any ops listed i && (Region.ready .any ops listed).contains i && i != L && (!(listed.getD L false)) && (if k == 0 then Region.waitsFor .any ops L i else k == 1) && schedLB ops L r (listed.setIfInBounds i true)
/-- what is asked of the world where a read is taken -/
def readS (S : World → Prop) : Nat → World → Prop
  | 0 => S
  | _ => fun _ => True
def wpSchedS (P : Program) (ops : Array Oper) (S : World → Prop) (Q : Exit → Act → World → Prop) : List (Oper × Nat) → Act → World → Prop
  | [], a, w => Q .normal a w
  | (o, k + 1) :: r, a, w => ∃ v, YieldsIf P ops (readS S k) o v a ∧ wpSchedS P ops S Q r (a.put o.dst v) w
  | (o, 0) :: r, a, w => ∀ K : Act → World → Prop, Hid (∀ a' w', (r ≠ [] → S w') → wpSchedS P ops S Q r a' w' → K a' w') → wpList P ops (QRun Q K) [o] a w
def schedOpsN (ops : Array Oper) (sc : List (Nat × Nat)) : List (Oper × Nat) := sc.filterMap fun x => (ops[x.1]?).map fun o => (o, x.2)
theorem schedOpsN_cons {i k : Nat} {r : List (Nat × Nat)} (hi : i < ops.size) : schedOpsN ops ((i, k) :: r) = (ops[i], k) :: schedOpsN ops r := by
  unfold schedOpsN
  rw [List.filterMap_cons]
  simp only [Array.getElem?_eq_getElem hi, Option.map_some]
theorem schedS_sound {L : Nat} (hs : Region.noSelect ops = true) (hQ : ∀ c d v a w, Q (.panic c) (Act.put a d v) w → Q (.panic c) a w) : ∀ (sc : List (Nat × Nat)) (listed : Array Bool) (a : Act) (w : World),
    (sc.all fun x => decide (x.1 < ops.size)) = true → schedLB ops L sc listed = true → (sc ≠ [] → S w) → wpSchedS P ops S Q (schedOpsN ops sc) a w → wpAnyS P ops Q S L sc.length listed a w
  | [], listed, a, w, _, hB, _, h => ⟨by simpa [schedLB] using hB, h⟩
  | (i, k + 1) :: r, listed, a, w, hA, hB, hS, h => by
    simp only [List.all_cons, Bool.and_eq_true, decide_eq_true_eq] at hA
    obtain ⟨hi, hr⟩ := hA
    rw [schedOpsN_cons hi] at h
    simp only [schedLB, Bool.and_eq_true, bne_iff_ne, ne_eq, Bool.not_eq_true'] at hB
    obtain ⟨⟨⟨⟨⟨h1, h2⟩, h3⟩, h4⟩, h5⟩, h6⟩ := hB
    simp only [wpSchedS] at h
    obtain ⟨v, hy, h⟩ := h
    have hSw : S w := hS (by simp)
    have ho : ops[i]? = some ops[i] := Array.getElem?_eq_getElem hi
    have hT : (Region.waitsFor .any ops L i = true ∧ ∀ w, S w → readS S k w) ∨ (∀ w, readS S k w) := by
      cases k with
      | zero => exact .inl ⟨by simpa using h5, fun _ h => h⟩
      | succ k => exact .inr fun _ => trivial
    have hTw : readS S k w := by rcases hT with ⟨_, h⟩ | h; exact h _ hSw; exact h _
    exact wpAnyS_first (T := readS S k) h3 hT ho (Region.noSelect_spec hs) (fun c a w => hQ c _ _ a w) r.length listed a w (Region.free_spec ho h1) (by simpa using h2) hy hTw (fun _ => h4) (fun _ => hSw)
      (schedS_sound hs hQ r _ _ w hr h6 (fun _ => hSw) h)
  | (i, 0) :: r, listed, a, w, hA, hB, hS, h => by
    simp only [List.all_cons, Bool.and_eq_true, decide_eq_true_eq] at hA
    obtain ⟨hi, hr⟩ := hA
    rw [schedOpsN_cons hi] at h
    simp only [schedLB, Bool.and_eq_true, beq_iff_eq] at hB
    obtain ⟨⟨h1, h2⟩, h3⟩ := hB
    simp only [wpSchedS] at h
    refine ⟨fun h0 => absurd h0 (by rw [h1]; simp), fun j hj => ?_⟩
    rw [h1, List.mem_singleton] at hj
    subst hj
    have hre : ∀ w', (schedOpsN ops r ≠ [] → S w') → r ≠ [] → S w' := fun w' hh hn => hh (by
      cases r with
      | nil => exact absurd rfl hn
      | cons x r =>
        obtain ⟨x1, x2⟩ := x
        simp only [List.all_cons, Bool.and_eq_true, decide_eq_true_eq] at hr
        rw [schedOpsN_cons hr.1]; simp)
    refine wpOp_of_list (Array.getElem?_eq_getElem hi) (h _ (Lib.hid fun a' w' hq1 hq2 => ⟨fun hn => ?_, schedS_sound hs hQ r _ a' w' hr h3 (hre w' hq1) hq2⟩))
    by_cases hjL : j = L
    · subst hjL
      have hj2 := (mem_ready.1 (show j ∈ Region.ready .any ops listed by rw [h1]; simp)).1
      rcases Nat.lt_or_ge j listed.size with h' | h'
      · simp [h'] at hn
      · simp [Array.getElem?_eq_none h'] at hj2
    · by_cases hrn : r = []
      · subst hrn
        rw [if_neg (by simpa using hjL)] at h2
        cases h2
      · exact hre w' hq1 hrn
theorem wp_schedS {id : Nat} {a : Act} {w : World} {l : List Oper} (S : World → Prop) (L : Nat) (sc : List (Nat × Nat)) (hm : P.follows .mixedOrders = true) (hs : Region.noSelect l.toArray = true) (hn : sc.length = l.toArray.size)
    (hi : (sc.all fun x => decide (x.1 < l.toArray.size)) = true)
    (hB : schedLB l.toArray L sc (Array.replicate l.toArray.size false) = true) (hS : S w.drew) (hQ : ∀ c d v a w, Q (.panic c) (Act.put a d v) w → Q (.panic c) a w)
    (h : wpSchedS P l.toArray S Q (schedOpsN l.toArray sc) a w.drew) : (Code.region id l.toArray true).wp P Q a w := by
  refine wp_region_any hm ?_
  rw [← hn]
  have := schedS_sound (P := P) hs hQ sc (Array.replicate l.toArray.size false) a w.drew hi hB (fun _ => hS) h
  rw [← hn] at this
  exact wpAny_of_S _ _ _ _ this
theorem wpS_take {o : Oper} {r : List (Oper × Nat)} {a : Act} {w : World} (v : Value) (hw : Region.wanted o (yielded ops a.tmps) = true)
    (hv : ∀ w, S w → (execOp a.eval o).run P w = .ok (.value v) w) (h : wpSchedS P ops S Q r (a.put o.dst v) w) : wpSchedS P ops S Q ((o, 1) :: r) a w := by
  unfold wpSchedS
  exact ⟨v, .inl ⟨hw, hv⟩, h⟩
theorem wpS_pure {o : Oper} {r : List (Oper × Nat)} {a : Act} {w : World} (v : Value) (hw : Region.wanted o (yielded ops a.tmps) = true)
    (hv : ∀ w, (execOp a.eval o).run P w = .ok (.value v) w) (h : wpSchedS P ops S Q r (a.put o.dst v) w) : wpSchedS P ops S Q ((o, 2) :: r) a w := by
  unfold wpSchedS
  exact ⟨v, .inl ⟨hw, fun w _ => hv w⟩, h⟩
theorem wpS_skip {o : Oper} {r : List (Oper × Nat)} {a : Act} {w : World} {k : Nat} (hw : Region.wanted o (yielded ops a.tmps) = false)
    (h : wpSchedS P ops S Q r (a.put o.dst undef) w) : wpSchedS P ops S Q ((o, k + 1) :: r) a w := by
  unfold wpSchedS
  exact ⟨undef, .inr ⟨hw, rfl⟩, h⟩
theorem wpS_run {o : Oper} {x : Oper × Nat} {r : List (Oper × Nat)} {a : Act} {w : World}
    (h : ∀ K : Act → World → Prop, Hid (∀ a' w', S w' → wpSchedS P ops S Q (x :: r) a' w' → K a' w') → wpList P ops (QRun Q K) [o] a w) : wpSchedS P ops S Q ((o, 0) :: x :: r) a w := by
  unfold wpSchedS
  exact fun K hK => h K (Lib.hid fun a' w' h1 h2 => hK.out a' w' (fun _ => h1) h2)
theorem wpS_last {o : Oper} {a : Act} {w : World}
    (h : ∀ K : Act → World → Prop, Hid (∀ a' w', Q .normal a' w' → K a' w') → wpList P ops (QRun Q K) [o] a w) : wpSchedS P ops S Q [(o, 0)] a w := by
  unfold wpSchedS
  exact fun K hK => h K (Lib.hid fun a' w' h1 => hK.out a' w' (fun hn => absurd rfl hn) h1)
end
end Go.Proofs.YtagnbdenecphcaaGreatDoor
/-! policy: unit, May, number, value, size, right. policy: number of four bytes, value, size, right; a side's methods. policy: a side's methods. Slices of options; opts.Find. policy: kinds, Ask. -/
/-! policy: unit, May, number, value, size, right. -/
namespace Go.Proofs.YtagnbdenecphcaaGreatDoor
open Go.RowKit
set_option linter.unusedVariables false
def linkCells (l : LinkM) : Array Value := #[.int .i64 l.mru, .int .i64 l.magic, .int .i64 l.mrru, .bool l.short, .string l.disc, .int .i64 l.num]
theorem unitM_true {x : Int} (h1 : 128 ≤ x) (h2 : x ≤ 1500) : unitM x = true := by unfold unitM; simp [h1, h2]
theorem unitM_iff (x : Int) : unitM x = true ↔ 128 ≤ x ∧ x ≤ 1500 := by unfold unitM; simp
theorem unitM_false (x : Int) : unitM x = false ↔ x < 128 ∨ 1500 < x := by
  rw [← Bool.not_eq_true, unitM_iff]; omega
theorem punit_any (x : Int) (w : World) : Calls Tryz.prog 36 #[.int .i64 x] w fun e w' => e = .returned (.bool (unitM x)) ∧ w = w' := by
  go_enter Tryz.func36, Tryz.ntmps36
  go_wp2_with fail
  all_goals
    go_ret
    refine ⟨?_, rfl⟩
    show Ending.returned (Value.bool _) = Ending.returned (Value.bool _)
    congr 2
    symm
    first
    | (rw [unitM_false]; omega)
    | (unfold unitM; simp; omega)
    | (rw [unitM_iff]; omega)
set_option maxHeartbeats 1000000 in
theorem pmay_any (l : LinkM) (w : World) : Calls Tryz.prog 20 #[.agg (linkCells l)] w fun e w' => e = .returned (.bool (mayM l)) ∧ Below w.heap.size w w' := by
  unfold linkCells
  go_enter Tryz.func20, Tryz.ntmps20
  go_wp2_with (go_at_call 36; refine (punit_any _ _).mono ?_; rintro e w' ⟨rfl, rfl⟩)
  all_goals
    go_ret
    refine ⟨?_, allocB (Below.refl _ _) _⟩
    show Ending.returned (Value.bool _) = Ending.returned (Value.bool _)
    congr 2
    symm
    have hd : ((l.disc.size : Int) ≤ 20) = (l.disc.size ≤ 20) := by simp only [eq_iff_iff]; omega
    have hd2 : ((20 : Int) < l.disc.size) = ¬ (l.disc.size ≤ 20) := by simp only [eq_iff_iff]; omega
    unfold mayM
    simp_all
    try omega
theorem byte_of (x : Int) (h : 0 ≤ x) : ((UInt8.ofNat (x % 256).toNat).toNat : Int) = x % 256 := by
  have e : (2 : Nat) ^ 8 = 256 := by decide
  rw [UInt8.toNat_ofNat', e]
  omega
theorem numB2 (x : Int) : numB x 2 = [UInt8.ofNat (x / 256 % 256).toNat, UInt8.ofNat (x % 256).toNat] := by
  unfold numB
  simp [List.range_succ]
theorem numB4 (x : Int) : numB x 4 = [UInt8.ofNat (x / 16777216 % 256).toNat, UInt8.ofNat (x / 65536 % 256).toNat, UInt8.ofNat (x / 256 % 256).toNat, UInt8.ofNat (x % 256).toNat] := by
  unfold numB
  simp [List.range_succ]
theorem byteCells_one (x : Int) (h : 0 ≤ x) : #[Value.int .u8 (x % 256)] = (Lib.byteCells [UInt8.ofNat (x % 256).toNat]).toArray := by
  have := byte_of x h
  show #[Value.int .u8 (x % 256)] = #[Value.int .u8 ((UInt8.ofNat (x % 256).toNat).toNat : Int)]
  rw [this]
set_option maxHeartbeats 1000000 in
theorem number2_any (x : Int) (w : World) (h0 : 0 ≤ x) (h1 : x ≤ 4294967295) : Calls Tryz.prog 85 #[.int .i64 x, .int .i64 2] w fun e w' => e = .returned (.string (bytesOf (numB x 2))) ∧ Below w.heap.size w w' := by
  have HN := Lib.hid (numB2 x)
  go_enter Tryz.func85, Tryz.ntmps85
  go_wp2_with fail
  go_loopw [5, 6] (fun v i wr => Below w.heap.size w wr ∧ ((i = .int .i64 1 ∧ Own wr w.heap.size v []) ∨ (i = .int .i64 0 ∧ Own wr w.heap.size v [UInt8.ofNat (x / 256 % 256).toNat]) ∨ (i = .int .i64 (-1) ∧ Own wr w.heap.size v [UInt8.ofNat (x / 256 % 256).toNat, UInt8.ofNat (x % 256).toNat]))) (fun _ i _ => (intOf i + 1).toNat)
  case atStart => exact ⟨Below.refl _ _, .inl ⟨rfl, Own.nil _ _⟩⟩
  case round =>
    obtain ⟨hbl, ⟨rfl, hown⟩ | ⟨rfl, hown⟩ | ⟨rfl, hown⟩⟩ := hrel
    · go_wp2_with (at_builtin; refine wpList_app rfl _ _ rfl w _ _ [UInt8.ofNat (x / 256 % 256).toNat] 1 1 _ hown rfl rfl (byteCells_one (x / 256) (by omega)) rfl (by simp) hbl ?_; intro v' w5 hown3 hbl3)
      go_roundw
      case rel => exact ⟨hbl3, .inr (.inl ⟨rfl, hown3⟩)⟩
      case measure => simp [intOf]
    · go_wp2_with (at_builtin; refine wpList_app rfl _ _ rfl w _ _ [UInt8.ofNat (x % 256).toNat] 1 1 _ hown rfl rfl (byteCells_one x (by omega)) rfl (by simp) hbl ?_; intro v' w5 hown3 hbl3)
      go_roundw
      case rel => exact ⟨hbl3, .inr (.inr ⟨rfl, hown3⟩)⟩
      case measure => simp [intOf]
    · have hcv := hown.conv
      go_wp2_with fail
      go_ret
      exact ⟨by rw [HN.out]; rfl, hbl⟩
end Go.Proofs.YtagnbdenecphcaaGreatDoor
/-! policy: number of four bytes, value, size, right; a side's methods. -/
namespace Go.Proofs.YtagnbdenecphcaaGreatDoor
open Go.RowKit
set_option linter.unusedVariables false
theorem byteCells_top (x : Int) (h : 0 ≤ x) (h2 : x < 256) : #[Value.int .u8 x] = (Lib.byteCells [UInt8.ofNat (x % 256).toNat]).toArray := by
  rw [← byteCells_one x h, Int.emod_eq_of_lt h h2]
set_option maxRecDepth 100000 in
set_option maxHeartbeats 4000000 in
theorem number4_any (x : Int) (w : World) (h0 : 0 ≤ x) (h1 : x ≤ 4294967295) : Calls Tryz.prog 85 #[.int .i64 x, .int .i64 4] w fun e w' => e = .returned (.string (bytesOf (numB x 4))) ∧ Below w.heap.size w w' := by
  have HN := Lib.hid (numB4 x)
  go_enter Tryz.func85, Tryz.ntmps85
  go_wp2_with fail
  go_loopw [5, 6] (fun v i wr => Below w.heap.size w wr ∧ ((i = .int .i64 3 ∧ Own wr w.heap.size v []) ∨ (i = .int .i64 2 ∧ Own wr w.heap.size v [UInt8.ofNat (x / 16777216 % 256).toNat]) ∨ (i = .int .i64 1 ∧ Own wr w.heap.size v [UInt8.ofNat (x / 16777216 % 256).toNat, UInt8.ofNat (x / 65536 % 256).toNat]) ∨ (i = .int .i64 0 ∧ Own wr w.heap.size v [UInt8.ofNat (x / 16777216 % 256).toNat, UInt8.ofNat (x / 65536 % 256).toNat, UInt8.ofNat (x / 256 % 256).toNat]) ∨ (i = .int .i64 (-1) ∧ Own wr w.heap.size v [UInt8.ofNat (x / 16777216 % 256).toNat, UInt8.ofNat (x / 65536 % 256).toNat, UInt8.ofNat (x / 256 % 256).toNat, UInt8.ofNat (x % 256).toNat]))) (fun _ i _ => (intOf i + 1).toNat)
  case atStart => exact ⟨Below.refl _ _, .inl ⟨rfl, Own.nil _ _⟩⟩
  case round =>
    obtain ⟨hbl, ⟨rfl, hown⟩ | ⟨rfl, hown⟩ | ⟨rfl, hown⟩ | ⟨rfl, hown⟩ | ⟨rfl, hown⟩⟩ := hrel
    · go_wp2_with (at_builtin; refine wpList_app rfl _ _ rfl w _ _ [UInt8.ofNat (x / 16777216 % 256).toNat] 1 1 _ hown rfl rfl (byteCells_top (x / 16777216) (by omega) (by omega)) rfl (by simp) hbl ?_; intro v' w5 hown3 hbl3)
      go_roundw
      case rel => exact ⟨hbl3, .inr (.inl ⟨rfl, hown3⟩)⟩
      case measure => simp [intOf]
    · go_wp2_with (at_builtin; refine wpList_app rfl _ _ rfl w _ _ [UInt8.ofNat (x / 65536 % 256).toNat] 1 1 _ hown rfl rfl (byteCells_one (x / 65536) (by omega)) rfl (by simp) hbl ?_; intro v' w5 hown3 hbl3)
      go_roundw
      case rel => exact ⟨hbl3, .inr (.inr (.inl ⟨rfl, hown3⟩))⟩
      case measure => simp [intOf]
    · go_wp2_with (at_builtin; refine wpList_app rfl _ _ rfl w _ _ [UInt8.ofNat (x / 256 % 256).toNat] 1 1 _ hown rfl rfl (byteCells_one (x / 256) (by omega)) rfl (by simp) hbl ?_; intro v' w5 hown3 hbl3)
      go_roundw
      case rel => exact ⟨hbl3, .inr (.inr (.inr (.inl ⟨rfl, hown3⟩)))⟩
      case measure => simp [intOf]
    · go_wp2_with (at_builtin; refine wpList_app rfl _ _ rfl w _ _ [UInt8.ofNat (x % 256).toNat] 1 1 _ hown rfl rfl (byteCells_one x (by omega)) rfl (by simp) hbl ?_; intro v' w5 hown3 hbl3)
      go_roundw
      case rel => exact ⟨hbl3, .inr (.inr (.inr (.inr ⟨rfl, hown3⟩)))⟩
      case measure => simp [intOf]
    · have hcv := hown.conv
      go_wp2_with fail
      go_ret
      exact ⟨by rw [HN.out]; rfl, hbl⟩
theorem valueM_succ (s : ByteArray) (k : Nat) (h : k < s.size) : valueM (s.data.toList.take (k + 1)) = valueStep (valueM (s.data.toList.take k)) s[k] := by
  unfold valueM
  rw [List.take_succ_eq_append_getElem (by simpa using h), List.foldl_append]; rfl
set_option maxHeartbeats 2000000 in
theorem value_any (s : ByteArray) (w : World) (hs : s.size ≤ 9223372036854775807) : Calls Tryz.prog 91 #[.string s] w fun e w' => e = .returned (.int .i64 (valueM s.data.toList)) ∧ w = w' := by
  go_enter Tryz.func91, Tryz.ntmps91
  go_wp2_with fail
  go_loop [3, 7] (fun x i => ∃ k : Nat, k ≤ s.size ∧ i = .int .i64 k ∧ x = .int .i64 (valueM (s.data.toList.take k))) (fun _ i => s.size - (intOf i).toNat)
  case atStart => exact ⟨0, Nat.zero_le _, rfl, rfl⟩
  case round =>
    obtain ⟨k, hk, rfl, rfl⟩ := hrel
    obtain ⟨v, hv⟩ : ∃ v, valueM (s.data.toList.take k) = v := ⟨_, rfl⟩
    by_cases hlt : k < s.size
    · rw [hv]
      have HV := Lib.hid hv
      clear hv
      go_wp2_with fail
      go_round
      case rel =>
        refine ⟨k + 1, by omega, by go_num, ?_⟩
        have hb := s[k].toNat_lt
        rw [valueM_succ s k hlt, HV.out, IntWalk.wrap64_in (s[k].toNat : Int) ⟨by omega, by omega⟩]
        rfl
      case measure => simp [intOf]; omega
    · obtain rfl : k = s.size := by omega
      have hv2 : valueM s.data.toList = v := by rw [← hv, List.take_of_length_le (by simp)]
      rw [hv]
      have HV := Lib.hid hv2
      clear hv hv2
      go_wp2_with fail
      go_ret
      exact ⟨by rw [HV.out]; rfl, rfl⟩
theorem size_any (k : Int) (w : World) : Calls Tryz.prog 86 #[.int .i64 k] w fun e w' => e = .returned (.int .i64 (sizeM k)) ∧ w = w' := by
  go_enter Tryz.func86, Tryz.ntmps86
  go_wp2_with fail
  all_goals
    go_ret
    refine ⟨?_, rfl⟩
    show Ending.returned (Value.int .i64 _) = Ending.returned (Value.int .i64 _)
    congr 2
    unfold sizeM
    simp_all
set_option maxHeartbeats 1000000 in
theorem right_any (o : OptM) (w : World) : Calls Tryz.prog 74 #[.agg #[.int .i64 o.1, .string o.2]] w fun e w' => e = .returned (.bool (rightM o)) ∧ Below w.heap.size w w' := by
  obtain ⟨z, hz⟩ : ∃ z, sizeM o.1 = z := ⟨_, rfl⟩
  have hsz := fun w => size_any o.1 w
  rw [hz] at hsz
  have HR : Hid (rightM o = (decide (z = (o.2.size : Int)) || (decide (z = -1) && decide (1 ≤ o.2.size) && decide (o.2.size ≤ 20)))) := Lib.hid (by unfold rightM; rw [hz])
  clear hz
  go_enter Tryz.func74, Tryz.ntmps74
  go_wp2_with (go_at_call 86; refine (hsz _).mono ?_; rintro e w' ⟨rfl, rfl⟩)
  all_goals
    go_ret
    refine ⟨?_, allocB (Below.refl _ _) _⟩
    rw [HR.out]
    show Ending.returned (Value.bool _) = Ending.returned (Value.bool _)
    congr 2
    symm
    rw [Bool.eq_iff_iff]
    simp only [Bool.or_eq_true, Bool.and_eq_true, decide_eq_true_eq]
    try simp
    try omega
end Go.Proofs.YtagnbdenecphcaaGreatDoor
/-! policy: a side's methods. -/
namespace Go.Proofs.YtagnbdenecphcaaGreatDoor
open Go.RowKit
set_option linter.unusedVariables false
/-- block p holds a side -/
def SideAt (w : World) (p : Nat) (l : LinkM) : Prop := w.heap[p]? = some (.cells (linkCells l) 131 (0, 0))
theorem SideAt.below {w w' : World} {p : Nat} {l : LinkM} (h : SideAt w p l) (hb : Below w.heap.size w w') : SideAt w' p l := below_of hb h
theorem SideAt.lt {w : World} {p : Nat} {l : LinkM} (h : SideAt w p l) : p < w.heap.size := (Array.getElem?_eq_some_iff.1 h).1
theorem SideAt.cells {w : World} {p : Nat} {l : LinkM} (h : SideAt w p l) : w.cell? ⟨p, 0, none⟩ = some (.int .i64 l.mru) ∧ w.cell? ⟨p, 1, none⟩ = some (.int .i64 l.magic) ∧ w.cell? ⟨p, 2, none⟩ = some (.int .i64 l.mrru) ∧ w.cell? ⟨p, 3, none⟩ = some (.bool l.short) ∧ w.cell? ⟨p, 4, none⟩ = some (.string l.disc) ∧ w.cell? ⟨p, 5, none⟩ = some (.int .i64 l.num) := by
  unfold SideAt at h
  simp [World.cell?, h, linkCells]
theorem SideAt.frozen {w : World} {p : Nat} {l : LinkM} (h : SideAt w p l) (i : Nat) : w.frozen? ⟨p, i, none⟩ = false := by
  unfold SideAt at h
  simp [World.frozen?, h]
/-- where the number of a kind lies -/
def fieldOff (k : Int) : Option Nat := if k = 1 then some 0 else if k = 5 then some 1 else if k = 17 then some 2 else if k = 23 then some 5 else none
theorem field_any (p : Nat) (k : Int) (w : World) : Calls Tryz.prog 84 #[.pointer (some ⟨p, 0, none⟩), .int .i64 k] w fun e w' => e = .returned (.pointer ((fieldOff k).map fun i => ⟨p, i, none⟩)) ∧ w = w' := by
  go_enter Tryz.func84, Tryz.ntmps84
  go_wp2_with fail
  all_goals
    go_ret
    refine ⟨?_, rfl⟩
    unfold fieldOff
    simp_all
theorem fieldOff_cell {w : World} {p : Nat} {l : LinkM} (h : SideAt w p l) {k : Int} {i : Nat} (hk : fieldOff k = some i) : ∃ x, fieldM l k = some x ∧ w.cell? ⟨p, i, none⟩ = some (.int .i64 x) := by
  obtain ⟨h0, h1, h2, h3, h4, h5⟩ := h.cells
  unfold fieldOff at hk
  unfold fieldM
  repeat' split at hk
  all_goals (first | cases hk | skip)
  all_goals simp_all
theorem fieldM_none {l : LinkM} {k : Int} (hk : fieldOff k = none) : fieldM l k = none := by
  unfold fieldOff at hk
  unfold fieldM
  repeat' split at hk
  all_goals (first | cases hk | skip)
  all_goals simp_all
set_option maxHeartbeats 1000000 in
theorem asks_any (p : Nat) (l : LinkM) (k : Int) (w : World) (h : SideAt w p l) : Calls Tryz.prog 77 #[.pointer (some ⟨p, 0, none⟩), .int .i64 k] w fun e w' => e = .returned (.bool (asksM l k)) ∧ w = w' := by
  obtain ⟨h0, h1, h2, h3, h4, h5⟩ := h.cells
  by_cases k18 : k = 18
  · subst k18
    go_enter Tryz.func77, Tryz.ntmps77
    go_wp2_with fail
    go_ret
    exact ⟨rfl, rfl⟩
  · by_cases k19 : k = 19
    · subst k19
      have HA : Hid (asksM l 19 = !l.disc.toList.isEmpty) := Lib.hid (by
        unfold asksM
        rw [if_neg (by decide), if_pos rfl, ba_toList]
        cases e : l.disc.data.toList <;> simp)
      clear k18
      go_enter Tryz.func77, Tryz.ntmps77
      go_wp2_with fail
      go_ret
      exact ⟨by rw [HA.out]; rfl, rfl⟩
    · have q18 : (k == 18) = false := beq_eq_false_iff_ne.2 k18
      have q19 : (k == 19) = false := beq_eq_false_iff_ne.2 k19
      cases hf : fieldOff k with
      | none =>
        have HA : Hid (asksM l k = false) := Lib.hid (by unfold asksM; rw [if_neg k18, if_neg k19, fieldM_none hf])
        have HC := fun w => field_any p k w
        rw [hf] at HC
        clear k18 k19 hf
        go_enter Tryz.func77, Tryz.ntmps77
        go_wp2_with fail
        refine (HC _).mono ?_
        rintro e w' ⟨rfl, rfl⟩
        go_wp2_with fail
        go_ret
        exact ⟨by rw [HA.out]; rfl, rfl⟩
      | some i =>
        obtain ⟨x, hx, hc⟩ := fieldOff_cell h hf
        have HA : Hid (asksM l k = (x != 0)) := Lib.hid (by unfold asksM; rw [if_neg k18, if_neg k19, hx]; rw [Bool.eq_iff_iff]; simp)
        have HC := fun w => field_any p k w
        rw [hf] at HC
        clear k18 k19 hf hx
        go_enter Tryz.func77, Tryz.ntmps77
        go_wp2_with fail
        refine (HC _).mono ?_
        rintro e w' ⟨rfl, rfl⟩
        go_wp2_with fail
        go_ret
        exact ⟨by rw [HA.out]; rfl, rfl⟩
theorem side_set {w : World} {p : Nat} {l : LinkM} (h : SideAt w p l) (i : Nat) (x : Value) (l' : LinkM) (he : (linkCells l).setIfInBounds i x = linkCells l') : SideAt (w.setCell ⟨p, i, none⟩ x) p l' := by
  have := heap_setCell_same w p i (linkCells l) 131 x h
  rw [he] at this
  exact this
theorem putF_cells (l : LinkM) (k x : Int) (i : Nat) (hk : fieldOff k = some i) : (linkCells l).setIfInBounds i (.int .i64 x) = linkCells (putF l k x) := by
  unfold fieldOff at hk
  unfold putF
  repeat' split at hk
  all_goals (first | cases hk | skip)
  all_goals simp_all [linkCells]
theorem only_set (w : World) (p i : Nat) (x : Value) : Only (· = p) w (w.setCell ⟨p, i, none⟩ x) := (Only.refl (· = p) w).set (a := ⟨p, i, none⟩) (.inl rfl) x
set_option maxHeartbeats 1000000 in
theorem clear_any (p : Nat) (l : LinkM) (k : Int) (w : World) (h : SideAt w p l) (hk : k = 18 ∨ k = 19 ∨ ∃ i, fieldOff k = some i) : Calls Tryz.prog 78 #[.pointer (some ⟨p, 0, none⟩), .int .i64 k] w fun e w' => e = .returned (.tuple #[]) ∧ SideAt w' p (clearM l k) ∧ Only (· = p) w w' := by
  obtain ⟨h0, h1, h2, h3, h4, h5⟩ := h.cells
  have f3 := h.frozen 3
  have f4 := h.frozen 4
  by_cases k18 : k = 18
  · subst k18
    clear hk
    have hs := side_set h 3 (.bool false) (clearM l 18) rfl
    go_enter Tryz.func78, Tryz.ntmps78
    go_wp2_with fail
    go_end0
    exact ⟨rfl, hs, only_set _ _ _ _⟩
  · by_cases k19 : k = 19
    · subst k19
      clear hk k18
      have hs := side_set h 4 (.string ⟨#[]⟩) (clearM l 19) rfl
      go_enter Tryz.func78, Tryz.ntmps78
      go_wp2_with fail
      go_end0
      exact ⟨rfl, hs, only_set _ _ _ _⟩
    · obtain ⟨i, hf⟩ : ∃ i, fieldOff k = some i := by
        rcases hk with hk | hk | hk
        · exact absurd hk k18
        · exact absurd hk k19
        · exact hk
      have q18 : (k == 18) = false := beq_eq_false_iff_ne.2 k18
      have q19 : (k == 19) = false := beq_eq_false_iff_ne.2 k19
      obtain ⟨x, hx, hc⟩ := fieldOff_cell h hf
      have hfi := h.frozen i
      have HC := fun w => field_any p k w
      have hs := side_set h i (.int .i64 0) (clearM l k) (by rw [putF_cells l k 0 i hf]; unfold clearM; rw [if_neg k18, if_neg k19])
      rw [hf] at HC
      clear hk k18 k19 hf hx
      go_enter Tryz.func78, Tryz.ntmps78
      go_wp2_with fail
      refine (HC _).mono ?_
      rintro e w' ⟨rfl, rfl⟩
      go_wp2_with fail
      go_end0
      exact ⟨rfl, hs, only_set _ _ _ _⟩
set_option maxRecDepth 100000 in
set_option maxHeartbeats 1000000 in
theorem set_any (p : Nat) (l : LinkM) (o : OptM) (w : World) (h : SideAt w p l) (hk : o.1 = 18 ∨ o.1 = 19 ∨ ∃ i, fieldOff o.1 = some i) (hz : o.2.size ≤ 9223372036854775807) : Calls Tryz.prog 87 #[.pointer (some ⟨p, 0, none⟩), .agg #[.int .i64 o.1, .string o.2]] w fun e w' => e = .returned (.tuple #[]) ∧ SideAt w' p (setM l o) ∧ Only (· = p) w w' := by
  obtain ⟨k, d⟩ := o
  simp only at hk hz ⊢
  have hb := (Below.refl w.heap.size w).alloc (Nat.le_refl _) (.cells #[.int .i64 k, .string d] 70)
  have ha := h.below hb
  have hO : Only (· = p) w (w.alloc (.cells #[.int .i64 k, .string d] 70)) := (Only.refl _ _).alloc _
  obtain ⟨h0, h1, h2, h3, h4, h5⟩ := ha.cells
  have f3 := ha.frozen 3
  have f4 := ha.frozen 4
  have hpl := h.lt
  by_cases k18 : k = 18
  · subst k18
    clear hk
    have hs := (side_set h 3 (.bool true) (setM l (18, d)) rfl).below ((Below.refl _ _).alloc (Nat.le_refl _) (.cells #[.int .i64 18, .string d] 70))
    go_enter Tryz.func87, Tryz.ntmps87
    go_wp2_with fail
    go_end0
    exact ⟨rfl, hs, (only_set _ _ _ _).alloc _⟩
  · by_cases k19 : k = 19
    · subst k19
      clear hk k18
      have hs := (side_set h 4 (.string d) (setM l (19, d)) rfl).below ((Below.refl _ _).alloc (Nat.le_refl _) (.cells #[.int .i64 19, .string d] 70))
      go_enter Tryz.func87, Tryz.ntmps87
      go_wp2_with fail
      go_end0
      exact ⟨rfl, hs, (only_set _ _ _ _).alloc _⟩
    · obtain ⟨i, hf⟩ : ∃ i, fieldOff k = some i := by
        rcases hk with hk | hk | hk
        · exact absurd hk k18
        · exact absurd hk k19
        · exact hk
      have q18 : (k == 18) = false := beq_eq_false_iff_ne.2 k18
      have q19 : (k == 19) = false := beq_eq_false_iff_ne.2 k19
      obtain ⟨x, hx, hc⟩ := fieldOff_cell ha hf
      have hfi := ha.frozen i
      have HC := fun w => field_any p k w
      have HV := fun w => value_any d w hz
      have hs := (side_set h i (.int .i64 (valueM d.data.toList)) (setM l (k, d)) (by rw [putF_cells l k _ i hf]; unfold setM; rw [if_neg k18, if_neg k19])).below ((Below.refl _ _).alloc (Nat.le_refl _) (.cells #[.int .i64 k, .string d] 70))
      rw [hf] at HC
      obtain ⟨v, hv⟩ : ∃ v, valueM d.data.toList = v := ⟨_, rfl⟩
      rw [hv] at hs HV
      clear hk k18 k19 hf hx hv
      go_enter Tryz.func87, Tryz.ntmps87
      go_wp2_with fail
      refine wp_stillTail 8 (by kernel_rfl) (by kernel_rfl) ?_
      simp only [List.take_succ_cons, List.take_zero, List.drop_succ_cons, List.drop_zero]
      repeat still_step
      still_call ((HC _).mono fun e w' h => ⟨h.1, h.2.symm⟩)
      repeat still_step
      still_call ((HV _).mono fun e w' h => ⟨h.1, h.2.symm⟩)
      repeat still_step
      refine wpStill_nil ?_
      go_wp2_with fail
      go_end0
      exact ⟨rfl, hs.below (Below.refl _ _).drew, ((only_set _ _ _ _).alloc _).drew⟩
end Go.Proofs.YtagnbdenecphcaaGreatDoor
/-! Slices of options; opts.Find. -/
namespace Go.Proofs.YtagnbdenecphcaaGreatDoor
open Go.RowKit
set_option linter.unusedVariables false
def optCells (o : OptM) : List Value := [.int .i64 o.1, .string o.2]
def optE : Elem Tryz.prog OptM where
  tS := 34
  tE := 70
  size := 2
  bytes := 24
  z := .agg #[.int .i64 0, .string ByteArray.empty]
  enc := optCells
  und := Tryz.underlying34
  info := by kernel_rfl
  zs := rfl
  len := fun _ => rfl
  one := fun a u hu => by
    simp only [optCells, List.mem_cons, List.not_mem_nil, or_false] at hu
    rcases hu with rfl | rfl <;> rfl
  pos := by decide
/-- v is a slice of options that reads as l -/
def OptsAt (w : World) (v : Value) (l : List OptM) : Prop := SeqAt optE w v l
theorem OptsAt.below {w w' : World} {v : Value} {l : List OptM} (h : OptsAt w v l) (hb : Below w.heap.size w w') : OptsAt w' v l := SeqAt.below h hb
theorem OptsAt.nil (w : World) : OptsAt w (.slice none 0 0) [] := SeqAt.nil _ _
/-- where the options lie -/
theorem OptsAt.cells {w : World} {g o n c : Nat} {l : List OptM} (h : OptsAt w (.slice (some ⟨g, o, none⟩) n c) l) : n = l.length ∧ l.length ≤ c ∧ c ≤ maxLen ∧ ∀ j (h : j < l.length), w.cell? ⟨g, o + j * 2, none⟩ = some (.int .i64 l[j].1) ∧ w.cell? ⟨g, o + j * 2 + 1, none⟩ = some (.string l[j].2) := by
  rcases h with ⟨_, h⟩ | ⟨g', o', c', h, h1, h2, _, hc⟩
  · cases h
  · cases h
    refine ⟨rfl, h1, h2, fun j hj => ⟨?_, ?_⟩⟩
    · exact hc j hj 0 (by decide)
    · exact hc j hj 1 (by decide)
theorem OptsAt.or {w : World} {v : Value} {l : List OptM} (h : OptsAt w v l) : (l = [] ∧ v = .slice none 0 0) ∨ ∃ g o c, v = .slice (some ⟨g, o, none⟩) l.length c := by
  rcases h with h | ⟨g, o, c, h, _⟩
  · exact .inl h
  · exact .inr ⟨g, o, c, h⟩
/-- append of one option that was just laid in a row of its own -/
theorem wpList_appO {ops : Array Oper} {rest : List Oper} {o : Oper} {a : Act} {w : World} {Q : Exit → Act → World → Prop} (hgd : o.guard = none) (s x : Operand)
    (ho : o.op = .call { callee := .builtin .append, args := #[s, x], argTypes := #[34, 34] })
    (W0 : World) (v : Value) (l : List OptM) (k : Int) (d : ByteArray) (c : Nat) (hown : OwnE optE w W0.heap.size v l) (hs : a.eval s = v) (B : Nat) (hx : a.eval x = .slice (some ⟨B, 0, none⟩) 1 c) (hB : B = w.heap.size)
    (hlen : (l.length + 1) * 24 ≤ 140737488355328) (hbel : Below W0.heap.size W0 w)
    (h : ∀ v' w', OwnE optE w' W0.heap.size v' (l ++ [(k, d)]) → Below W0.heap.size W0 w' → Only (fun k => v.ownBlock = some k) w w' → (v'.ownBlock = v.ownBlock ∨ ∃ k, v'.ownBlock = some k ∧ w.heap.size ≤ k) → wpList Tryz.prog ops Q rest (a.put o.dst v') w') :
    wpList Tryz.prog ops Q (o :: rest) a (w.alloc (.cells #[.int .i64 k, .string d] 70)) :=
  wpList_appE optE hgd s x ho W0 v l (k, d) c hown hs B hx hB hlen hbel (by decide) h
/-- append of all options of a slice -/
theorem wpList_appOs {ops : Array Oper} {rest : List Oper} {o : Oper} {a : Act} {w : World} {Q : Exit → Act → World → Prop} (hgd : o.guard = none) (s x : Operand)
    (ho : o.op = .call { callee := .builtin .append, args := #[s, x], argTypes := #[34, 34] })
    (W0 : World) (v v2 : Value) (l l2 : List OptM) (hown : OwnE optE w W0.heap.size v l) (hsrc : OptsAt w v2 l2) (hs : a.eval s = v) (hx : a.eval x = v2)
    (hlen : (l.length + l2.length) * 24 ≤ 140737488355328) (hbel : Below W0.heap.size W0 w)
    (h : ∀ v' w', OwnE optE w' W0.heap.size v' (l ++ l2) → Below W0.heap.size W0 w' → Only (fun k => v.ownBlock = some k) w w' → (v'.ownBlock = v.ownBlock ∨ ∃ k, v'.ownBlock = some k ∧ w.heap.size ≤ k) → wpList Tryz.prog ops Q rest (a.put o.dst v') w') :
    wpList Tryz.prog ops Q (o :: rest) a w :=
  wpList_appSeq optE hgd s x ho W0 v v2 l l2 hown hsrc hs hx hlen hbel (by decide) h
def findFrom (k : Int) (l : List OptM) : Int := match l.findIdx? (fun o => decide (o.1 = k)) with | some i => (i : Int) | none => -1
theorem findFrom_hit (k : Int) (l : List OptM) (j : Nat) (hj : j < l.length) (h : ∀ i (hi : i < j), (l[i]'(by omega)).1 ≠ k) (hx : l[j].1 = k) : findFrom k l = (j : Int) := by
  unfold findFrom
  have : l.findIdx? (fun o => decide (o.1 = k)) = some j := by
    rw [List.findIdx?_eq_some_iff_getElem]
    exact ⟨hj, by simpa using hx, fun i hi => by simpa using h i hi⟩
  rw [this]
theorem findFrom_none (k : Int) (l : List OptM) (h : ∀ i (hi : i < l.length), l[i].1 ≠ k) : findFrom k l = -1 := by
  unfold findFrom
  have : l.findIdx? (fun o => decide (o.1 = k)) = none := by
    rw [List.findIdx?_eq_none_iff]
    intro x hx
    obtain ⟨i, hi, rfl⟩ := List.mem_iff_getElem.1 hx
    simpa using h i hi
  rw [this]
theorem findFrom_any (k : Int) (l : List OptM) : decide (0 ≤ findFrom k l) = l.any fun o => decide (o.1 = k) := by
  unfold findFrom
  cases e : l.findIdx? (fun o => decide (o.1 = k)) with
  | none =>
    rw [List.findIdx?_eq_none_iff] at e
    symm
    simp only [show decide ((0 : Int) ≤ -1) = false by decide]
    rw [List.any_eq_false]
    intro x hx
    simpa using e x hx
  | some i =>
    obtain ⟨hi, hx, _⟩ := List.findIdx?_eq_some_iff_getElem.1 e
    have : decide ((0 : Int) ≤ (i : Int)) = true := by simp
    rw [this]
    symm
    rw [List.any_eq_true]
    exact ⟨l[i], List.getElem_mem hi, hx⟩
theorem find1_any (k : Int) (o : OptM) (b : Nat) (w : World) (hb : w.cell? ⟨b, 0, none⟩ = some (.int .i64 k)) :
    Calls Tryz.prog 90 #[.agg #[.int .i64 o.1, .string o.2], .pointer (some ⟨b, 0, none⟩)] w fun e w' => e = .returned (.bool (o.1 == k)) ∧ Below w.heap.size w w' := by
  have hl := block_lt_of_cell hb
  go_enter Tryz.func90, Tryz.ntmps90
  go_wp2_with fail
  go_ret
  exact ⟨rfl, allocB (Below.refl _ _) _⟩
set_option maxHeartbeats 1000000 in
theorem indexFunc_find (k : Int) (b : Nat) (g o c : Nat) (l : List OptM) (w : World) (hb : w.cell? ⟨b, 0, none⟩ = some (.int .i64 k)) (h : OptsAt w (.slice (some ⟨g, o, none⟩) l.length c) l) (hl : l.length ≤ 9223372036854775807) :
    Calls Tryz.prog 88 #[.slice (some ⟨g, o, none⟩) l.length c, .func (.func 90) #[] #[.pointer (some ⟨b, 0, none⟩)]] w fun e w' => e = .returned (.int .i64 (findFrom k l)) ∧ Below w.heap.size w w' := by
  obtain ⟨-, -, -, hc⟩ := h.cells
  obtain ⟨n, hn⟩ : ∃ n, l.length = n := ⟨_, rfl⟩
  have HN := Lib.hid hn
  have HC := Lib.hid hc
  rw [hn] at hl ⊢
  clear h hc hn
  go_enter Tryz.func88, Tryz.ntmps88
  go_wp2_with fail
  go_loopw [8] (fun i wr => ∃ j : Nat, j ≤ n ∧ i = .int .i64 j ∧ Below w.heap.size w wr ∧ ∀ i (hi : i < l.length), i < j → l[i].1 ≠ k) (fun i _ => n - (intOf i).toNat)
  case atStart => exact ⟨0, Nat.zero_le _, rfl, Below.refl _ _, fun i _ h => absurd h (Nat.not_lt_zero _)⟩
  case round =>
    obtain ⟨j, hj, rfl, hbl, hno⟩ := hrel
    have HNO := Lib.hid hno
    clear hno
    by_cases hlt : j < n
    · have hjl : j < l.length := by rw [HN.out]; exact hlt
      obtain ⟨c1, c2⟩ := HC.out j hjl
      replace c1 := (hbl.cell (block_lt_of_cell c1)).trans c1
      replace c2 := (hbl.cell (block_lt_of_cell c2)).trans c2
      have hb' := (hbl.cell (block_lt_of_cell hb)).trans hb
      have HX : Hid (l[j] = l[j]) := Lib.hid rfl
      obtain ⟨x, hx⟩ : ∃ x, l[j] = x := ⟨_, rfl⟩
      rw [hx] at c1 c2
      have HX := Lib.hid hx
      clear hx
      by_cases heq : x.1 = k
      · have hr : Hid (findFrom k l = (j : Int)) := Lib.hid (findFrom_hit k l j hjl (fun i hi => HNO.out i (by omega) hi) (by rw [HX.out]; exact heq))
        have hq : (x.1 == k) = true := by simp [heq]
        clear heq
        go_wp2_with fail
        refine (find1_any k x b _ hb').mono ?_
        rintro e w3 ⟨rfl, hb3⟩
        go_wp2_with fail
        go_ret
        exact ⟨by rw [hr.out]; rfl, seqB hbl hb3⟩
      · have hq : (x.1 == k) = false := by simp [heq]
        have HQ := Lib.hid heq
        clear heq
        go_wp2_with fail
        refine (find1_any k x b _ hb').mono ?_
        rintro e w3 ⟨rfl, hb3⟩
        go_wp2_with fail
        go_roundw
        case rel =>
          refine ⟨j + 1, by omega, by go_num, seqB hbl hb3, fun i hi hij => ?_⟩
          by_cases hjk : i = j
          · subst hjk; rw [HX.out]; exact HQ.out
          · exact HNO.out i hi (by omega)
        case measure => simp [intOf]; omega
    · obtain rfl : j = n := by omega
      have hr : Hid (findFrom k l = -1) := Lib.hid (findFrom_none k l (fun i hi => HNO.out i hi (by rw [← HN.out]; exact hi)))
      go_wp2_with fail
      go_ret
      exact ⟨by rw [hr.out]; rfl, hbl⟩
theorem indexFunc_none (k : Int) (f : Value) (c : Nat) (w : World) :
    Calls Tryz.prog 88 #[.slice none 0 c, f] w fun e w' => e = .returned (.int .i64 (-1)) ∧ w = w' := by
  go_enter Tryz.func88, Tryz.ntmps88
  go_wp2_with fail
  go_loopw [8] (fun i wr => i = .int .i64 0 ∧ w = wr) (fun i _ => 0)
  case atStart => exact ⟨rfl, rfl⟩
  case round =>
    obtain ⟨rfl, rfl⟩ := hrel
    go_wp2_with fail
    go_ret
    exact ⟨rfl, rfl⟩
set_option maxHeartbeats 1000000 in
theorem find_any (k : Int) (v : Value) (l : List OptM) (w : World) (h : OptsAt w v l) :
    Calls Tryz.prog 75 #[.int .i64 k, v] w fun e w' => e = .returned (.int .i64 (findFrom k l)) ∧ Below w.heap.size w w' := by
  have hl := SeqAt.le h
  have h' := h.below ((Below.refl _ _).alloc (Nat.le_refl _) (.cells #[.int .i64 k] 3))
  rcases h.or with ⟨rfl, rfl⟩ | ⟨g, o, c, rfl⟩
  · go_enter Tryz.func75, Tryz.ntmps75
    go_wp2_with fail
    refine (indexFunc_none k _ _ _).mono ?_
    rintro e w' ⟨rfl, rfl⟩
    go_wp2_with fail
    go_ret
    exact ⟨rfl, allocB (Below.refl _ _) _⟩
  · go_enter Tryz.func75, Tryz.ntmps75
    go_wp2_with fail
    refine (indexFunc_find k w.heap.size g o c l _ (by rw [World.cell?_alloc_new]; rfl) h' hl).mono ?_
    rintro e w' ⟨rfl, hb⟩
    go_wp2_with fail
    go_ret
    exact ⟨rfl, seqB (allocB (Below.refl _ _) _) hb⟩
end Go.Proofs.YtagnbdenecphcaaGreatDoor
/-! policy: kinds, Ask. -/
namespace Go.Proofs.YtagnbdenecphcaaGreatDoor
open Go.RowKit
set_option linter.unusedVariables false
theorem number_any (x : Int) (n : Nat) (w : World) (h0 : 0 ≤ x) (h1 : x ≤ 4294967295) (hn : n = 2 ∨ n = 4) : Calls Tryz.prog 85 #[.int .i64 x, .int .i64 n] w fun e w' => e = .returned (.string (bytesOf (numB x n))) ∧ Below w.heap.size w w' := by
  rcases hn with rfl | rfl
  · exact number2_any x w h0 h1
  · exact number4_any x w h0 h1
theorem kinds_any (w : World) : Calls Tryz.prog 83 #[] w fun e w' => e = .returned (.slice (some ⟨w.heap.size, 0, none⟩) 6 6) ∧ (∀ j (h : j < 6), w'.cell? ⟨w.heap.size, j, none⟩ = some (.int .i64 (kindsM.getD j 0))) ∧ Below w.heap.size w w' := by
  go_enter Tryz.func83, Tryz.ntmps83
  go_wp2_with fail
  go_ret
  refine ⟨rfl, fun j h => ?_, allocB (Below.refl _ _) _⟩
  rw [World.cell?_alloc_new]
  match j, h with
  | 0, _ => rfl
  | 1, _ => rfl
  | 2, _ => rfl
  | 3, _ => rfl
  | 4, _ => rfl
  | 5, _ => rfl
theorem kind_cases (j : Nat) (h : j < 6) : (kindsM.getD j 0 = 18 ∨ kindsM.getD j 0 = 19) ∨ ∃ i n, fieldOff (kindsM.getD j 0) = some i ∧ sizeM (kindsM.getD j 0) = ((n : Nat) : Int) ∧ (n = 2 ∨ n = 4) ∧ kindsM.getD j 0 ≠ 18 ∧ kindsM.getD j 0 ≠ 19 := by
  match j, h with
  | 0, _ => exact .inr ⟨0, 2, rfl, rfl, .inl rfl, by decide, by decide⟩
  | 1, _ => exact .inr ⟨1, 4, rfl, rfl, .inr rfl, by decide, by decide⟩
  | 2, _ => exact .inr ⟨2, 2, rfl, rfl, .inl rfl, by decide, by decide⟩
  | 3, _ => exact .inl (.inl rfl)
  | 4, _ => exact .inl (.inr rfl)
  | 5, _ => exact .inr ⟨5, 2, rfl, rfl, .inl rfl, by decide, by decide⟩
theorem mayM_bounds {l : LinkM} (h : mayM l = true) : (0 ≤ l.mru ∧ l.mru ≤ 1500) ∧ (0 ≤ l.magic ∧ l.magic ≤ 4294967295) ∧ (0 ≤ l.mrru ∧ l.mrru ≤ 1500) ∧ (0 ≤ l.num ∧ l.num ≤ 65535) ∧ l.disc.size ≤ 20 := by
  unfold mayM unitM at h
  simp only [Bool.and_eq_true, Bool.or_eq_true, decide_eq_true_eq] at h
  omega
theorem mayM_field {l : LinkM} (h : mayM l = true) {k x : Int} (hx : fieldM l k = some x) : 0 ≤ x ∧ x ≤ 4294967295 := by
  obtain ⟨h1, h2, h3, h4, _⟩ := mayM_bounds h
  unfold fieldM at hx
  repeat' split at hx
  all_goals (first | cases hx | skip)
  all_goals omega
def askTo (l : LinkM) (k : Nat) : List OptM := ((kindsM.take k).filter (asksM l)).map (optOf l)
theorem askTo_succ (l : LinkM) (k : Nat) (hk : k < 6) : askTo l (k + 1) = askTo l k ++ (if asksM l (kindsM.getD k 0) = true then [optOf l (kindsM.getD k 0)] else []) := by
  have e : kindsM.take (k + 1) = kindsM.take k ++ [kindsM.getD k 0] := by
    match k, hk with
    | 0, _ => rfl
    | 1, _ => rfl
    | 2, _ => rfl
    | 3, _ => rfl
    | 4, _ => rfl
    | 5, _ => rfl
  unfold askTo
  rw [e, List.filter_append, List.map_append]
  congr 1
  rw [List.filter_cons, List.filter_nil]
  split <;> rfl
theorem askTo_len (l : LinkM) (k : Nat) : (askTo l k).length ≤ 6 := by
  unfold askTo
  rw [List.length_map]
  refine Nat.le_trans (List.length_filter_le _ _) ?_
  rw [List.length_take]
  exact Nat.min_le_right _ _
theorem link_cells {w : World} {p : Nat} {l : LinkM} {t : TypeId} (h : w.heap[p]? = some (.cells (linkCells l) t (0, 0))) : w.cell? ⟨p, 0, none⟩ = some (.int .i64 l.mru) ∧ w.cell? ⟨p, 1, none⟩ = some (.int .i64 l.magic) ∧ w.cell? ⟨p, 2, none⟩ = some (.int .i64 l.mrru) ∧ w.cell? ⟨p, 3, none⟩ = some (.bool l.short) ∧ w.cell? ⟨p, 4, none⟩ = some (.string l.disc) ∧ w.cell? ⟨p, 5, none⟩ = some (.int .i64 l.num) := by
  simp [World.cell?, h, linkCells]
theorem optOf_field (l : LinkM) (k x : Int) (n : Nat) (hx : fieldM l k = some x) (hn : sizeM k = (n : Int)) : optOf l k = (k, bytesOf (numB x n)) := by
  unfold optOf
  rw [hx, hn]; rfl
set_option maxRecDepth 100000 in
set_option maxHeartbeats 8000000 in
theorem pask_any (l : LinkM) (w : World) (hm : mayM l = true) : Calls Tryz.prog 63 #[.agg (linkCells l)] w fun e w' => ∃ o, e = .returned (.tuple #[o, .int .i64 0]) ∧ OwnE optE w' w.heap.size o (askM l) ∧ Below w.heap.size w w' := by
  have hmay := fun w => pmay_any l w
  rw [hm] at hmay
  have HM := Lib.hid hm
  clear hm
  have hL : linkCells l = #[.int .i64 l.mru, .int .i64 l.magic, .int .i64 l.mrru, .bool l.short, .string l.disc, .int .i64 l.num] := rfl
  have HL := Lib.hid hL
  clear hL
  rw [HL.out] at hmay ⊢
  go_enter Tryz.func63, Tryz.ntmps63
  go_wp2_with fail
  refine (hmay _).mono ?_
  rintro e w1 ⟨rfl, hb1⟩
  have hh1 : w1.heap[w.heap.size]? = some (.cells (linkCells l) 23 (0, 0)) := below_of hb1 (by rw [HL.out]; exact heap_alloc_last _ _)
  obtain ⟨c0, c1, c2, c3, c4, c5⟩ := link_cells hh1
  have hB1 : Below w.heap.size w w1 := seqB (allocB (Below.refl _ _) _) hb1
  clear hb1 hmay
  go_wp2_with fail
  refine (kinds_any _).mono ?_
  rintro e w2 ⟨rfl, hk, hb2⟩
  have hB2 : Below w.heap.size w w2 := seqB (allocB hB1 _) hb2
  have hS : SideAt w2 w1.heap.size l := below_of hb2 (by rw [HL.out]; exact heap_alloc_last _ _)
  have hd : w2.cell? ⟨w.heap.size, 4, none⟩ = some (.string l.disc) := fsm_below_cell hb2 (fsm_below_cell ((Below.refl _ _).alloc (Nat.le_refl _) _) c4)
  have hsl := hS.lt
  clear hB1 hb2 hh1 c0 c1 c2 c3 c4 c5
  simp only [World.size_alloc] at hk ⊢
  have HK := Lib.hid hk
  clear hk
  go_wp2_with fail
  go_loopw [5, 18] (fun o i wr => ∃ k : Nat, k ≤ 6 ∧ i = .int .i64 k ∧ OwnE optE wr w2.heap.size o (askTo l k) ∧ Below w2.heap.size w2 wr) (fun _ i _ => 6 - (intOf i).toNat)
  case atStart => exact ⟨0, Nat.zero_le _, rfl, OwnE.nil _ _ _, Below.refl _ _⟩
  case round =>
    obtain ⟨k, hk6, rfl, hown, hbl⟩ := hrel
    have hal := askTo_len l k
    by_cases hlt : k < 6
    · have hkc := fsm_below_cell hbl (HK.out k hlt)
      have hSr := hS.below hbl
      have hdr := fsm_below_cell hbl hd
      have hsu := askTo_succ l k hlt
      have hcase := kind_cases k hlt
      obtain ⟨x, hx⟩ : ∃ x, kindsM.getD k 0 = x := ⟨_, rfl⟩
      rw [hx] at hkc hsu hcase
      obtain ⟨acc, hacc⟩ : ∃ acc, askTo l k = acc := ⟨_, rfl⟩
      rw [hacc] at hown hsu hal
      have hask := fun w h => asks_any w1.heap.size l x w h
      cases hb : asksM l x with
      | false =>
        rw [hb] at hask
        have HSU : Hid (askTo l (k + 1) = acc) := Lib.hid (by rw [hsu, hb]; simp)
        clear hsu hx hacc hb hcase
        go_wp2_with fail
        refine (hask _ hSr).mono ?_
        rintro e w3 ⟨rfl, rfl⟩
        go_wp2_with fail
        go_roundw
        case rel => exact ⟨k + 1, by omega, by go_num, by rw [HSU.out]; exact hown, hbl⟩
        case measure => simp [intOf]; omega
      | true =>
        rw [hb] at hask
        have HSU : Hid (askTo l (k + 1) = acc ++ [optOf l x]) := Lib.hid (by rw [hsu, hb]; simp)
        clear hsu hx hacc hb
        rcases hcase with hcase | ⟨i, n, hf, hsz, hn, n18, n19⟩
        · have hown3 := (hown.below ((Below.refl _ _).alloc (Nat.le_refl _) (.cells #[.int .i64 x, .string ⟨#[]⟩] 70)))
          have hbl3 : Below w2.heap.size w2 (wr.alloc (.cells #[.int .i64 x, .string ⟨#[]⟩] 70)) := allocB hbl _
          rcases hcase with rfl | rfl
          · have HO : Hid (optOf l 18 = (18, ⟨#[]⟩)) := Lib.hid rfl
            have hfld : ∀ w : World, Calls Tryz.prog 84 #[.pointer (some ⟨w1.heap.size, 0, none⟩), .int .i64 18] w fun e w' => e = .returned (.pointer none) ∧ w = w' := fun w => field_any w1.heap.size 18 w
            go_wp2_with fail
            refine (hask _ hSr).mono ?_
            rintro e w3 ⟨rfl, rfl⟩
            go_wp2_with fail
            refine (hfld _).mono ?_
            rintro e w3 ⟨rfl, rfl⟩
            go_wp2_with (at_builtin; refine wpList_appO rfl _ _ rfl w2 _ _ 18 ⟨#[]⟩ 1 hown3 rfl _ rfl (by simp) (by omega) hbl3 ?_; intro v' w5 hown5 hbl5 _ _)
            go_roundw
            case rel => exact ⟨k + 1, by omega, by go_num, by rw [HSU.out, HO.out]; exact hown5, hbl5⟩
            case measure => simp [intOf]; omega
          · have HO : Hid (optOf l 19 = (19, l.disc)) := Lib.hid rfl
            have hfld : ∀ w : World, Calls Tryz.prog 84 #[.pointer (some ⟨w1.heap.size, 0, none⟩), .int .i64 19] w fun e w' => e = .returned (.pointer none) ∧ w = w' := fun w => field_any w1.heap.size 19 w
            have hown4 := (hown.below ((Below.refl _ _).alloc (Nat.le_refl _) (.cells #[.int .i64 19, .string l.disc] 70)))
            have hbl4 : Below w2.heap.size w2 (wr.alloc (.cells #[.int .i64 19, .string l.disc] 70)) := allocB hbl _
            have hdr2 := fsm_below_cell ((Below.refl wr.heap.size wr).alloc (Nat.le_refl _) (.cells #[.int .i64 19, .string ⟨#[]⟩] 70)) hdr
            clear hown3 hbl3
            go_wp2_with fail
            refine (hask _ hSr).mono ?_
            rintro e w3 ⟨rfl, rfl⟩
            go_wp2_with fail
            refine (hfld _).mono ?_
            rintro e w3 ⟨rfl, rfl⟩
            go_wp2_with (at_builtin; refine wpList_appO rfl _ _ rfl w2 _ _ 19 l.disc 1 hown4 rfl _ rfl (by simp) (by omega) hbl4 ?_; intro v' w5 hown5 hbl5 _ _)
            go_roundw
            case rel => exact ⟨k + 1, by omega, by go_num, by rw [HSU.out, HO.out]; exact hown5, hbl5⟩
            case measure => simp [intOf]; omega
        · obtain ⟨z, hz, hzc⟩ := fieldOff_cell hSr hf
          obtain ⟨z0, z1⟩ := mayM_field HM.out hz
          have HO := Lib.hid (optOf_field l x z n hz hsz)
          have hfld := fun w => field_any w1.heap.size x w
          have hsiz := fun w => size_any x w
          have hnum := fun w => number_any z n w z0 z1 hn
          rw [hf] at hfld
          rw [hsz] at hsiz
          obtain ⟨N, hN⟩ : ∃ N, bytesOf (numB z n) = N := ⟨_, rfl⟩
          rw [hN] at hnum HO
          clear hf hsz hN hz n18 n19
          go_wp2_with fail
          refine (hask _ hSr).mono ?_
          rintro e w3 ⟨rfl, rfl⟩
          go_wp2_with fail
          refine (hfld _).mono ?_
          rintro e w3 ⟨rfl, rfl⟩
          go_wp2_with fail
          have hzc2 := fsm_below_cell ((Below.refl wr.heap.size wr).alloc (Nat.le_refl _) (.cells #[.int .i64 x, .string ⟨#[]⟩] 70)) hzc
          refine wp_stillTail 5 (by kernel_rfl) (by kernel_rfl) ?_
          simp only [List.take_succ_cons, List.take_zero, List.drop_succ_cons, List.drop_zero]
          repeat still_step
          still_call ((hsiz _).mono fun e w' h => ⟨h.1, h.2.symm⟩)
          repeat still_step
          refine wpStill_nil ?_
          go_wp2_with fail
          refine (hnum _).mono ?_
          rintro e w4 ⟨rfl, hb4⟩
          have hh4 : w4.heap[wr.heap.size]? = some (.cells #[.int .i64 x, .string ⟨#[]⟩] 70 (0, 0)) := below_of hb4 (heap_alloc_last _ _)
          have q0 : w4.cell? ⟨wr.heap.size, 0, none⟩ = some (.int .i64 x) := by simp [World.cell?, hh4]
          have q1 : w4.cell? ⟨wr.heap.size, 1, none⟩ = some (.string ⟨#[]⟩) := by simp [World.cell?, hh4]
          have q2 : w4.frozen? ⟨wr.heap.size, 1, none⟩ = false := by simp [World.frozen?, hh4]
          have hbw : Below wr.heap.size wr w4 := seqB (drewB (allocB (Below.refl _ _) _)) hb4
          have hown4 := (hown.below hbw).only (only_set w4 wr.heap.size 1 (.string N)) (fun k hk e => by have := hown.lt k hk; omega)
          have hbl4 := (seqB hbl hbw).setCell (p := ⟨wr.heap.size, 1, none⟩) hbl.size (.string N)
          clear hb4 hh4 hbw hown hbl hSr hzc hzc2 hnum hsiz hfld hask hdr
          go_wp2_with (at_builtin; refine wpList_appO rfl _ _ rfl w2 _ _ x N 1 hown4 rfl _ rfl (by simp) (by omega) hbl4 ?_; intro v' w5 hown5 hbl5 _ _)
          go_roundw
          case rel => exact ⟨k + 1, by omega, by go_num, by rw [HSU.out, HO.out]; exact hown5, hbl5⟩
          case measure => simp [intOf]; omega
    · obtain rfl : k = 6 := by omega
      have hown6 := hown.base (b' := w.heap.size) hB2.size
      have hBw := seqB hB2 hbl
      have HA : Hid (askM l = askTo l 6) := Lib.hid rfl
      clear hown
      go_wp2_with fail
      go_ret2
      exact ⟨_, rfl, by rw [HA.out]; exact hown6, hBw⟩
end Go.Proofs.YtagnbdenecphcaaGreatDoor
/-! policy: better. policy: learn, Learn, Taken. policy: Learn. -/
/-! policy: better. -/
namespace Go.Proofs.YtagnbdenecphcaaGreatDoor
open Go.RowKit
set_option linter.unusedVariables false
set_option linter.unusedSimpArgs false
theorem heap_last2 (w : World) (a o : Obj) : ((w.alloc a).alloc o).drew.heap[w.heap.size + 1]? = some o := by
  show ((w.alloc a).alloc o).heap[w.heap.size + 1]? = _
  simpa using heap_alloc_last (w.alloc a) o
/-- what better answers: its option is told where there is one -/
def BetterPost (l : LinkM) (o : OptM) (w : World) (e : Ending) (w' : World) : Prop :=
  ∃ (k : Int) (d : ByteArray), e = .returned (.tuple #[.agg #[.int .i64 k, .string d], .bool (betterM l o).isSome]) ∧ (∀ b, betterM l o = some b → b = (k, d)) ∧ Below w.heap.size w w'
theorem opt_after {w : World} {B : Nat} {x y : Value} {T : TypeId} (hh : w.heap[B]? = some (.cells #[x, y] T (0, 0))) (u v : Value) :
    ((w.setCell ⟨B, 0, none⟩ u).setCell ⟨B, 1, none⟩ v).cell? ⟨B, 0, none⟩ = some u ∧ ((w.setCell ⟨B, 0, none⟩ u).setCell ⟨B, 1, none⟩ v).cell? ⟨B, 1, none⟩ = some v := by
  constructor <;> simp [World.cell?, World.setCell, Array.getElem?_modify, hh]
theorem max_magic (m : Int) (h0 : 0 ≤ m) (h1 : m ≤ 4294967295) : 0 ≤ max 1 (bits .xor .i64 m 4294967295) ∧ max 1 (bits .xor .i64 m 4294967295) ≤ 4294967295 := by
  obtain ⟨n, rfl⟩ : ∃ n : Nat, m = n := ⟨m.toNat, by omega⟩
  have e : bits .xor .i64 (n : Int) 4294967295 = ((n ^^^ 4294967295 : Nat) : Int) := i64_xor_nat n 4294967295 (by omega) (by decide)
  have hx : n ^^^ 4294967295 < 2 ^ 32 := Nat.xor_lt_two_pow (by omega) (by decide)
  rw [e]
  omega
set_option maxRecDepth 100000 in
set_option maxHeartbeats 4000000 in
theorem better_mru1 (p : Nat) (l : LinkM) (d : ByteArray) (w : World) (hz : d.size ≤ 9223372036854775807) :
    Calls Tryz.prog 76 #[.pointer (some ⟨p, 0, none⟩), .agg #[.int .i64 1, .string d]] w (BetterPost l (1, d) w) := by
  have hval := fun w => value_any d w hz
  obtain ⟨v, hv⟩ : ∃ v, valueM d.data.toList = v := ⟨_, rfl⟩
  rw [hv] at hval
  have HB : Hid (betterM l (1, d) = if unitM v then none else some (1, bytesOf (numB 1500 2))) := Lib.hid (by unfold betterM; rw [if_pos (by simp), hv])
  have hu := fun w => punit_any v w
  have hn := fun w => number_any 1500 2 w (by decide) (by decide) (.inl rfl)
  obtain ⟨N, hN⟩ : ∃ N, bytesOf (numB 1500 2) = N := ⟨_, rfl⟩
  rw [hN] at hn HB
  have e0 : (w.alloc (.cells #[.int .i64 1, .string d] 70)).cell? ⟨w.heap.size, 0, none⟩ = some (.int .i64 1) := by rw [World.cell?_alloc_new]; rfl
  have e2 := fsm_below_cell ((Below.refl _ _).alloc (Nat.le_refl _) (.cells #[.int .i64 0, .string ⟨#[]⟩] 70)) e0
  clear hv hN e0
  go_enter Tryz.func76, Tryz.ntmps76
  go_wp2_with fail
  refine (hval _).mono ?_
  rintro e w' ⟨rfl, rfl⟩
  go_wp2_with fail
  refine wp_schedL (fun w' => w'.cell? ⟨w.heap.size, 0, none⟩ = some (.int .i64 1)) [(0, true), (1, true), (4, true), (2, false), (3, true), (5, false), (6, true), (7, false), (8, true)] (by kernel_rfl) (by kernel_rfl) rfl (by kernel_rfl) (by kernel_rfl) e2 (fun _ d _ _ _ h => by cases d <;> exact h) ?_
  simp only [schedOps, List.filterMap_cons, List.filterMap_nil, List.getElem?_toArray, List.getElem?_cons_zero, List.getElem?_cons_succ, Option.map_some]
  repeat (first | (refine' wpSched_take _ (by rfl) (fun wS hS => ?_) ?_; rotate_left; (focus (obtain s1 := hS; go_simp; first | done | rfl)); (try simp only [Act.put, List.setIfInBounds_toArray, List.set_cons_zero, List.set_cons_succ])) | (refine wpSched_skip (by rfl) ?_; try simp only [Act.put, List.setIfInBounds_toArray, List.set_cons_zero, List.set_cons_succ]))
  refine wpSched_run (fun K hK => ?_)
  go_wp2_with (go_at_call 85; refine (hn _).mono ?_; rintro e w5 ⟨rfl, hb5⟩)
  refine QRun_normal (hK.out _ _ (fsm_below_cell hb5 e2) ?_)
  clear hK K
  repeat (first | (refine' wpSched_take _ (by rfl) (fun wS hS => ?_) ?_; rotate_left; (focus (obtain s1 := hS; go_simp; first | done | rfl)); (try simp only [Act.put, List.setIfInBounds_toArray, List.set_cons_zero, List.set_cons_succ])) | (refine wpSched_skip (by rfl) ?_; try simp only [Act.put, List.setIfInBounds_toArray, List.set_cons_zero, List.set_cons_succ]))
  refine wpSched_run (fun K hK => ?_)
  go_wp2_with (go_at_call 36; refine (hu _).mono ?_; rintro e w' ⟨rfl, rfl⟩)
  refine QRun_normal (hK.out _ _ (fsm_below_cell hb5 e2) ?_)
  clear hK K
  repeat (first | (refine' wpSched_take _ (by rfl) (fun wS hS => ?_) ?_; rotate_left; (focus (obtain s1 := hS; go_simp; first | done | rfl)); (try simp only [Act.put, List.setIfInBounds_toArray, List.set_cons_zero, List.set_cons_succ])) | (refine wpSched_skip (by rfl) ?_; try simp only [Act.put, List.setIfInBounds_toArray, List.set_cons_zero, List.set_cons_succ]))
  have hh5 := below_of hb5 (heap_last2 _ _ _)
  obtain ⟨hc5, hf5⟩ := bcell hb5
  obtain ⟨k0, k1⟩ := opt_after hh5 (.int .i64 1) (.string N)
  refine wpSched_run (fun K hK => ?_)
  go_wp2_with fail
  refine QRun_normal (hK.out _ _ ((cell_far _ _ _ _ (by simp)).trans ((cell_far _ _ _ _ (by simp)).trans (fsm_below_cell hb5 e2))) ?_)
  clear hK K
  repeat (first | (refine' wpSched_take _ (by rfl) (fun wS hS => ?_) ?_; rotate_left; (focus (obtain s1 := hS; go_simp; first | done | rfl)); (try simp only [Act.put, List.setIfInBounds_toArray, List.set_cons_zero, List.set_cons_succ])) | (refine wpSched_skip (by rfl) ?_; try simp only [Act.put, List.setIfInBounds_toArray, List.set_cons_zero, List.set_cons_succ]))
  refine wpSched_done ?_
  go_wp2_with fail
  refine bodyPost_ret (v := .tuple #[.agg #[.int .i64 1, .string N], .bool (!unitM v)]) (by simp [results, Tryz.results76, go_sem, k0, k1]) rfl ⟨1, N, ?_, ?_, ?_⟩
  · rw [HB.out]; cases unitM v <;> rfl
  · rw [HB.out]; cases unitM v <;> simp
  · exact (((seqB (drewB (allocB (allocB (Below.refl _ _) _) _)) hb5).setCell (p := ⟨w.heap.size + 1, 0, none⟩) (Nat.le_succ _) _).setCell (p := ⟨w.heap.size + 1, 1, none⟩) (Nat.le_succ _) _)
set_option maxRecDepth 100000 in
set_option maxHeartbeats 4000000 in
theorem better_mru17 (p : Nat) (l : LinkM) (d : ByteArray) (w : World) (hz : d.size ≤ 9223372036854775807) :
    Calls Tryz.prog 76 #[.pointer (some ⟨p, 0, none⟩), .agg #[.int .i64 17, .string d]] w (BetterPost l (17, d) w) := by
  have hval := fun w => value_any d w hz
  obtain ⟨v, hv⟩ : ∃ v, valueM d.data.toList = v := ⟨_, rfl⟩
  rw [hv] at hval
  have HB : Hid (betterM l (17, d) = if unitM v then none else some (17, bytesOf (numB 1500 2))) := Lib.hid (by unfold betterM; rw [if_pos (by simp), hv])
  have hu := fun w => punit_any v w
  have hn := fun w => number_any 1500 2 w (by decide) (by decide) (.inl rfl)
  obtain ⟨N, hN⟩ : ∃ N, bytesOf (numB 1500 2) = N := ⟨_, rfl⟩
  rw [hN] at hn HB
  have e0 : (w.alloc (.cells #[.int .i64 17, .string d] 70)).cell? ⟨w.heap.size, 0, none⟩ = some (.int .i64 17) := by rw [World.cell?_alloc_new]; rfl
  have e2 := fsm_below_cell ((Below.refl _ _).alloc (Nat.le_refl _) (.cells #[.int .i64 0, .string ⟨#[]⟩] 70)) e0
  clear hv hN e0
  go_enter Tryz.func76, Tryz.ntmps76
  go_wp2_with fail
  refine (hval _).mono ?_
  rintro e w' ⟨rfl, rfl⟩
  go_wp2_with fail
  refine wp_schedL (fun w' => w'.cell? ⟨w.heap.size, 0, none⟩ = some (.int .i64 17)) [(0, true), (1, true), (4, true), (2, false), (3, true), (5, false), (6, true), (7, false), (8, true)] (by kernel_rfl) (by kernel_rfl) rfl (by kernel_rfl) (by kernel_rfl) e2 (fun _ d _ _ _ h => by cases d <;> exact h) ?_
  simp only [schedOps, List.filterMap_cons, List.filterMap_nil, List.getElem?_toArray, List.getElem?_cons_zero, List.getElem?_cons_succ, Option.map_some]
  repeat (first | (refine' wpSched_take _ (by rfl) (fun wS hS => ?_) ?_; rotate_left; (focus (obtain s1 := hS; go_simp; first | done | rfl)); (try simp only [Act.put, List.setIfInBounds_toArray, List.set_cons_zero, List.set_cons_succ])) | (refine wpSched_skip (by rfl) ?_; try simp only [Act.put, List.setIfInBounds_toArray, List.set_cons_zero, List.set_cons_succ]))
  refine wpSched_run (fun K hK => ?_)
  go_wp2_with (go_at_call 85; refine (hn _).mono ?_; rintro e w5 ⟨rfl, hb5⟩)
  refine QRun_normal (hK.out _ _ (fsm_below_cell hb5 e2) ?_)
  clear hK K
  repeat (first | (refine' wpSched_take _ (by rfl) (fun wS hS => ?_) ?_; rotate_left; (focus (obtain s1 := hS; go_simp; first | done | rfl)); (try simp only [Act.put, List.setIfInBounds_toArray, List.set_cons_zero, List.set_cons_succ])) | (refine wpSched_skip (by rfl) ?_; try simp only [Act.put, List.setIfInBounds_toArray, List.set_cons_zero, List.set_cons_succ]))
  refine wpSched_run (fun K hK => ?_)
  go_wp2_with (go_at_call 36; refine (hu _).mono ?_; rintro e w' ⟨rfl, rfl⟩)
  refine QRun_normal (hK.out _ _ (fsm_below_cell hb5 e2) ?_)
  clear hK K
  repeat (first | (refine' wpSched_take _ (by rfl) (fun wS hS => ?_) ?_; rotate_left; (focus (obtain s1 := hS; go_simp; first | done | rfl)); (try simp only [Act.put, List.setIfInBounds_toArray, List.set_cons_zero, List.set_cons_succ])) | (refine wpSched_skip (by rfl) ?_; try simp only [Act.put, List.setIfInBounds_toArray, List.set_cons_zero, List.set_cons_succ]))
  have hh5 := below_of hb5 (heap_last2 _ _ _)
  obtain ⟨hc5, hf5⟩ := bcell hb5
  obtain ⟨k0, k1⟩ := opt_after hh5 (.int .i64 17) (.string N)
  refine wpSched_run (fun K hK => ?_)
  go_wp2_with fail
  refine QRun_normal (hK.out _ _ ((cell_far _ _ _ _ (by simp)).trans ((cell_far _ _ _ _ (by simp)).trans (fsm_below_cell hb5 e2))) ?_)
  clear hK K
  repeat (first | (refine' wpSched_take _ (by rfl) (fun wS hS => ?_) ?_; rotate_left; (focus (obtain s1 := hS; go_simp; first | done | rfl)); (try simp only [Act.put, List.setIfInBounds_toArray, List.set_cons_zero, List.set_cons_succ])) | (refine wpSched_skip (by rfl) ?_; try simp only [Act.put, List.setIfInBounds_toArray, List.set_cons_zero, List.set_cons_succ]))
  refine wpSched_done ?_
  go_wp2_with fail
  refine bodyPost_ret (v := .tuple #[.agg #[.int .i64 17, .string N], .bool (!unitM v)]) (by simp [results, Tryz.results76, go_sem, k0, k1]) rfl ⟨17, N, ?_, ?_, ?_⟩
  · rw [HB.out]; cases unitM v <;> rfl
  · rw [HB.out]; cases unitM v <;> simp
  · exact (((seqB (drewB (allocB (allocB (Below.refl _ _) _) _)) hb5).setCell (p := ⟨w.heap.size + 1, 0, none⟩) (Nat.le_succ _) _).setCell (p := ⟨w.heap.size + 1, 1, none⟩) (Nat.le_succ _) _)
set_option maxRecDepth 100000 in
set_option maxHeartbeats 4000000 in
theorem better_magic0 (p : Nat) (l : LinkM) (d : ByteArray) (w : World) (h : SideAt w p l) (h0 : 0 ≤ l.magic) (h1 : l.magic ≤ 4294967295) (hz : d.size ≤ 9223372036854775807) (hyp : valueM d.data.toList = 0) :
    Calls Tryz.prog 76 #[.pointer (some ⟨p, 0, none⟩), .agg #[.int .i64 5, .string d]] w (BetterPost l (5, d) w) := by
  have hpl := h.lt
  have hc1 := h.cells.2.1
  have hval := fun w => value_any d w hz
  obtain ⟨v, hv⟩ : ∃ v, valueM d.data.toList = v := ⟨_, rfl⟩
  rw [hv] at hval hyp
  have HB : Hid (betterM l (5, d) = if v = 0 ∨ v = l.magic then some (5, bytesOf (numB (max 1 (bits .xor .i64 l.magic 4294967295)) 4)) else none) := Lib.hid (by unfold betterM; rw [if_neg (by simp), if_pos rfl, hv])
  have hM := max_magic l.magic h0 h1
  have hn := fun w => number_any (max 1 (bits .xor .i64 l.magic 4294967295)) 4 w hM.1 hM.2 (.inr rfl)
  obtain ⟨N, hN⟩ : ∃ N, bytesOf (numB (max 1 (bits .xor .i64 l.magic 4294967295)) 4) = N := ⟨_, rfl⟩
  rw [hN] at hn HB
  obtain ⟨m, hm⟩ : ∃ m, l.magic = m := ⟨_, rfl⟩
  rw [hm] at hc1 hn HB
  try rw [hm] at hyp
  have e0 : (w.alloc (.cells #[.int .i64 5, .string d] 70)).cell? ⟨w.heap.size, 0, none⟩ = some (.int .i64 5) := by rw [World.cell?_alloc_new]; rfl
  have e1 := fsm_below_cell ((Below.refl w.heap.size w).alloc (Nat.le_refl _) (.cells #[.int .i64 5, .string d] 70)) hc1
  have e2 := fsm_below_cell ((Below.refl _ _).alloc (Nat.le_refl _) (.cells #[.int .i64 0, .string ⟨#[]⟩] 70)) e0
  have e3 := fsm_below_cell ((Below.refl _ _).alloc (Nat.le_refl _) (.cells #[.int .i64 0, .string ⟨#[]⟩] 70)) e1
  clear hv hN e0 e1 hM hm h0 h1 h hc1
  subst hyp
  go_enter Tryz.func76, Tryz.ntmps76
  go_wp2_with fail
  refine (hval _).mono ?_
  rintro e w' ⟨rfl, rfl⟩
  go_wp2_with fail
  refine wp_schedL (fun w' => w'.cell? ⟨w.heap.size, 0, none⟩ = some (.int .i64 5) ∧ w'.cell? ⟨p, 1, none⟩ = some (.int .i64 m)) [(0, true), (1, true), (2, true), (3, true), (4, true), (5, true), (6, true), (7, true), (8, true), (11, true), (12, true), (9, false), (10, true), (13, true), (14, true), (15, true), (16, true), (17, true), (18, true), (19, true), (20, true), (21, true), (22, false), (23, true)] (by kernel_rfl) (by kernel_rfl) rfl (by kernel_rfl) (by kernel_rfl) ⟨e2, e3⟩ (fun _ d _ _ _ h => by cases d <;> exact h) ?_
  simp only [schedOps, List.filterMap_cons, List.filterMap_nil, List.getElem?_toArray, List.getElem?_cons_zero, List.getElem?_cons_succ, Option.map_some]
  repeat (first | (refine' wpSched_take _ (by rfl) (fun wS hS => ?_) ?_; rotate_left; (focus (obtain ⟨s1, s2⟩ := hS; go_simp; first | done | rfl)); (try simp only [Act.put, List.setIfInBounds_toArray, List.set_cons_zero, List.set_cons_succ])) | (refine wpSched_skip (by rfl) ?_; try simp only [Act.put, List.setIfInBounds_toArray, List.set_cons_zero, List.set_cons_succ]))
  refine wpSched_run (fun K hK => ?_)
  go_wp2_with (go_at_call 85; refine (hn _).mono ?_; rintro e w5 ⟨rfl, hb5⟩)
  have g0 := fsm_below_cell hb5 e2
  have g1 := fsm_below_cell hb5 e3
  refine QRun_normal (hK.out _ _ ⟨g0, g1⟩ ?_)
  clear hK K
  repeat (first | (refine' wpSched_take _ (by rfl) (fun wS hS => ?_) ?_; rotate_left; (focus (obtain ⟨s1, s2⟩ := hS; go_simp; first | done | rfl)); (try simp only [Act.put, List.setIfInBounds_toArray, List.set_cons_zero, List.set_cons_succ])) | (refine wpSched_skip (by rfl) ?_; try simp only [Act.put, List.setIfInBounds_toArray, List.set_cons_zero, List.set_cons_succ]))
  have hh5 := below_of hb5 (heap_last2 _ _ _)
  obtain ⟨hc5, hf5⟩ := bcell hb5
  obtain ⟨k0, k1⟩ := opt_after hh5 (.int .i64 5) (.string N)
  refine wpSched_run (fun K hK => ?_)
  go_wp2_with fail
  refine QRun_normal (hK.out _ _ ⟨(cell_far _ _ _ _ (by simp)).trans ((cell_far _ _ _ _ (by simp)).trans g0), (cell_far _ _ _ _ (by simp; omega)).trans ((cell_far _ _ _ _ (by simp; omega)).trans g1)⟩ ?_)
  clear hK K
  repeat (first | (refine' wpSched_take _ (by rfl) (fun wS hS => ?_) ?_; rotate_left; (focus (obtain ⟨s1, s2⟩ := hS; go_simp; first | done | rfl)); (try simp only [Act.put, List.setIfInBounds_toArray, List.set_cons_zero, List.set_cons_succ])) | (refine wpSched_skip (by rfl) ?_; try simp only [Act.put, List.setIfInBounds_toArray, List.set_cons_zero, List.set_cons_succ]))
  refine wpSched_done ?_
  go_wp2_with fail
  refine bodyPost_ret (v := .tuple #[.agg #[.int .i64 5, .string N], .bool true]) (by simp [results, Tryz.results76, go_sem, k0, k1]) rfl ⟨5, N, ?_, ?_, ?_⟩
  · rw [HB.out, if_pos (by simp)]; rfl
  · rw [HB.out, if_pos (by simp)]; simp
  · exact (((seqB (drewB (allocB (allocB (Below.refl _ _) _) _)) hb5).setCell (p := ⟨w.heap.size + 1, 0, none⟩) (Nat.le_succ _) _).setCell (p := ⟨w.heap.size + 1, 1, none⟩) (Nat.le_succ _) _)
set_option maxRecDepth 100000 in
set_option maxHeartbeats 4000000 in
theorem better_magic1 (p : Nat) (l : LinkM) (d : ByteArray) (w : World) (h : SideAt w p l) (h0 : 0 ≤ l.magic) (h1 : l.magic ≤ 4294967295) (hz : d.size ≤ 9223372036854775807) (hyp : valueM d.data.toList ≠ 0 ∧ valueM d.data.toList = l.magic) :
    Calls Tryz.prog 76 #[.pointer (some ⟨p, 0, none⟩), .agg #[.int .i64 5, .string d]] w (BetterPost l (5, d) w) := by
  have hpl := h.lt
  have hc1 := h.cells.2.1
  have hval := fun w => value_any d w hz
  obtain ⟨v, hv⟩ : ∃ v, valueM d.data.toList = v := ⟨_, rfl⟩
  rw [hv] at hval hyp
  have HB : Hid (betterM l (5, d) = if v = 0 ∨ v = l.magic then some (5, bytesOf (numB (max 1 (bits .xor .i64 l.magic 4294967295)) 4)) else none) := Lib.hid (by unfold betterM; rw [if_neg (by simp), if_pos rfl, hv])
  have hM := max_magic l.magic h0 h1
  have hn := fun w => number_any (max 1 (bits .xor .i64 l.magic 4294967295)) 4 w hM.1 hM.2 (.inr rfl)
  obtain ⟨N, hN⟩ : ∃ N, bytesOf (numB (max 1 (bits .xor .i64 l.magic 4294967295)) 4) = N := ⟨_, rfl⟩
  rw [hN] at hn HB
  obtain ⟨m, hm⟩ : ∃ m, l.magic = m := ⟨_, rfl⟩
  rw [hm] at hc1 hn HB
  try rw [hm] at hyp
  have e0 : (w.alloc (.cells #[.int .i64 5, .string d] 70)).cell? ⟨w.heap.size, 0, none⟩ = some (.int .i64 5) := by rw [World.cell?_alloc_new]; rfl
  have e1 := fsm_below_cell ((Below.refl w.heap.size w).alloc (Nat.le_refl _) (.cells #[.int .i64 5, .string d] 70)) hc1
  have e2 := fsm_below_cell ((Below.refl _ _).alloc (Nat.le_refl _) (.cells #[.int .i64 0, .string ⟨#[]⟩] 70)) e0
  have e3 := fsm_below_cell ((Below.refl _ _).alloc (Nat.le_refl _) (.cells #[.int .i64 0, .string ⟨#[]⟩] 70)) e1
  clear hv hN e0 e1 hM hm h0 h1 h hc1
  obtain ⟨hv0, rfl⟩ := hyp
  have q0 : (v == 0) = false := beq_eq_false_iff_ne.2 hv0
  clear hv0
  go_enter Tryz.func76, Tryz.ntmps76
  go_wp2_with fail
  refine (hval _).mono ?_
  rintro e w' ⟨rfl, rfl⟩
  go_wp2_with fail
  refine wp_schedL (fun w' => w'.cell? ⟨w.heap.size, 0, none⟩ = some (.int .i64 5) ∧ w'.cell? ⟨p, 1, none⟩ = some (.int .i64 v)) [(0, true), (1, true), (2, true), (3, true), (4, true), (5, true), (6, true), (7, true), (8, true), (11, true), (12, true), (9, false), (10, true), (13, true), (14, true), (15, true), (16, true), (17, true), (18, true), (19, true), (20, true), (21, true), (22, false), (23, true)] (by kernel_rfl) (by kernel_rfl) rfl (by kernel_rfl) (by kernel_rfl) ⟨e2, e3⟩ (fun _ d _ _ _ h => by cases d <;> exact h) ?_
  simp only [schedOps, List.filterMap_cons, List.filterMap_nil, List.getElem?_toArray, List.getElem?_cons_zero, List.getElem?_cons_succ, Option.map_some]
  repeat (first | (refine' wpSched_take _ (by rfl) (fun wS hS => ?_) ?_; rotate_left; (focus (obtain ⟨s1, s2⟩ := hS; go_simp; first | done | rfl)); (try simp only [Act.put, List.setIfInBounds_toArray, List.set_cons_zero, List.set_cons_succ])) | (refine wpSched_skip (by rfl) ?_; try simp only [Act.put, List.setIfInBounds_toArray, List.set_cons_zero, List.set_cons_succ]))
  refine wpSched_run (fun K hK => ?_)
  go_wp2_with (go_at_call 85; refine (hn _).mono ?_; rintro e w5 ⟨rfl, hb5⟩)
  have g0 := fsm_below_cell hb5 e2
  have g1 := fsm_below_cell hb5 e3
  refine QRun_normal (hK.out _ _ ⟨g0, g1⟩ ?_)
  clear hK K
  repeat (first | (refine' wpSched_take _ (by rfl) (fun wS hS => ?_) ?_; rotate_left; (focus (obtain ⟨s1, s2⟩ := hS; go_simp; first | done | rfl)); (try simp only [Act.put, List.setIfInBounds_toArray, List.set_cons_zero, List.set_cons_succ])) | (refine wpSched_skip (by rfl) ?_; try simp only [Act.put, List.setIfInBounds_toArray, List.set_cons_zero, List.set_cons_succ]))
  have hh5 := below_of hb5 (heap_last2 _ _ _)
  obtain ⟨hc5, hf5⟩ := bcell hb5
  obtain ⟨k0, k1⟩ := opt_after hh5 (.int .i64 5) (.string N)
  refine wpSched_run (fun K hK => ?_)
  go_wp2_with fail
  refine QRun_normal (hK.out _ _ ⟨(cell_far _ _ _ _ (by simp)).trans ((cell_far _ _ _ _ (by simp)).trans g0), (cell_far _ _ _ _ (by simp; omega)).trans ((cell_far _ _ _ _ (by simp; omega)).trans g1)⟩ ?_)
  clear hK K
  repeat (first | (refine' wpSched_take _ (by rfl) (fun wS hS => ?_) ?_; rotate_left; (focus (obtain ⟨s1, s2⟩ := hS; go_simp; first | done | rfl)); (try simp only [Act.put, List.setIfInBounds_toArray, List.set_cons_zero, List.set_cons_succ])) | (refine wpSched_skip (by rfl) ?_; try simp only [Act.put, List.setIfInBounds_toArray, List.set_cons_zero, List.set_cons_succ]))
  refine wpSched_done ?_
  go_wp2_with fail
  refine bodyPost_ret (v := .tuple #[.agg #[.int .i64 5, .string N], .bool true]) (by simp [results, Tryz.results76, go_sem, k0, k1]) rfl ⟨5, N, ?_, ?_, ?_⟩
  · rw [HB.out, if_pos (by simp)]; rfl
  · rw [HB.out, if_pos (by simp)]; simp
  · exact (((seqB (drewB (allocB (allocB (Below.refl _ _) _) _)) hb5).setCell (p := ⟨w.heap.size + 1, 0, none⟩) (Nat.le_succ _) _).setCell (p := ⟨w.heap.size + 1, 1, none⟩) (Nat.le_succ _) _)
set_option maxRecDepth 100000 in
set_option maxHeartbeats 4000000 in
theorem better_magic2 (p : Nat) (l : LinkM) (d : ByteArray) (w : World) (h : SideAt w p l) (h0 : 0 ≤ l.magic) (h1 : l.magic ≤ 4294967295) (hz : d.size ≤ 9223372036854775807) (hyp : valueM d.data.toList ≠ 0 ∧ valueM d.data.toList ≠ l.magic) :
    Calls Tryz.prog 76 #[.pointer (some ⟨p, 0, none⟩), .agg #[.int .i64 5, .string d]] w (BetterPost l (5, d) w) := by
  have hpl := h.lt
  have hc1 := h.cells.2.1
  have hval := fun w => value_any d w hz
  obtain ⟨v, hv⟩ : ∃ v, valueM d.data.toList = v := ⟨_, rfl⟩
  rw [hv] at hval hyp
  have HB : Hid (betterM l (5, d) = if v = 0 ∨ v = l.magic then some (5, bytesOf (numB (max 1 (bits .xor .i64 l.magic 4294967295)) 4)) else none) := Lib.hid (by unfold betterM; rw [if_neg (by simp), if_pos rfl, hv])
  have hM := max_magic l.magic h0 h1
  have hn := fun w => number_any (max 1 (bits .xor .i64 l.magic 4294967295)) 4 w hM.1 hM.2 (.inr rfl)
  obtain ⟨N, hN⟩ : ∃ N, bytesOf (numB (max 1 (bits .xor .i64 l.magic 4294967295)) 4) = N := ⟨_, rfl⟩
  rw [hN] at hn HB
  obtain ⟨m, hm⟩ : ∃ m, l.magic = m := ⟨_, rfl⟩
  rw [hm] at hc1 hn HB
  try rw [hm] at hyp
  have e0 : (w.alloc (.cells #[.int .i64 5, .string d] 70)).cell? ⟨w.heap.size, 0, none⟩ = some (.int .i64 5) := by rw [World.cell?_alloc_new]; rfl
  have e1 := fsm_below_cell ((Below.refl w.heap.size w).alloc (Nat.le_refl _) (.cells #[.int .i64 5, .string d] 70)) hc1
  have e2 := fsm_below_cell ((Below.refl _ _).alloc (Nat.le_refl _) (.cells #[.int .i64 0, .string ⟨#[]⟩] 70)) e0
  have e3 := fsm_below_cell ((Below.refl _ _).alloc (Nat.le_refl _) (.cells #[.int .i64 0, .string ⟨#[]⟩] 70)) e1
  clear hv hN e0 e1 hM hm h0 h1 h hc1
  obtain ⟨hv0, hvm⟩ := hyp
  have q0 : (v == 0) = false := beq_eq_false_iff_ne.2 hv0
  have q1 : (v == m) = false := beq_eq_false_iff_ne.2 hvm
  have HN : Hid (¬ (v = 0 ∨ v = m)) := Lib.hid (fun h => h.elim hv0 hvm)
  clear hv0 hvm
  go_enter Tryz.func76, Tryz.ntmps76
  go_wp2_with fail
  refine (hval _).mono ?_
  rintro e w' ⟨rfl, rfl⟩
  go_wp2_with fail
  refine wp_schedL (fun w' => w'.cell? ⟨w.heap.size, 0, none⟩ = some (.int .i64 5) ∧ w'.cell? ⟨p, 1, none⟩ = some (.int .i64 m)) [(0, true), (1, true), (2, true), (3, true), (4, true), (5, true), (6, true), (7, true), (8, true), (11, true), (12, true), (9, false), (10, true), (13, true), (14, true), (15, true), (16, true), (17, true), (18, true), (19, true), (20, true), (21, true), (22, false), (23, true)] (by kernel_rfl) (by kernel_rfl) rfl (by kernel_rfl) (by kernel_rfl) ⟨e2, e3⟩ (fun _ d _ _ _ h => by cases d <;> exact h) ?_
  simp only [schedOps, List.filterMap_cons, List.filterMap_nil, List.getElem?_toArray, List.getElem?_cons_zero, List.getElem?_cons_succ, Option.map_some]
  repeat (first | (refine' wpSched_take _ (by rfl) (fun wS hS => ?_) ?_; rotate_left; (focus (obtain ⟨s1, s2⟩ := hS; go_simp; first | done | rfl)); (try simp only [Act.put, List.setIfInBounds_toArray, List.set_cons_zero, List.set_cons_succ])) | (refine wpSched_skip (by rfl) ?_; try simp only [Act.put, List.setIfInBounds_toArray, List.set_cons_zero, List.set_cons_succ]))
  refine wpSched_run (fun K hK => ?_)
  go_wp2_with (go_at_call 85; refine (hn _).mono ?_; rintro e w5 ⟨rfl, hb5⟩)
  have g0 := fsm_below_cell hb5 e2
  have g1 := fsm_below_cell hb5 e3
  refine QRun_normal (hK.out _ _ ⟨g0, g1⟩ ?_)
  clear hK K
  repeat (first | (refine' wpSched_take _ (by rfl) (fun wS hS => ?_) ?_; rotate_left; (focus (obtain ⟨s1, s2⟩ := hS; go_simp; first | done | rfl)); (try simp only [Act.put, List.setIfInBounds_toArray, List.set_cons_zero, List.set_cons_succ])) | (refine wpSched_skip (by rfl) ?_; try simp only [Act.put, List.setIfInBounds_toArray, List.set_cons_zero, List.set_cons_succ]))
  have hh5 := below_of hb5 (heap_last2 _ _ _)
  obtain ⟨hc5, hf5⟩ := bcell hb5
  obtain ⟨k0, k1⟩ := opt_after hh5 (.int .i64 5) (.string N)
  refine wpSched_run (fun K hK => ?_)
  go_wp2_with fail
  refine QRun_normal (hK.out _ _ ⟨(cell_far _ _ _ _ (by simp)).trans ((cell_far _ _ _ _ (by simp)).trans g0), (cell_far _ _ _ _ (by simp; omega)).trans ((cell_far _ _ _ _ (by simp; omega)).trans g1)⟩ ?_)
  clear hK K
  repeat (first | (refine' wpSched_take _ (by rfl) (fun wS hS => ?_) ?_; rotate_left; (focus (obtain ⟨s1, s2⟩ := hS; go_simp; first | done | rfl)); (try simp only [Act.put, List.setIfInBounds_toArray, List.set_cons_zero, List.set_cons_succ])) | (refine wpSched_skip (by rfl) ?_; try simp only [Act.put, List.setIfInBounds_toArray, List.set_cons_zero, List.set_cons_succ]))
  refine wpSched_done ?_
  go_wp2_with fail
  refine bodyPost_ret (v := .tuple #[.agg #[.int .i64 5, .string N], .bool false]) (by simp [results, Tryz.results76, go_sem, k0, k1]) rfl ⟨5, N, ?_, ?_, ?_⟩
  · rw [HB.out, if_neg HN.out]; rfl
  · rw [HB.out, if_neg HN.out]; simp
  · exact (((seqB (drewB (allocB (allocB (Below.refl _ _) _) _)) hb5).setCell (p := ⟨w.heap.size + 1, 0, none⟩) (Nat.le_succ _) _).setCell (p := ⟨w.heap.size + 1, 1, none⟩) (Nat.le_succ _) _)
set_option maxHeartbeats 1000000 in
theorem better_other (p : Nat) (l : LinkM) (k : Int) (d : ByteArray) (w : World) (hk : k ≠ 1 ∧ k ≠ 17 ∧ k ≠ 5) (hz : d.size ≤ 9223372036854775807) :
    Calls Tryz.prog 76 #[.pointer (some ⟨p, 0, none⟩), .agg #[.int .i64 k, .string d]] w (BetterPost l (k, d) w) := by
  have hval := fun w => value_any d w hz
  have HB : Hid (betterM l (k, d) = none) := Lib.hid (by unfold betterM; rw [if_neg (by omega), if_neg (by omega)])
  have q1 : (k == 1) = false := beq_eq_false_iff_ne.2 hk.1
  have q2 : (k == 17) = false := beq_eq_false_iff_ne.2 hk.2.1
  have q3 : (k == 5) = false := beq_eq_false_iff_ne.2 hk.2.2
  clear hk
  go_enter Tryz.func76, Tryz.ntmps76
  go_wp2_with fail
  refine (hval _).mono ?_
  rintro e w' ⟨rfl, rfl⟩
  go_wp2_with fail
  refine bodyPost_ret (v := .tuple #[.agg #[.int .i64 k, .string d], .bool false]) (by simp [results, Tryz.results76, go_sem]) rfl ⟨k, d, ?_, ?_, ?_⟩
  · rw [HB.out]; rfl
  · rw [HB.out]; intro b hb; cases hb
  · exact allocB (allocB (Below.refl _ _) _) _
theorem better_any (p : Nat) (l : LinkM) (o : OptM) (w : World) (h : SideAt w p l) (h0 : 0 ≤ l.magic) (h1 : l.magic ≤ 4294967295) (hz : o.2.size ≤ 9223372036854775807) :
    Calls Tryz.prog 76 #[.pointer (some ⟨p, 0, none⟩), .agg #[.int .i64 o.1, .string o.2]] w (BetterPost l o w) := by
  obtain ⟨k, d⟩ := o
  by_cases k1 : k = 1
  · subst k1; exact better_mru1 p l d w hz
  · by_cases k17 : k = 17
    · subst k17; exact better_mru17 p l d w hz
    · by_cases k5 : k = 5
      · subst k5
        by_cases v0 : valueM d.data.toList = 0
        · exact better_magic0 p l d w h h0 h1 hz v0
        · by_cases vm : valueM d.data.toList = l.magic
          · exact better_magic1 p l d w h h0 h1 hz ⟨v0, vm⟩
          · exact better_magic2 p l d w h h0 h1 hz ⟨v0, vm⟩
      · exact better_other p l k d w ⟨k1, k17, k5⟩ hz
end Go.Proofs.YtagnbdenecphcaaGreatDoor
/-! policy: learn, Learn, Taken. -/
namespace Go.Proofs.YtagnbdenecphcaaGreatDoor
open Go.RowKit
set_option linter.unusedVariables false
set_option linter.unusedSimpArgs false
theorem right_kind {o : OptM} (h : rightM o = true) : (o.1 = 18 ∨ o.1 = 19 ∨ ∃ i, fieldOff o.1 = some i) ∧ o.2.size ≤ 20 := by
  unfold rightM sizeM at h
  unfold fieldOff
  simp only [Bool.or_eq_true, Bool.and_eq_true, decide_eq_true_eq] at h
  split at h
  · rename_i hk
    refine ⟨.inr (.inr ?_), by omega⟩
    rcases hk with hk | hk | hk <;> rw [hk] <;> simp
  · split at h
    · rename_i hk
      refine ⟨.inr (.inr ?_), by omega⟩
      rw [hk]; simp
    · split at h
      · rename_i hk; exact ⟨.inl hk, by omega⟩
      · split at h
        · rename_i hk; exact ⟨.inr (.inl hk), by omega⟩
        · omega
set_option maxRecDepth 100000 in
set_option maxHeartbeats 2000000 in
theorem learn_any (p : Nat) (l : LinkM) (o : OptM) (w : World) (h : SideAt w p l) (hr : rightM o = true) :
    Calls Tryz.prog 79 #[.pointer (some ⟨p, 0, none⟩), .agg #[.int .i64 o.1, .string o.2]] w fun e w' => e = .returned (.tuple #[]) ∧ SideAt w' p (learnOne l o) ∧ Only (· = p) w w' := by
  obtain ⟨hk, hz⟩ := right_kind hr
  have hset := fun w h => set_any p l o w h hk (by omega)
  obtain ⟨k, d⟩ := o
  simp only at hk hz hset ⊢
  have hval := fun w => value_any d w (by omega)
  obtain ⟨v, hv⟩ : ∃ v, valueM d.data.toList = v := ⟨_, rfl⟩
  have hu := fun w => punit_any v w
  have HL : Hid (learnOne l (k, d) = if ((k = 1 ∨ k = 17) ∧ unitM v = false) ∨ (k = 5 ∧ v = 0) then l else setM l (k, d)) := Lib.hid (by unfold learnOne; rw [hv])
  rw [hv] at hval
  have hb := (Below.refl w.heap.size w).alloc (Nat.le_refl _) (.cells #[.int .i64 k, .string d] 70)
  have hS := h.below hb
  have hO : Only (· = p) w (w.alloc (.cells #[.int .i64 k, .string d] 70)) := (Only.refl _ _).alloc _
  clear hv hb hr hk h
  by_cases hun : ((k = 1 ∨ k = 17) ∧ unitM v = false) ∨ (k = 5 ∧ v = 0)
  · have HL2 : Hid (learnOne l (k, d) = l) := Lib.hid (by rw [HL.out, if_pos hun])
    rcases hun with ⟨rfl | rfl, huv⟩ | ⟨rfl, rfl⟩
    all_goals
      go_enter Tryz.func79, Tryz.ntmps79
      go_wp2_with (first | (go_at_call 91; refine (hval _).mono ?_; rintro e w' ⟨rfl, rfl⟩) | (go_at_call 36; refine (hu _).mono ?_; rintro e w' ⟨rfl, rfl⟩))
      go_end0
      exact ⟨rfl, by rw [HL2.out]; exact hS, hO⟩
  · have HL2 : Hid (learnOne l (k, d) = setM l (k, d)) := Lib.hid (by rw [HL.out, if_neg hun])
    by_cases k1 : k = 1 ∨ k = 17
    · have huv : unitM v = true := by
        cases e : unitM v with
        | true => rfl
        | false => exact absurd (.inl ⟨k1, e⟩) hun
      clear hun HL
      rcases k1 with rfl | rfl
      all_goals
        go_enter Tryz.func79, Tryz.ntmps79
        go_wp2_with (first | (go_at_call 91; refine (hval _).mono ?_; rintro e w' ⟨rfl, rfl⟩) | (go_at_call 36; refine (hu _).mono ?_; rintro e w' ⟨rfl, rfl⟩))
        refine (hset _ hS).mono ?_
        rintro e w3 ⟨rfl, hs3, ho3⟩
        go_wp2_with fail
        go_end0
        exact ⟨rfl, by rw [HL2.out]; exact hs3, hO.trans ho3⟩
    · have q1 : (k == 1) = false := beq_eq_false_iff_ne.2 (fun e => k1 (.inl e))
      have q2 : (k == 17) = false := beq_eq_false_iff_ne.2 (fun e => k1 (.inr e))
      by_cases k5 : k = 5
      · subst k5
        have q3 : (v == 0) = false := beq_eq_false_iff_ne.2 (fun e => hun (.inr ⟨rfl, e⟩))
        clear hun HL k1
        go_enter Tryz.func79, Tryz.ntmps79
        go_wp2_with (first | (go_at_call 91; refine (hval _).mono ?_; rintro e w' ⟨rfl, rfl⟩) | (go_at_call 36; refine (hu _).mono ?_; rintro e w' ⟨rfl, rfl⟩))
        refine (hset _ hS).mono ?_
        rintro e w3 ⟨rfl, hs3, ho3⟩
        go_wp2_with fail
        go_end0
        exact ⟨rfl, by rw [HL2.out]; exact hs3, hO.trans ho3⟩
      · have q3 : (k == 5) = false := beq_eq_false_iff_ne.2 k5
        clear hun HL k1 k5
        go_enter Tryz.func79, Tryz.ntmps79
        go_wp2_with (first | (go_at_call 91; refine (hval _).mono ?_; rintro e w' ⟨rfl, rfl⟩) | (go_at_call 36; refine (hu _).mono ?_; rintro e w' ⟨rfl, rfl⟩))
        refine (hset _ hS).mono ?_
        rintro e w3 ⟨rfl, hs3, ho3⟩
        go_wp2_with fail
        go_end0
        exact ⟨rfl, by rw [HL2.out]; exact hs3, hO.trans ho3⟩
end Go.Proofs.YtagnbdenecphcaaGreatDoor
/-! policy: Learn. -/
namespace Go.Proofs.YtagnbdenecphcaaGreatDoor
open Go.RowKit
set_option linter.unusedVariables false
set_option linter.unusedSimpArgs false
theorem heap_first2 (w : World) (a o : Obj) : ((w.alloc a).alloc o).heap[w.heap.size]? = some a :=
  (Below.heap_alloc (w.alloc a) o _ (by simp)).trans (heap_alloc_last w a)
theorem learnTo_succ (l : LinkM) (code : Int) (os : List OptM) (k : Nat) (hk : k < os.length) : (os.take (k + 1)).foldl (learnStep code) l = learnStep code ((os.take k).foldl (learnStep code) l) os[k] := by
  rw [List.take_succ_eq_append_getElem hk, List.foldl_append]; rfl
theorem link_after_cells {w : World} {B : Nat} {x0 x1 x2 x3 x4 x5 : Value} {T : TypeId} (hh : w.heap[B]? = some (.cells #[x0, x1, x2, x3, x4, x5] T (0, 0))) (y0 y1 y2 y3 y4 y5 : Value) (W : World)
    (hW : W = (((((w.setCell ⟨B, 0, none⟩ y0).setCell ⟨B, 1, none⟩ y1).setCell ⟨B, 2, none⟩ y2).setCell ⟨B, 3, none⟩ y3).setCell ⟨B, 4, none⟩ y4).setCell ⟨B, 5, none⟩ y5) :
    W.cell? ⟨B, 0, none⟩ = some y0 ∧ W.cell? ⟨B, 1, none⟩ = some y1 ∧ W.cell? ⟨B, 2, none⟩ = some y2 ∧ W.cell? ⟨B, 3, none⟩ = some y3 ∧ W.cell? ⟨B, 4, none⟩ = some y4 ∧ W.cell? ⟨B, 5, none⟩ = some y5 := by
  subst hW
  refine ⟨?_, ?_, ?_, ?_, ?_, ?_⟩ <;> simp [World.cell?, World.setCell, Array.getElem?_modify, hh]
theorem below6 {w0 w : World} {B : Nat} (h : Below w0.heap.size w0 w) (hB : w0.heap.size ≤ B) (y0 y1 y2 y3 y4 y5 : Value) :
    Below w0.heap.size w0 ((((((w.setCell ⟨B, 0, none⟩ y0).setCell ⟨B, 1, none⟩ y1).setCell ⟨B, 2, none⟩ y2).setCell ⟨B, 3, none⟩ y3).setCell ⟨B, 4, none⟩ y4).setCell ⟨B, 5, none⟩ y5) :=
  (((((h.setCell (p := ⟨B, 0, none⟩) hB _).setCell (p := ⟨B, 1, none⟩) hB _).setCell (p := ⟨B, 2, none⟩) hB _).setCell (p := ⟨B, 3, none⟩) hB _).setCell (p := ⟨B, 4, none⟩) hB _).setCell (p := ⟨B, 5, none⟩) hB _
theorem linkCells_eq (l : LinkM) : linkCells l = #[.int .i64 l.mru, .int .i64 l.magic, .int .i64 l.mrru, .bool l.short, .string l.disc, .int .i64 l.num] := rfl
/-- six cells stored one behind the other into a block of six -/
theorem link_after {w : World} {B : Nat} {x0 x1 x2 x3 x4 x5 : Value} {T : TypeId} (hh : w.heap[B]? = some (.cells #[x0, x1, x2, x3, x4, x5] T (0, 0))) (y0 y1 y2 y3 y4 y5 : Value) :
    ((((((w.setCell ⟨B, 0, none⟩ y0).setCell ⟨B, 1, none⟩ y1).setCell ⟨B, 2, none⟩ y2).setCell ⟨B, 3, none⟩ y3).setCell ⟨B, 4, none⟩ y4).setCell ⟨B, 5, none⟩ y5).heap[B]? = some (.cells #[y0, y1, y2, y3, y4, y5] T (0, 0)) := by
  simp [World.setCell, Array.getElem?_modify, hh]
set_option maxRecDepth 100000 in
set_option maxHeartbeats 8000000 in
theorem plearn_nil3 (l : LinkM) (w : World) (hm : mayM l = true) :
    Calls Tryz.prog 51 #[.agg (linkCells l), .int .i64 3, .slice none 0 0] w fun e w' => e = .returned (.tuple #[.agg (linkCells (([] : List OptM).foldl (learnStep 3) l)), .int .i64 0]) ∧ Below w.heap.size w w' := by
  have hmay := fun w => pmay_any l w
  rw [hm] at hmay
  clear hm
  have HLh := Lib.hid linkCells_eq
  rw [HLh.out] at hmay ⊢
  go_enter Tryz.func51, Tryz.ntmps51
  go_wp2_with fail
  refine (hmay _).mono ?_
  rintro e w1 ⟨rfl, hb1⟩
  have hh1 : w1.heap[w.heap.size]? = some (.cells (linkCells l) 23 (0, 0)) := below_of hb1 (by rw [HLh.out]; exact heap_first2 _ _ _)
  have hz1 : w1.heap[w.heap.size + 1]? = some (.cells #[.int .i64 0, .int .i64 0, .int .i64 0, .bool false, .string ⟨#[]⟩, .int .i64 0] 23 (0, 0)) := below_of hb1 (by simpa using heap_alloc_last (w.alloc _) _)
  obtain ⟨c0, c1, c2, c3, c4, c5⟩ := link_cells hh1
  have hB1 : Below w.heap.size w w1 := seqB (allocB (allocB (Below.refl _ _) _) _) hb1
  have hlt1 : w.heap.size + 1 < w1.heap.size := (Array.getElem?_eq_some_iff.1 hz1).1
  clear hb1 hmay
  go_wp2_with fail
  have hS : SideAt (w1.alloc (.cells (linkCells l) 131)) w1.heap.size l := heap_alloc_last _ _
  have hzz := below_of (w' := w1.alloc (.cells (linkCells l) 131)) ((Below.refl _ _).alloc (Nat.le_refl _) _) hz1
  have hBW : Below w.heap.size w (w1.alloc (.cells (linkCells l) 131)) := allocB hB1 _
  rw [HLh.out] at hS hzz hBW
  obtain ⟨W2, hW2⟩ : ∃ W2, w1.alloc (.cells #[.int .i64 l.mru, .int .i64 l.magic, .int .i64 l.mrru, .bool l.short, .string l.disc, .int .i64 l.num] 131) = W2 := ⟨_, rfl⟩
  rw [hW2] at hS hzz hBW ⊢
  obtain ⟨p, hp⟩ : ∃ p, w1.heap.size = p := ⟨_, rfl⟩
  rw [hp] at hS hlt1 ⊢
  clear hW2 hh1 hz1 c0 c1 c2 c3 c4 c5 hB1 hp
  go_loopw [28] (fun i wr => i = .int .i64 0 ∧ W2 = wr) (fun i _ => 0)
  case atStart => exact ⟨rfl, rfl⟩
  case round =>
    obtain ⟨rfl, rfl⟩ := hrel
    have hend := hS
    have hz2 := hzz
    have hBf := hBW
    clear hS hzz hBW
    obtain ⟨q, hq⟩ : ∃ q, l = q := ⟨_, rfl⟩
    rw [hq] at hend
    have HQ := Lib.hid hq
    clear hq
    obtain ⟨c0, c1, c2, c3, c4, c5⟩ := hend.cells
    have z0 : W2.cell? ⟨w.heap.size + 1, 0, none⟩ = some (.int .i64 0) := by simp [World.cell?, hz2]
    have z1 : W2.cell? ⟨w.heap.size + 1, 1, none⟩ = some (.int .i64 0) := by simp [World.cell?, hz2]
    have z2 : W2.cell? ⟨w.heap.size + 1, 2, none⟩ = some (.int .i64 0) := by simp [World.cell?, hz2]
    have z3 : W2.cell? ⟨w.heap.size + 1, 3, none⟩ = some (.bool false) := by simp [World.cell?, hz2]
    have z4 : W2.cell? ⟨w.heap.size + 1, 4, none⟩ = some (.string ⟨#[]⟩) := by simp [World.cell?, hz2]
    have z5 : W2.cell? ⟨w.heap.size + 1, 5, none⟩ = some (.int .i64 0) := by simp [World.cell?, hz2]
    have f0 : W2.frozen? ⟨w.heap.size + 1, 0, none⟩ = false := by simp [World.frozen?, hz2]
    have f1 : W2.frozen? ⟨w.heap.size + 1, 1, none⟩ = false := by simp [World.frozen?, hz2]
    have f2 : W2.frozen? ⟨w.heap.size + 1, 2, none⟩ = false := by simp [World.frozen?, hz2]
    have f3 : W2.frozen? ⟨w.heap.size + 1, 3, none⟩ = false := by simp [World.frozen?, hz2]
    have f4 : W2.frozen? ⟨w.heap.size + 1, 4, none⟩ = false := by simp [World.frozen?, hz2]
    have f5 : W2.frozen? ⟨w.heap.size + 1, 5, none⟩ = false := by simp [World.frozen?, hz2]
    obtain ⟨k0, k1, k2, k3, k4, k5⟩ := link_after_cells hz2 (.int .i64 q.mru) (.int .i64 q.magic) (.int .i64 q.mrru) (.bool q.short) (.string q.disc) (.int .i64 q.num) _ rfl
    have hBl := below6 (B := w.heap.size + 1) hBf (Nat.le_succ _) (.int .i64 q.mru) (.int .i64 q.magic) (.int .i64 q.mrru) (.bool q.short) (.string q.disc) (.int .i64 q.num)
    go_wp2_with fail
    refine bodyPost_ret (v := .tuple #[.agg #[.int .i64 q.mru, .int .i64 q.magic, .int .i64 q.mrru, .bool q.short, .string q.disc, .int .i64 q.num], .int .i64 0]) (by simp [results, Tryz.results51, go_sem, k0, k1, k2, k3, k4, k5]) rfl ⟨?_, hBl⟩
    rw [← HLh.out, ← HQ.out]
    try rfl
set_option maxRecDepth 100000 in
set_option maxHeartbeats 8000000 in
theorem plearn_nil4 (l : LinkM) (w : World) (hm : mayM l = true) :
    Calls Tryz.prog 51 #[.agg (linkCells l), .int .i64 4, .slice none 0 0] w fun e w' => e = .returned (.tuple #[.agg (linkCells (([] : List OptM).foldl (learnStep 4) l)), .int .i64 0]) ∧ Below w.heap.size w w' := by
  have hmay := fun w => pmay_any l w
  rw [hm] at hmay
  clear hm
  have HLh := Lib.hid linkCells_eq
  rw [HLh.out] at hmay ⊢
  go_enter Tryz.func51, Tryz.ntmps51
  go_wp2_with fail
  refine (hmay _).mono ?_
  rintro e w1 ⟨rfl, hb1⟩
  have hh1 : w1.heap[w.heap.size]? = some (.cells (linkCells l) 23 (0, 0)) := below_of hb1 (by rw [HLh.out]; exact heap_first2 _ _ _)
  have hz1 : w1.heap[w.heap.size + 1]? = some (.cells #[.int .i64 0, .int .i64 0, .int .i64 0, .bool false, .string ⟨#[]⟩, .int .i64 0] 23 (0, 0)) := below_of hb1 (by simpa using heap_alloc_last (w.alloc _) _)
  obtain ⟨c0, c1, c2, c3, c4, c5⟩ := link_cells hh1
  have hB1 : Below w.heap.size w w1 := seqB (allocB (allocB (Below.refl _ _) _) _) hb1
  have hlt1 : w.heap.size + 1 < w1.heap.size := (Array.getElem?_eq_some_iff.1 hz1).1
  clear hb1 hmay
  go_wp2_with fail
  have hS : SideAt (w1.alloc (.cells (linkCells l) 131)) w1.heap.size l := heap_alloc_last _ _
  have hzz := below_of (w' := w1.alloc (.cells (linkCells l) 131)) ((Below.refl _ _).alloc (Nat.le_refl _) _) hz1
  have hBW : Below w.heap.size w (w1.alloc (.cells (linkCells l) 131)) := allocB hB1 _
  rw [HLh.out] at hS hzz hBW
  obtain ⟨W2, hW2⟩ : ∃ W2, w1.alloc (.cells #[.int .i64 l.mru, .int .i64 l.magic, .int .i64 l.mrru, .bool l.short, .string l.disc, .int .i64 l.num] 131) = W2 := ⟨_, rfl⟩
  rw [hW2] at hS hzz hBW ⊢
  obtain ⟨p, hp⟩ : ∃ p, w1.heap.size = p := ⟨_, rfl⟩
  rw [hp] at hS hlt1 ⊢
  clear hW2 hh1 hz1 c0 c1 c2 c3 c4 c5 hB1 hp
  go_loopw [28] (fun i wr => i = .int .i64 0 ∧ W2 = wr) (fun i _ => 0)
  case atStart => exact ⟨rfl, rfl⟩
  case round =>
    obtain ⟨rfl, rfl⟩ := hrel
    have hend := hS
    have hz2 := hzz
    have hBf := hBW
    clear hS hzz hBW
    obtain ⟨q, hq⟩ : ∃ q, l = q := ⟨_, rfl⟩
    rw [hq] at hend
    have HQ := Lib.hid hq
    clear hq
    obtain ⟨c0, c1, c2, c3, c4, c5⟩ := hend.cells
    have z0 : W2.cell? ⟨w.heap.size + 1, 0, none⟩ = some (.int .i64 0) := by simp [World.cell?, hz2]
    have z1 : W2.cell? ⟨w.heap.size + 1, 1, none⟩ = some (.int .i64 0) := by simp [World.cell?, hz2]
    have z2 : W2.cell? ⟨w.heap.size + 1, 2, none⟩ = some (.int .i64 0) := by simp [World.cell?, hz2]
    have z3 : W2.cell? ⟨w.heap.size + 1, 3, none⟩ = some (.bool false) := by simp [World.cell?, hz2]
    have z4 : W2.cell? ⟨w.heap.size + 1, 4, none⟩ = some (.string ⟨#[]⟩) := by simp [World.cell?, hz2]
    have z5 : W2.cell? ⟨w.heap.size + 1, 5, none⟩ = some (.int .i64 0) := by simp [World.cell?, hz2]
    have f0 : W2.frozen? ⟨w.heap.size + 1, 0, none⟩ = false := by simp [World.frozen?, hz2]
    have f1 : W2.frozen? ⟨w.heap.size + 1, 1, none⟩ = false := by simp [World.frozen?, hz2]
    have f2 : W2.frozen? ⟨w.heap.size + 1, 2, none⟩ = false := by simp [World.frozen?, hz2]
    have f3 : W2.frozen? ⟨w.heap.size + 1, 3, none⟩ = false := by simp [World.frozen?, hz2]
    have f4 : W2.frozen? ⟨w.heap.size + 1, 4, none⟩ = false := by simp [World.frozen?, hz2]
    have f5 : W2.frozen? ⟨w.heap.size + 1, 5, none⟩ = false := by simp [World.frozen?, hz2]
    obtain ⟨k0, k1, k2, k3, k4, k5⟩ := link_after_cells hz2 (.int .i64 q.mru) (.int .i64 q.magic) (.int .i64 q.mrru) (.bool q.short) (.string q.disc) (.int .i64 q.num) _ rfl
    have hBl := below6 (B := w.heap.size + 1) hBf (Nat.le_succ _) (.int .i64 q.mru) (.int .i64 q.magic) (.int .i64 q.mrru) (.bool q.short) (.string q.disc) (.int .i64 q.num)
    go_wp2_with fail
    refine bodyPost_ret (v := .tuple #[.agg #[.int .i64 q.mru, .int .i64 q.magic, .int .i64 q.mrru, .bool q.short, .string q.disc, .int .i64 q.num], .int .i64 0]) (by simp [results, Tryz.results51, go_sem, k0, k1, k2, k3, k4, k5]) rfl ⟨?_, hBl⟩
    rw [← HLh.out, ← HQ.out]
    try rfl
set_option maxRecDepth 100000 in
set_option maxHeartbeats 8000000 in
theorem plearn_some3 (l : LinkM) (g o c : Nat) (os : List OptM) (w : World) (hm : mayM l = true) (hv : OptsAt w (.slice (some ⟨g, o, none⟩) os.length c) os) :
    Calls Tryz.prog 51 #[.agg (linkCells l), .int .i64 3, .slice (some ⟨g, o, none⟩) os.length c] w fun e w' => e = .returned (.tuple #[.agg (linkCells (os.foldl (learnStep 3) l)), .int .i64 0]) ∧ Below w.heap.size w w' := by
  have hn := SeqAt.le hv
  have hgl : g < w.heap.size := SeqAt.lt hv g rfl
  have hmay := fun w => pmay_any l w
  rw [hm] at hmay
  clear hm
  have HLh := Lib.hid linkCells_eq
  rw [HLh.out] at hmay ⊢
  go_enter Tryz.func51, Tryz.ntmps51
  go_wp2_with fail
  refine (hmay _).mono ?_
  rintro e w1 ⟨rfl, hb1⟩
  have hh1 : w1.heap[w.heap.size]? = some (.cells (linkCells l) 23 (0, 0)) := below_of hb1 (by rw [HLh.out]; exact heap_first2 _ _ _)
  have hz1 : w1.heap[w.heap.size + 1]? = some (.cells #[.int .i64 0, .int .i64 0, .int .i64 0, .bool false, .string ⟨#[]⟩, .int .i64 0] 23 (0, 0)) := below_of hb1 (by simpa using heap_alloc_last (w.alloc _) _)
  obtain ⟨c0, c1, c2, c3, c4, c5⟩ := link_cells hh1
  have hB1 : Below w.heap.size w w1 := seqB (allocB (allocB (Below.refl _ _) _) _) hb1
  have hlt1 : w.heap.size + 1 < w1.heap.size := (Array.getElem?_eq_some_iff.1 hz1).1
  clear hb1 hmay
  go_wp2_with fail
  have hS : SideAt (w1.alloc (.cells (linkCells l) 131)) w1.heap.size l := heap_alloc_last _ _
  have hzz := below_of (w' := w1.alloc (.cells (linkCells l) 131)) ((Below.refl _ _).alloc (Nat.le_refl _) _) hz1
  have hBW : Below w.heap.size w (w1.alloc (.cells (linkCells l) 131)) := allocB hB1 _
  rw [HLh.out] at hS hzz hBW
  obtain ⟨W2, hW2⟩ : ∃ W2, w1.alloc (.cells #[.int .i64 l.mru, .int .i64 l.magic, .int .i64 l.mrru, .bool l.short, .string l.disc, .int .i64 l.num] 131) = W2 := ⟨_, rfl⟩
  rw [hW2] at hS hzz hBW ⊢
  obtain ⟨p, hp⟩ : ∃ p, w1.heap.size = p := ⟨_, rfl⟩
  rw [hp] at hS hlt1 ⊢
  clear hW2 hh1 hz1 c0 c1 c2 c3 c4 c5 hB1 hp
  obtain ⟨-, -, -, hcell⟩ := (hv.below hBW).cells
  obtain ⟨n, hnn⟩ : ∃ n, os.length = n := ⟨_, rfl⟩
  have HN := Lib.hid hnn
  have HC := Lib.hid hcell
  rw [hnn] at hn ⊢
  clear hnn hcell hv
  go_loopw [28] (fun i wr => ∃ k : Nat, k ≤ n ∧ i = .int .i64 k ∧ SideAt wr p ((os.take k).foldl (learnStep 3) l) ∧ Only (· = p) W2 wr) (fun i _ => n - (intOf i).toNat)
  case atStart => exact ⟨0, Nat.zero_le _, rfl, hS, Only.refl _ _⟩
  case round =>
    obtain ⟨k, hk, rfl, hSr, hOr⟩ := hrel
    by_cases hlt : k < n
    · have hkl : k < os.length := by rw [HN.out]; exact hlt
      obtain ⟨d1, d2⟩ := HC.out k hkl
      replace d1 := hOr.cell d1 (show ¬ (g = p) by omega)
      replace d2 := hOr.cell d2 (show ¬ (g = p) by omega)
      have hst := learnTo_succ l 3 os k hkl
      obtain ⟨x, hx⟩ : ∃ x, os[k] = x := ⟨_, rfl⟩
      rw [hx] at d1 d2 hst
      obtain ⟨acc, hacc⟩ : ∃ acc, (os.take k).foldl (learnStep 3) l = acc := ⟨_, rfl⟩
      rw [hacc] at hSr hst
      have hri := fun w => right_any x w
      have hO1 : Only (· = p) W2 (wr.alloc (.cells #[.int .i64 x.1, .string x.2] 70)) := hOr.alloc _
      have hS1 := hSr.below ((Below.refl _ _).alloc (Nat.le_refl _) (.cells #[.int .i64 x.1, .string x.2] 70))
      have hh6 : (wr.alloc (.cells #[.int .i64 x.1, .string x.2] 70)).heap[wr.heap.size]? = some (.cells #[.int .i64 x.1, .string x.2] 70 (0, 0)) := heap_alloc_last _ _
      clear hx hacc hS hzz hOr hSr
      cases hr : rightM x with
      | false =>
        rw [hr] at hri
        have HST : Hid ((os.take (k + 1)).foldl (learnStep 3) l = acc) := Lib.hid (by rw [hst]; unfold learnStep; rw [if_pos (.inl hr)])
        clear hst hr
        go_wp2_with fail
        refine (hri _).mono ?_
        rintro e w3 ⟨rfl, hb3⟩
        have hS3 := hS1.below hb3
        have hO3 := hO1.then hb3
        clear hb3 hS1 hO1
        go_wp2_with fail
        go_roundw
        case rel => exact ⟨k + 1, by omega, by go_num, by rw [HST.out]; exact hS3, hO3⟩
        case measure => simp [intOf]; omega
      | true =>
        rw [hr] at hri
        obtain ⟨hkk, hsz⟩ := right_kind hr
        cases ha : asksM acc x.1 with
        | false =>
          have HST : Hid ((os.take (k + 1)).foldl (learnStep 3) l = acc) := Lib.hid (by rw [hst]; unfold learnStep; rw [if_pos (.inr ha)])
          have hask := fun w h => asks_any p acc x.1 w h
          rw [ha] at hask
          clear hst hr ha hkk
          go_wp2_with fail
          refine (hri _).mono ?_
          rintro e w3 ⟨rfl, hb3⟩
          have hS3 := hS1.below hb3
          have hO3 := hO1.then hb3
          have hh3 := below_of hb3 hh6
          have t0 : w3.cell? ⟨wr.heap.size, 0, none⟩ = some (.int .i64 x.1) := by simp [World.cell?, hh3]
          clear hb3 hS1 hO1 hh3 hh6
          go_wp2_with fail
          refine (hask _ hS3).mono ?_
          rintro e w4 ⟨rfl, rfl⟩
          go_wp2_with fail
          go_roundw
          case rel => exact ⟨k + 1, by omega, by go_num, by rw [HST.out]; exact hS3, hO3⟩
          case measure => simp [intOf]; omega
        | true =>
          have HST : Hid ((os.take (k + 1)).foldl (learnStep 3) l = learnOne acc x) := Lib.hid (by rw [hst]; unfold learnStep; rw [if_neg (by rw [hr, ha]; simp)]; rfl)
          have hask := fun w h => asks_any p acc x.1 w h
          have hstep := fun w h => learn_any p acc x w h hr
          rw [ha] at hask
          clear hst hr ha hkk
          go_wp2_with fail
          refine (hri _).mono ?_
          rintro e w3 ⟨rfl, hb3⟩
          have hS3 := hS1.below hb3
          have hO3 := hO1.then hb3
          have hh3 := below_of hb3 hh6
          have t0 : w3.cell? ⟨wr.heap.size, 0, none⟩ = some (.int .i64 x.1) := by simp [World.cell?, hh3]
          have t1 : w3.cell? ⟨wr.heap.size, 1, none⟩ = some (.string x.2) := by simp [World.cell?, hh3]
          clear hb3 hS1 hO1 hh3 hh6
          go_wp2_with fail
          refine (hask _ hS3).mono ?_
          rintro e w4 ⟨rfl, rfl⟩
          go_wp2_with fail
          refine (hstep _ hS3).mono ?_
          rintro e w5 ⟨rfl, hS5, hO5⟩
          go_wp2_with fail
          go_roundw
          case rel => exact ⟨k + 1, by omega, by go_num, by rw [HST.out]; exact hS5, hO3.trans hO5⟩
          case measure => simp [intOf]; omega
    · obtain rfl : k = n := by omega
      have hend := hSr
      rw [← HN.out, List.take_length] at hend
      have hz2 := hOr.heap hzz (by omega)
      have hBf : Below w.heap.size w wr := hBW.trans (hOr.below (B := w.heap.size) hBW.size (fun k hk => by subst hk; omega))
      clear hSr hOr hS hzz
      obtain ⟨q, hq⟩ : ∃ q, (os.foldl (learnStep 3) l) = q := ⟨_, rfl⟩
      rw [hq] at hend
      have HQ := Lib.hid hq
      clear hq
      obtain ⟨c0, c1, c2, c3, c4, c5⟩ := hend.cells
      have z0 : wr.cell? ⟨w.heap.size + 1, 0, none⟩ = some (.int .i64 0) := by simp [World.cell?, hz2]
      have z1 : wr.cell? ⟨w.heap.size + 1, 1, none⟩ = some (.int .i64 0) := by simp [World.cell?, hz2]
      have z2 : wr.cell? ⟨w.heap.size + 1, 2, none⟩ = some (.int .i64 0) := by simp [World.cell?, hz2]
      have z3 : wr.cell? ⟨w.heap.size + 1, 3, none⟩ = some (.bool false) := by simp [World.cell?, hz2]
      have z4 : wr.cell? ⟨w.heap.size + 1, 4, none⟩ = some (.string ⟨#[]⟩) := by simp [World.cell?, hz2]
      have z5 : wr.cell? ⟨w.heap.size + 1, 5, none⟩ = some (.int .i64 0) := by simp [World.cell?, hz2]
      have f0 : wr.frozen? ⟨w.heap.size + 1, 0, none⟩ = false := by simp [World.frozen?, hz2]
      have f1 : wr.frozen? ⟨w.heap.size + 1, 1, none⟩ = false := by simp [World.frozen?, hz2]
      have f2 : wr.frozen? ⟨w.heap.size + 1, 2, none⟩ = false := by simp [World.frozen?, hz2]
      have f3 : wr.frozen? ⟨w.heap.size + 1, 3, none⟩ = false := by simp [World.frozen?, hz2]
      have f4 : wr.frozen? ⟨w.heap.size + 1, 4, none⟩ = false := by simp [World.frozen?, hz2]
      have f5 : wr.frozen? ⟨w.heap.size + 1, 5, none⟩ = false := by simp [World.frozen?, hz2]
      obtain ⟨k0, k1, k2, k3, k4, k5⟩ := link_after_cells hz2 (.int .i64 q.mru) (.int .i64 q.magic) (.int .i64 q.mrru) (.bool q.short) (.string q.disc) (.int .i64 q.num) _ rfl
      have hBl := below6 (B := w.heap.size + 1) hBf (Nat.le_succ _) (.int .i64 q.mru) (.int .i64 q.magic) (.int .i64 q.mrru) (.bool q.short) (.string q.disc) (.int .i64 q.num)
      go_wp2_with fail
      refine bodyPost_ret (v := .tuple #[.agg #[.int .i64 q.mru, .int .i64 q.magic, .int .i64 q.mrru, .bool q.short, .string q.disc, .int .i64 q.num], .int .i64 0]) (by simp [results, Tryz.results51, go_sem, k0, k1, k2, k3, k4, k5]) rfl ⟨?_, hBl⟩
      rw [← HLh.out, ← HQ.out]
      try rfl
set_option maxRecDepth 100000 in
set_option maxHeartbeats 8000000 in
theorem plearn_some4 (l : LinkM) (g o c : Nat) (os : List OptM) (w : World) (hm : mayM l = true) (hv : OptsAt w (.slice (some ⟨g, o, none⟩) os.length c) os) :
    Calls Tryz.prog 51 #[.agg (linkCells l), .int .i64 4, .slice (some ⟨g, o, none⟩) os.length c] w fun e w' => e = .returned (.tuple #[.agg (linkCells (os.foldl (learnStep 4) l)), .int .i64 0]) ∧ Below w.heap.size w w' := by
  have hn := SeqAt.le hv
  have hgl : g < w.heap.size := SeqAt.lt hv g rfl
  have hmay := fun w => pmay_any l w
  rw [hm] at hmay
  clear hm
  have HLh := Lib.hid linkCells_eq
  rw [HLh.out] at hmay ⊢
  go_enter Tryz.func51, Tryz.ntmps51
  go_wp2_with fail
  refine (hmay _).mono ?_
  rintro e w1 ⟨rfl, hb1⟩
  have hh1 : w1.heap[w.heap.size]? = some (.cells (linkCells l) 23 (0, 0)) := below_of hb1 (by rw [HLh.out]; exact heap_first2 _ _ _)
  have hz1 : w1.heap[w.heap.size + 1]? = some (.cells #[.int .i64 0, .int .i64 0, .int .i64 0, .bool false, .string ⟨#[]⟩, .int .i64 0] 23 (0, 0)) := below_of hb1 (by simpa using heap_alloc_last (w.alloc _) _)
  obtain ⟨c0, c1, c2, c3, c4, c5⟩ := link_cells hh1
  have hB1 : Below w.heap.size w w1 := seqB (allocB (allocB (Below.refl _ _) _) _) hb1
  have hlt1 : w.heap.size + 1 < w1.heap.size := (Array.getElem?_eq_some_iff.1 hz1).1
  clear hb1 hmay
  go_wp2_with fail
  have hS : SideAt (w1.alloc (.cells (linkCells l) 131)) w1.heap.size l := heap_alloc_last _ _
  have hzz := below_of (w' := w1.alloc (.cells (linkCells l) 131)) ((Below.refl _ _).alloc (Nat.le_refl _) _) hz1
  have hBW : Below w.heap.size w (w1.alloc (.cells (linkCells l) 131)) := allocB hB1 _
  rw [HLh.out] at hS hzz hBW
  obtain ⟨W2, hW2⟩ : ∃ W2, w1.alloc (.cells #[.int .i64 l.mru, .int .i64 l.magic, .int .i64 l.mrru, .bool l.short, .string l.disc, .int .i64 l.num] 131) = W2 := ⟨_, rfl⟩
  rw [hW2] at hS hzz hBW ⊢
  obtain ⟨p, hp⟩ : ∃ p, w1.heap.size = p := ⟨_, rfl⟩
  rw [hp] at hS hlt1 ⊢
  clear hW2 hh1 hz1 c0 c1 c2 c3 c4 c5 hB1 hp
  obtain ⟨-, -, -, hcell⟩ := (hv.below hBW).cells
  obtain ⟨n, hnn⟩ : ∃ n, os.length = n := ⟨_, rfl⟩
  have HN := Lib.hid hnn
  have HC := Lib.hid hcell
  rw [hnn] at hn ⊢
  clear hnn hcell hv
  go_loopw [28] (fun i wr => ∃ k : Nat, k ≤ n ∧ i = .int .i64 k ∧ SideAt wr p ((os.take k).foldl (learnStep 4) l) ∧ Only (· = p) W2 wr) (fun i _ => n - (intOf i).toNat)
  case atStart => exact ⟨0, Nat.zero_le _, rfl, hS, Only.refl _ _⟩
  case round =>
    obtain ⟨k, hk, rfl, hSr, hOr⟩ := hrel
    by_cases hlt : k < n
    · have hkl : k < os.length := by rw [HN.out]; exact hlt
      obtain ⟨d1, d2⟩ := HC.out k hkl
      replace d1 := hOr.cell d1 (show ¬ (g = p) by omega)
      replace d2 := hOr.cell d2 (show ¬ (g = p) by omega)
      have hst := learnTo_succ l 4 os k hkl
      obtain ⟨x, hx⟩ : ∃ x, os[k] = x := ⟨_, rfl⟩
      rw [hx] at d1 d2 hst
      obtain ⟨acc, hacc⟩ : ∃ acc, (os.take k).foldl (learnStep 4) l = acc := ⟨_, rfl⟩
      rw [hacc] at hSr hst
      have hri := fun w => right_any x w
      have hO1 : Only (· = p) W2 (wr.alloc (.cells #[.int .i64 x.1, .string x.2] 70)) := hOr.alloc _
      have hS1 := hSr.below ((Below.refl _ _).alloc (Nat.le_refl _) (.cells #[.int .i64 x.1, .string x.2] 70))
      have hh6 : (wr.alloc (.cells #[.int .i64 x.1, .string x.2] 70)).heap[wr.heap.size]? = some (.cells #[.int .i64 x.1, .string x.2] 70 (0, 0)) := heap_alloc_last _ _
      clear hx hacc hS hzz hOr hSr
      cases hr : rightM x with
      | false =>
        rw [hr] at hri
        have HST : Hid ((os.take (k + 1)).foldl (learnStep 4) l = acc) := Lib.hid (by rw [hst]; unfold learnStep; rw [if_pos (.inl hr)])
        clear hst hr
        go_wp2_with fail
        refine (hri _).mono ?_
        rintro e w3 ⟨rfl, hb3⟩
        have hS3 := hS1.below hb3
        have hO3 := hO1.then hb3
        clear hb3 hS1 hO1
        go_wp2_with fail
        go_roundw
        case rel => exact ⟨k + 1, by omega, by go_num, by rw [HST.out]; exact hS3, hO3⟩
        case measure => simp [intOf]; omega
      | true =>
        rw [hr] at hri
        obtain ⟨hkk, hsz⟩ := right_kind hr
        cases ha : asksM acc x.1 with
        | false =>
          have HST : Hid ((os.take (k + 1)).foldl (learnStep 4) l = acc) := Lib.hid (by rw [hst]; unfold learnStep; rw [if_pos (.inr ha)])
          have hask := fun w h => asks_any p acc x.1 w h
          rw [ha] at hask
          clear hst hr ha hkk
          go_wp2_with fail
          refine (hri _).mono ?_
          rintro e w3 ⟨rfl, hb3⟩
          have hS3 := hS1.below hb3
          have hO3 := hO1.then hb3
          have hh3 := below_of hb3 hh6
          have t0 : w3.cell? ⟨wr.heap.size, 0, none⟩ = some (.int .i64 x.1) := by simp [World.cell?, hh3]
          clear hb3 hS1 hO1 hh3 hh6
          go_wp2_with fail
          refine (hask _ hS3).mono ?_
          rintro e w4 ⟨rfl, rfl⟩
          go_wp2_with fail
          go_roundw
          case rel => exact ⟨k + 1, by omega, by go_num, by rw [HST.out]; exact hS3, hO3⟩
          case measure => simp [intOf]; omega
        | true =>
          have HST : Hid ((os.take (k + 1)).foldl (learnStep 4) l = clearM acc x.1) := Lib.hid (by rw [hst]; unfold learnStep; rw [if_neg (by rw [hr, ha]; simp)]; rfl)
          have hask := fun w h => asks_any p acc x.1 w h
          have hstep := fun w h => clear_any p acc x.1 w h hkk
          rw [ha] at hask
          clear hst hr ha hkk
          go_wp2_with fail
          refine (hri _).mono ?_
          rintro e w3 ⟨rfl, hb3⟩
          have hS3 := hS1.below hb3
          have hO3 := hO1.then hb3
          have hh3 := below_of hb3 hh6
          have t0 : w3.cell? ⟨wr.heap.size, 0, none⟩ = some (.int .i64 x.1) := by simp [World.cell?, hh3]
          have t1 : w3.cell? ⟨wr.heap.size, 1, none⟩ = some (.string x.2) := by simp [World.cell?, hh3]
          clear hb3 hS1 hO1 hh3 hh6
          go_wp2_with fail
          refine (hask _ hS3).mono ?_
          rintro e w4 ⟨rfl, rfl⟩
          go_wp2_with fail
          refine (hstep _ hS3).mono ?_
          rintro e w5 ⟨rfl, hS5, hO5⟩
          go_wp2_with fail
          go_roundw
          case rel => exact ⟨k + 1, by omega, by go_num, by rw [HST.out]; exact hS5, hO3.trans hO5⟩
          case measure => simp [intOf]; omega
    · obtain rfl : k = n := by omega
      have hend := hSr
      rw [← HN.out, List.take_length] at hend
      have hz2 := hOr.heap hzz (by omega)
      have hBf : Below w.heap.size w wr := hBW.trans (hOr.below (B := w.heap.size) hBW.size (fun k hk => by subst hk; omega))
      clear hSr hOr hS hzz
      obtain ⟨q, hq⟩ : ∃ q, (os.foldl (learnStep 4) l) = q := ⟨_, rfl⟩
      rw [hq] at hend
      have HQ := Lib.hid hq
      clear hq
      obtain ⟨c0, c1, c2, c3, c4, c5⟩ := hend.cells
      have z0 : wr.cell? ⟨w.heap.size + 1, 0, none⟩ = some (.int .i64 0) := by simp [World.cell?, hz2]
      have z1 : wr.cell? ⟨w.heap.size + 1, 1, none⟩ = some (.int .i64 0) := by simp [World.cell?, hz2]
      have z2 : wr.cell? ⟨w.heap.size + 1, 2, none⟩ = some (.int .i64 0) := by simp [World.cell?, hz2]
      have z3 : wr.cell? ⟨w.heap.size + 1, 3, none⟩ = some (.bool false) := by simp [World.cell?, hz2]
      have z4 : wr.cell? ⟨w.heap.size + 1, 4, none⟩ = some (.string ⟨#[]⟩) := by simp [World.cell?, hz2]
      have z5 : wr.cell? ⟨w.heap.size + 1, 5, none⟩ = some (.int .i64 0) := by simp [World.cell?, hz2]
      have f0 : wr.frozen? ⟨w.heap.size + 1, 0, none⟩ = false := by simp [World.frozen?, hz2]
      have f1 : wr.frozen? ⟨w.heap.size + 1, 1, none⟩ = false := by simp [World.frozen?, hz2]
      have f2 : wr.frozen? ⟨w.heap.size + 1, 2, none⟩ = false := by simp [World.frozen?, hz2]
      have f3 : wr.frozen? ⟨w.heap.size + 1, 3, none⟩ = false := by simp [World.frozen?, hz2]
      have f4 : wr.frozen? ⟨w.heap.size + 1, 4, none⟩ = false := by simp [World.frozen?, hz2]
      have f5 : wr.frozen? ⟨w.heap.size + 1, 5, none⟩ = false := by simp [World.frozen?, hz2]
      obtain ⟨k0, k1, k2, k3, k4, k5⟩ := link_after_cells hz2 (.int .i64 q.mru) (.int .i64 q.magic) (.int .i64 q.mrru) (.bool q.short) (.string q.disc) (.int .i64 q.num) _ rfl
      have hBl := below6 (B := w.heap.size + 1) hBf (Nat.le_succ _) (.int .i64 q.mru) (.int .i64 q.magic) (.int .i64 q.mrru) (.bool q.short) (.string q.disc) (.int .i64 q.num)
      go_wp2_with fail
      refine bodyPost_ret (v := .tuple #[.agg #[.int .i64 q.mru, .int .i64 q.magic, .int .i64 q.mrru, .bool q.short, .string q.disc, .int .i64 q.num], .int .i64 0]) (by simp [results, Tryz.results51, go_sem, k0, k1, k2, k3, k4, k5]) rfl ⟨?_, hBl⟩
      rw [← HLh.out, ← HQ.out]
      try rfl
theorem plearn_any (l : LinkM) (code : Int) (v : Value) (os : List OptM) (w : World) (hm : mayM l = true) (hc : code = 3 ∨ code = 4) (hv : OptsAt w v os) :
    Calls Tryz.prog 51 #[.agg (linkCells l), .int .i64 code, v] w fun e w' => e = .returned (.tuple #[.agg (linkCells (learnM l code os).1), .int .i64 0]) ∧ Below w.heap.size w w' := by
  have HR : (learnM l code os).1 = os.foldl (learnStep code) l := by
    unfold learnM; rw [if_neg (by rw [hm]; simp; omega)]
  rw [HR]
  rcases hv.or with ⟨rfl, rfl⟩ | ⟨g, o, c, rfl⟩
  · rcases hc with rfl | rfl
    · exact plearn_nil3 l w hm
    · exact plearn_nil4 l w hm
  · rcases hc with rfl | rfl
    · exact plearn_some3 l g o c os w hm hv
    · exact plearn_some4 l g o c os w hm hv
end Go.Proofs.YtagnbdenecphcaaGreatDoor
