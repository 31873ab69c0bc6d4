/- Small laws of my own that the walks of this seat share. -/
import Derived.WalkKit
import Derived.WalkSpells
import Derived.WalkLawsBesides
import Derived.Deep.WholeRow
import Derived.Lib.Hide
import Derived.Lib.Strings
import Derived.Laws.IdiomStrings
namespace Go.Proofs.YteigigepmoicaaaGreatDoor
open Go.RowKit
theorem seqB {w w1 w2 : World} (h : Below w.heap.size w w1) (k : Below w1.heap.size w1 w2) : Below w.heap.size w w2 := h.trans (k.mono h.size)
theorem allocB {w w1 : World} (h : Below w.heap.size w w1) (o : Obj) : Below w.heap.size w (w1.alloc o) := h.alloc h.size o
theorem drewB {w w1 : World} (h : Below w.heap.size w w1) : Below w.heap.size w w1.drew := h.drew
theorem bcell {W w1 : World} (hb : Below W.heap.size W w1) : (∀ b o, b < W.heap.size → w1.cell? ⟨b, o, none⟩ = W.cell? ⟨b, o, none⟩) ∧ (∀ b o, b < W.heap.size → w1.frozen? ⟨b, o, none⟩ = W.frozen? ⟨b, o, none⟩) :=
  ⟨fun b o h => hb.cell (p := ⟨b, o, none⟩) h, fun b o h => hb.frozen (p := ⟨b, o, none⟩) h⟩
theorem below_setRow {B : Nat} {a w : World} (h : Below B a w) (g : Nat) (cs : Array Value) (hg : B ≤ g) : Below B a (w.setRow g cs) :=
  h.trans ⟨rfl, rfl, rfl, by simp, fun k hk => setRow_other w g k cs (by omega)⟩
/-- a whole row stored into the block that was made last -/
theorem wpList_store_new {P : Program} {ops : Array Oper} {rest : List Oper} {o : Oper} {a : Act} {w : World} {Q : Exit → Act → World → Prop} (hgd : o.guard = none) (ty : TypeId) (x y : Operand) (ho : o.op = .store ty x y)
    (cells : Array Value) (hx : a.eval x = .pointer (some ⟨w.heap.size, 0, none⟩)) (hy : a.eval y = .agg cells) (t : TypeId) (old : Array Value)
    (hi : (P.info? ty).map (·.size) = some cells.size) (hold : old.size = cells.size) (h1 : cells.all (·.oneCell') = true)
    (h : wpList P ops Q rest (a.put o.dst undef) (w.alloc (.cells cells t))) : wpList P ops Q (o :: rest) a (w.alloc (.cells old t)) :=
  wpList_store_row hgd ty x y ho w.heap.size cells hx hy t old (heap_alloc_last w _) hi hold h1 (by rw [World.setRow_alloc_new]; exact h)
/-! ### texts -/
def bytesOf (l : List UInt8) : ByteArray := ⟨l.toArray⟩
theorem len_toList (s : ByteArray) : s.data.toList.length = s.size := Array.length_toList
theorem extract_toList (s : ByteArray) (a b : Nat) : (s.extract a b).data.toList = (s.data.toList.drop a).take (b - a) := Lib.extract_data s a b
theorem prefix_size (s : ByteArray) (n : Nat) (h : n ≤ s.size) : (s.extract 0 n).size = n := by
  rw [← len_toList, extract_toList]; simp; omega
theorem ba_toList (s : ByteArray) : s.toList = s.data.toList := ByteArray.toList_eq s
theorem ba_beq_true {a b : ByteArray} (h : a.data.toList = b.data.toList) : (a.toList == b.toList) = true := by rw [ba_toList, ba_toList, h]; exact beq_self_eq_true _
theorem ba_beq_false {a b : ByteArray} (h : a.data.toList ≠ b.data.toList) : (a.toList == b.toList) = false := by rw [ba_toList, ba_toList]; exact beq_eq_false_iff_ne.2 h
theorem prefix_toList (s : ByteArray) (n : Nat) : (s.extract 0 n).data.toList = s.data.toList.take n := by rw [extract_toList]; simp
theorem prefix_bytes (s : ByteArray) (n : Nat) : s.extract 0 n = bytesOf (s.data.toList.take n) := by
  have := prefix_toList s n
  cases h : s.extract 0 n with
  | mk d => rw [h] at this; simp only at this; unfold bytesOf; rw [← this]
theorem bytesOf_toList (l : List UInt8) : (bytesOf l).data.toList = l := rfl
theorem bytesOf_size (l : List UInt8) : (bytesOf l).size = l.length := by simp [bytesOf, ByteArray.size]
theorem bytesOf_of (s : ByteArray) : bytesOf s.data.toList = s := by unfold bytesOf; cases s; simp
theorem bytesOf_inj {a b : List UInt8} (h : bytesOf a = bytesOf b) : a = b := by
  have := congrArg (·.data.toList) h; simpa [bytesOf] using this
theorem ba_ext {a b : ByteArray} (h : a.data.toList = b.data.toList) : a = b := by
  rw [← bytesOf_of a, ← bytesOf_of b, h]
theorem bytesOf_append (a b : List UInt8) : bytesOf a ++ bytesOf b = bytesOf (a ++ b) := ba_ext (by simp [bytesOf])
theorem strOfNums_bytes (xs : List Int) : strOfNums xs = bytesOf (xs.map fun n => UInt8.ofNat n.toNat) := rfl
/-- a row of bytes that was just made, as a text -/
theorem conv_row {P : Program} (w : World) (src dst e : TypeId) (hs : P.underlying src = some (.slice e)) (he : P.underlying e = some (.int .u8)) (hd : P.underlying dst = some .string)
    (xs : List Int) (n : Nat) (hn : xs.length = n) :
    (convert src dst (.slice (some ⟨w.heap.size, 0, none⟩) n n)).run P (w.alloc (.cells (xs.map (Value.int .u8)).toArray e)) = .ok (.string (strOfNums xs)) (w.alloc (.cells (xs.map (Value.int .u8)).toArray e)) := by
  refine run_convert_bytes_arg _ src e hs he w.heap.size 0 n n xs hn (fun i hi => ?_) dst hd
  rw [World.cell?_alloc_new]
  have h : i < xs.length := by omega
  simp [List.getD, h]
/-! ### a row of bytes that the call made out of a text -/
/-- a slice of integers that came in: nil, or a row of cap cells -/
def IsRow (k : IntKind) (w : World) (a : Option Addr) (len cap : Nat) (zs : List Int) : Prop :=
  (a = none ∧ len = 0 ∧ cap = 0 ∧ zs = []) ∨
  ∃ x, a = some x ∧ len ≤ cap ∧ cap ≤ maxLen ∧ zs.length = cap ∧ (∀ i, i < zs.length → w.cell? (x.add i) = some (.int k (zs.getD i 0))) ∧ ∀ n ∈ zs, (Lit.int k n).wf = true
def RowIs (w : World) (B : Nat) (e : TypeId) (l : List UInt8) : Prop :=
  ∃ row : Array Value, w.heap[B]? = some (.cells row e (row.size, row.size + 1)) ∧ l.length ≤ row.size ∧ ∀ j (h : j < l.length), row[j]? = some (.int .u8 (l[j].toNat : Int))
theorem RowIs.cell {w : World} {B : Nat} {e : TypeId} {l : List UInt8} (h : RowIs w B e l) {j : Nat} (hj : j < l.length) : w.cell? ⟨B, j, none⟩ = some (.int .u8 (l[j].toNat : Int)) := by
  obtain ⟨row, h1, _, h3⟩ := h
  simp [World.cell?, h1, h3 j hj]
theorem RowIs.frozen {w : World} {B : Nat} {e : TypeId} {l : List UInt8} (h : RowIs w B e l) {j : Nat} (hj : j < l.length) : w.frozen? ⟨B, j, none⟩ = false := by
  obtain ⟨row, h1, h2, _⟩ := h
  simp [World.frozen?, h1]; omega
theorem RowIs.set {w : World} {B : Nat} {e : TypeId} {l : List UInt8} (h : RowIs w B e l) {j : Nat} (hj : j < l.length) (b : UInt8) : RowIs (w.setCell ⟨B, j, none⟩ (.int .u8 (b.toNat : Int))) B e (l.set j b) := by
  obtain ⟨row, h1, h2, h3⟩ := h
  have hlt : B < w.heap.size := (Array.getElem?_eq_some_iff.1 h1).1
  refine ⟨row.setIfInBounds j (.int .u8 (b.toNat : Int)), ?_, by simpa using h2, ?_⟩
  · simp only [World.setCell, Array.getElem?_modify, if_true, h1, Option.map_some]
    simp
  · intro i hi
    rw [Array.getElem?_setIfInBounds]
    have hi' : i < l.length := by simpa using hi
    by_cases e : j = i
    · subst e
      rw [if_pos rfl, if_pos (by omega)]
      simp
    · rw [if_neg e, h3 i hi']
      simp [e]
theorem RowIs.same {w w' : World} {B : Nat} {e : TypeId} {l : List UInt8} (h : RowIs w B e l) (hh : w'.heap[B]? = w.heap[B]?) : RowIs w' B e l := by
  obtain ⟨row, h1, h2, h3⟩ := h
  exact ⟨row, hh.trans h1, h2, h3⟩
theorem RowIs.drew {w : World} {B : Nat} {e : TypeId} {l : List UInt8} (h : RowIs w B e l) : RowIs w.drew B e l := h.same rfl
theorem RowIs.lt {w : World} {B : Nat} {e : TypeId} {l : List UInt8} (h : RowIs w B e l) : B < w.heap.size := by
  obtain ⟨row, h1, _⟩ := h
  exact (Array.getElem?_eq_some_iff.1 h1).1
theorem RowIs.below {w w' : World} {B : Nat} {e : TypeId} {l : List UInt8} (h : RowIs w B e l) (hb : Below w.heap.size w w') : RowIs w' B e l := h.same (hb.block B h.lt)
theorem RowIs.conv {P : Program} {w : World} {B : Nat} {e : TypeId} {l : List UInt8} (h : RowIs w B e l) (src dst : TypeId) (hs : P.underlying src = some (.slice e)) (he : P.underlying e = some (.int .u8)) (hd : P.underlying dst = some .string) (n cap : Nat) (hn : n = l.length) :
    (convert src dst (.slice (some ⟨B, 0, none⟩) n cap)).run P w = .ok (.string (bytesOf l)) w := by
  subst hn
  refine run_convert_bytes_back w src dst e ⟨B, 0, none⟩ cap l hs he hd fun j hj => ?_
  have hadd : (⟨B, 0, none⟩ : Addr).add j = ⟨B, j, none⟩ := by unfold Addr.add; split <;> simp_all
  rw [hadd]; exact h.cell hj
theorem grownCap_le (w : World) (n e : Nat) : n ≤ grownCap w n 0 e := by
  unfold grownCap
  simp [Question.cut]
theorem rowIs_new (w : World) (s : ByteArray) (e : TypeId) (cap : Nat) : RowIs (w.alloc (.cells (bytesRow s cap) e ((bytesRow s cap).size, (bytesRow s cap).size + 1))) w.heap.size e s.data.toList := by
  refine ⟨bytesRow s cap, heap_alloc_last w _, ?_, fun j hj => ?_⟩
  · rw [len_toList]; simp [bytesRow]
  · have := bytesRow_at s cap j (by simpa using hj)
    simpa using this
/-! ### bits of ints -/
theorem ofInt_i64 (a : Nat) (ha : a < 9223372036854775808) : (BitVec.ofInt 64 (a : Int)).toNat = a := by
  rw [BitVec.toNat_ofInt]; omega
theorem i64_xor_nat (a b : Nat) (ha : a < 9223372036854775808) (hb : b < 9223372036854775808) : bits .xor .i64 (a : Int) (b : Int) = ((a ^^^ b : Nat) : Int) := by
  have hx : a ^^^ b < 2 ^ 63 := Nat.xor_lt_two_pow (by omega) (by omega)
  show IntKind.i64.wrap ((BitVec.ofInt 64 (a : Int) ^^^ BitVec.ofInt 64 (b : Int)).toNat : Int) = _
  rw [BitVec.toNat_xor, ofInt_i64 a ha, ofInt_i64 b hb, IntKind.wrap_i64]
  omega
theorem i64_or_nat (a b : Nat) (ha : a < 9223372036854775808) (hb : b < 9223372036854775808) : bits .or .i64 (a : Int) (b : Int) = ((a ||| b : Nat) : Int) := by
  have hx : a ||| b < 2 ^ 63 := Nat.or_lt_two_pow (by omega) (by omega)
  show IntKind.i64.wrap ((BitVec.ofInt 64 (a : Int) ||| BitVec.ofInt 64 (b : Int)).toNat : Int) = _
  rw [BitVec.toNat_or, ofInt_i64 a ha, ofInt_i64 b hb, IntKind.wrap_i64]
  omega
theorem i64_and_nat (a b : Nat) (ha : a < 9223372036854775808) (hb : b < 9223372036854775808) : bits .and .i64 (a : Int) (b : Int) = ((a &&& b : Nat) : Int) := by
  have hx : a &&& b < 2 ^ 63 := Nat.and_lt_two_pow _ (by omega)
  show IntKind.i64.wrap ((BitVec.ofInt 64 (a : Int) &&& BitVec.ofInt 64 (b : Int)).toNat : Int) = _
  rw [BitVec.toNat_and, ofInt_i64 a ha, ofInt_i64 b hb, IntKind.wrap_i64]
  omega
/-- the low k bits of any int -/
theorem i64_low (n : Int) (k : Nat) (hk : k < 63) : bits .and .i64 n ((2 ^ k - 1 : Nat) : Int) = n % ((2 ^ k : Nat) : Int) := by
  have hp : 2 ^ k ≤ 2 ^ 62 := Nat.pow_le_pow_right (by omega) (by omega)
  have hp0 : 0 < 2 ^ k := Nat.two_pow_pos k
  have h1 : (BitVec.ofInt 64 ((2 ^ k - 1 : Nat) : Int)).toNat = 2 ^ k - 1 := ofInt_i64 _ (by omega)
  have hd : 2 ^ 64 = 2 ^ k * 2 ^ (64 - k) := by rw [← Nat.pow_add]; congr 1; omega
  have key : (BitVec.ofInt 64 n &&& BitVec.ofInt 64 ((2 ^ k - 1 : Nat) : Int)).toNat = (n % ((2 ^ 64 : Nat) : Int)).toNat % 2 ^ k := by
    rw [BitVec.toNat_and, BitVec.toNat_ofInt, h1, Nat.and_two_pow_sub_one_eq_mod]
  show IntKind.i64.wrap ((BitVec.ofInt 64 n &&& BitVec.ofInt 64 ((2 ^ k - 1 : Nat) : Int)).toNat : Nat) = _
  have e2 : (((n % ((2 ^ 64 : Nat) : Int)).toNat % 2 ^ k : Nat) : Int) = n % ((2 ^ k : Nat) : Int) := by
    rw [Int.natCast_emod, Int.toNat_of_nonneg (Int.emod_nonneg _ (by omega)), hd, Int.natCast_mul, Int.emod_emod_of_dvd _ (Int.dvd_mul_right _ _)]
  have hl : (((n % ((2 ^ 64 : Nat) : Int)).toNat % 2 ^ k : Nat)) < 2 ^ k := Nat.mod_lt _ hp0
  rw [key, IntKind.wrap_i64, ← e2]
  omega
end Go.Proofs.YteigigepmoicaaaGreatDoor
