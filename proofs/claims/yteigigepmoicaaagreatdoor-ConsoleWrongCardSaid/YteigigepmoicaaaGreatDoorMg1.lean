/- Small laws of my own that the walks of this seat share. The console's words, numbers, digits: plain functions over lists of bytes. The shelf's contracts of strings.Builder and strings.IndexByte, laid at this translation. The shelf's contracts of strings.Split and strings.Cut, laid at this translation. The shelf's contracts that the console leans on, laid at this translation. -/
import Derived.WalkKit
import Derived.WalkSpells
import Derived.WalkLawsBesides
import Derived.Deep.WholeRow
import Derived.Lib.Hide
import Derived.Lib.Strings
import Derived.Laws.IdiomStrings
import Derived.Lib.Atoi
import Derived.Lib.ItoaNum
import Derived.Lib.SlTrimSet
import Derived.Shelf.Strings.Builder1
import Derived.Shelf.Small.Strs
import Derived.Test.YteigigepmoicaaaGreatDoorRows
import Derived.Shelf.Strings.Split
import Derived.Shelf.Strings.Cut
import Derived.Shelf.Strings.Prefix
import Derived.Shelf.Strings.SlTrimAscii
import Derived.Shelf.Strconv.Atoi
import Derived.Shelf.Strconv.Itoa3
import Derived.Shelf.Strings.FieldsFuncAny
/-! Small laws of my own that the walks of this seat share. -/
namespace Go.Proofs.YteigigepmoicaaaGreatDoor
open Go.RowKit
theorem seqB {w w1 w2 : World} (h : Below w.heap.size w w1) (k : Below w1.heap.size w1 w2) : Below w.heap.size w w2 := h.trans (k.mono h.size)
theorem allocB {w w1 : World} (h : Below w.heap.size w w1) (o : Obj) : Below w.heap.size w (w1.alloc o) := h.alloc h.size o
theorem drewB {w w1 : World} (h : Below w.heap.size w w1) : Below w.heap.size w w1.drew := h.drew
theorem bcell {W w1 : World} (hb : Below W.heap.size W w1) : (∀ b o, b < W.heap.size → w1.cell? ⟨b, o, none⟩ = W.cell? ⟨b, o, none⟩) ∧ (∀ b o, b < W.heap.size → w1.frozen? ⟨b, o, none⟩ = W.frozen? ⟨b, o, none⟩) :=
  ⟨fun b o h => hb.cell (p := ⟨b, o, none⟩) h, fun b o h => hb.frozen (p := ⟨b, o, none⟩) h⟩
theorem below_setRow {B : Nat} {a w : World} (h : Below B a w) (g : Nat) (cs : Array Value) (hg : B ≤ g) : Below B a (w.setRow g cs) :=
  h.trans ⟨rfl, rfl, rfl, by simp, fun k hk => setRow_other w g k cs (by omega)⟩
/-- a whole row stored into the block that was made last -/
theorem wpList_store_new {P : Program} {ops : Array Oper} {rest : List Oper} {o : Oper} {a : Act} {w : World} {Q : Exit → Act → World → Prop} (hgd : o.guard = none) (ty : TypeId) (x y : Operand) (ho : o.op = .store ty x y)
    (cells : Array Value) (hx : a.eval x = .pointer (some ⟨w.heap.size, 0, none⟩)) (hy : a.eval y = .agg cells) (t : TypeId) (old : Array Value)
    (hi : (P.info? ty).map (·.size) = some cells.size) (hold : old.size = cells.size) (h1 : cells.all (·.oneCell') = true)
    (h : wpList P ops Q rest (a.put o.dst undef) (w.alloc (.cells cells t))) : wpList P ops Q (o :: rest) a (w.alloc (.cells old t)) :=
  wpList_store_row hgd ty x y ho w.heap.size cells hx hy t old (heap_alloc_last w _) hi hold h1 (by rw [World.setRow_alloc_new]; exact h)
/-! ### texts -/
def bytesOf (l : List UInt8) : ByteArray := ⟨l.toArray⟩
theorem len_toList (s : ByteArray) : s.data.toList.length = s.size := Array.length_toList
theorem extract_toList (s : ByteArray) (a b : Nat) : (s.extract a b).data.toList = (s.data.toList.drop a).take (b - a) := Lib.extract_data s a b
theorem prefix_size (s : ByteArray) (n : Nat) (h : n ≤ s.size) : (s.extract 0 n).size = n := by
  rw [← len_toList, extract_toList]; simp; omega
theorem ba_toList (s : ByteArray) : s.toList = s.data.toList := ByteArray.toList_eq s
theorem ba_beq_true {a b : ByteArray} (h : a.data.toList = b.data.toList) : (a.toList == b.toList) = true := by rw [ba_toList, ba_toList, h]; exact beq_self_eq_true _
theorem ba_beq_false {a b : ByteArray} (h : a.data.toList ≠ b.data.toList) : (a.toList == b.toList) = false := by rw [ba_toList, ba_toList]; exact beq_eq_false_iff_ne.2 h
theorem prefix_toList (s : ByteArray) (n : Nat) : (s.extract 0 n).data.toList = s.data.toList.take n := by rw [extract_toList]; simp
theorem prefix_bytes (s : ByteArray) (n : Nat) : s.extract 0 n = bytesOf (s.data.toList.take n) := by
  have := prefix_toList s n
  cases h : s.extract 0 n with
  | mk d => rw [h] at this; simp only at this; unfold bytesOf; rw [← this]
theorem bytesOf_toList (l : List UInt8) : (bytesOf l).data.toList = l := rfl
theorem bytesOf_size (l : List UInt8) : (bytesOf l).size = l.length := by simp [bytesOf, ByteArray.size]
theorem bytesOf_of (s : ByteArray) : bytesOf s.data.toList = s := by unfold bytesOf; cases s; simp
theorem bytesOf_inj {a b : List UInt8} (h : bytesOf a = bytesOf b) : a = b := by
  have := congrArg (·.data.toList) h; simpa [bytesOf] using this
theorem ba_ext {a b : ByteArray} (h : a.data.toList = b.data.toList) : a = b := by
  rw [← bytesOf_of a, ← bytesOf_of b, h]
theorem bytesOf_append (a b : List UInt8) : bytesOf a ++ bytesOf b = bytesOf (a ++ b) := ba_ext (by simp [bytesOf])
theorem strOfNums_bytes (xs : List Int) : strOfNums xs = bytesOf (xs.map fun n => UInt8.ofNat n.toNat) := rfl
/-- a row of bytes that was just made, as a text -/
theorem conv_row {P : Program} (w : World) (src dst e : TypeId) (hs : P.underlying src = some (.slice e)) (he : P.underlying e = some (.int .u8)) (hd : P.underlying dst = some .string)
    (xs : List Int) (n : Nat) (hn : xs.length = n) :
    (convert src dst (.slice (some ⟨w.heap.size, 0, none⟩) n n)).run P (w.alloc (.cells (xs.map (Value.int .u8)).toArray e)) = .ok (.string (strOfNums xs)) (w.alloc (.cells (xs.map (Value.int .u8)).toArray e)) := by
  refine run_convert_bytes_arg _ src e hs he w.heap.size 0 n n xs hn (fun i hi => ?_) dst hd
  rw [World.cell?_alloc_new]
  have h : i < xs.length := by omega
  simp [List.getD, h]
/-! ### a row of bytes that the call made out of a text -/
/-- a slice of integers that came in: nil, or a row of cap cells -/
def IsRow (k : IntKind) (w : World) (a : Option Addr) (len cap : Nat) (zs : List Int) : Prop :=
  (a = none ∧ len = 0 ∧ cap = 0 ∧ zs = []) ∨
  ∃ x, a = some x ∧ len ≤ cap ∧ cap ≤ maxLen ∧ zs.length = cap ∧ (∀ i, i < zs.length → w.cell? (x.add i) = some (.int k (zs.getD i 0))) ∧ ∀ n ∈ zs, (Lit.int k n).wf = true
def RowIs (w : World) (B : Nat) (e : TypeId) (l : List UInt8) : Prop :=
  ∃ row : Array Value, w.heap[B]? = some (.cells row e (row.size, row.size + 1)) ∧ l.length ≤ row.size ∧ ∀ j (h : j < l.length), row[j]? = some (.int .u8 (l[j].toNat : Int))
theorem RowIs.cell {w : World} {B : Nat} {e : TypeId} {l : List UInt8} (h : RowIs w B e l) {j : Nat} (hj : j < l.length) : w.cell? ⟨B, j, none⟩ = some (.int .u8 (l[j].toNat : Int)) := by
  obtain ⟨row, h1, _, h3⟩ := h
  simp [World.cell?, h1, h3 j hj]
theorem RowIs.frozen {w : World} {B : Nat} {e : TypeId} {l : List UInt8} (h : RowIs w B e l) {j : Nat} (hj : j < l.length) : w.frozen? ⟨B, j, none⟩ = false := by
  obtain ⟨row, h1, h2, _⟩ := h
  simp [World.frozen?, h1]; omega
theorem RowIs.set {w : World} {B : Nat} {e : TypeId} {l : List UInt8} (h : RowIs w B e l) {j : Nat} (hj : j < l.length) (b : UInt8) : RowIs (w.setCell ⟨B, j, none⟩ (.int .u8 (b.toNat : Int))) B e (l.set j b) := by
  obtain ⟨row, h1, h2, h3⟩ := h
  have hlt : B < w.heap.size := (Array.getElem?_eq_some_iff.1 h1).1
  refine ⟨row.setIfInBounds j (.int .u8 (b.toNat : Int)), ?_, by simpa using h2, ?_⟩
  · simp only [World.setCell, Array.getElem?_modify, if_true, h1, Option.map_some]
    simp
  · intro i hi
    rw [Array.getElem?_setIfInBounds]
    have hi' : i < l.length := by simpa using hi
    by_cases e : j = i
    · subst e
      rw [if_pos rfl, if_pos (by omega)]
      simp
    · rw [if_neg e, h3 i hi']
      simp [e]
theorem RowIs.same {w w' : World} {B : Nat} {e : TypeId} {l : List UInt8} (h : RowIs w B e l) (hh : w'.heap[B]? = w.heap[B]?) : RowIs w' B e l := by
  obtain ⟨row, h1, h2, h3⟩ := h
  exact ⟨row, hh.trans h1, h2, h3⟩
theorem RowIs.drew {w : World} {B : Nat} {e : TypeId} {l : List UInt8} (h : RowIs w B e l) : RowIs w.drew B e l := h.same rfl
theorem RowIs.lt {w : World} {B : Nat} {e : TypeId} {l : List UInt8} (h : RowIs w B e l) : B < w.heap.size := by
  obtain ⟨row, h1, _⟩ := h
  exact (Array.getElem?_eq_some_iff.1 h1).1
theorem RowIs.below {w w' : World} {B : Nat} {e : TypeId} {l : List UInt8} (h : RowIs w B e l) (hb : Below w.heap.size w w') : RowIs w' B e l := h.same (hb.block B h.lt)
theorem RowIs.conv {P : Program} {w : World} {B : Nat} {e : TypeId} {l : List UInt8} (h : RowIs w B e l) (src dst : TypeId) (hs : P.underlying src = some (.slice e)) (he : P.underlying e = some (.int .u8)) (hd : P.underlying dst = some .string) (n cap : Nat) (hn : n = l.length) :
    (convert src dst (.slice (some ⟨B, 0, none⟩) n cap)).run P w = .ok (.string (bytesOf l)) w := by
  subst hn
  refine run_convert_bytes_back w src dst e ⟨B, 0, none⟩ cap l hs he hd fun j hj => ?_
  have hadd : (⟨B, 0, none⟩ : Addr).add j = ⟨B, j, none⟩ := by unfold Addr.add; split <;> simp_all
  rw [hadd]; exact h.cell hj
theorem grownCap_le (w : World) (n e : Nat) : n ≤ grownCap w n 0 e := by
  unfold grownCap
  simp [Question.cut]
theorem rowIs_new (w : World) (s : ByteArray) (e : TypeId) (cap : Nat) : RowIs (w.alloc (.cells (bytesRow s cap) e ((bytesRow s cap).size, (bytesRow s cap).size + 1))) w.heap.size e s.data.toList := by
  refine ⟨bytesRow s cap, heap_alloc_last w _, ?_, fun j hj => ?_⟩
  · rw [len_toList]; simp [bytesRow]
  · have := bytesRow_at s cap j (by simpa using hj)
    simpa using this
/-! ### bits of ints -/
theorem ofInt_i64 (a : Nat) (ha : a < 9223372036854775808) : (BitVec.ofInt 64 (a : Int)).toNat = a := by
  rw [BitVec.toNat_ofInt]; omega
theorem i64_xor_nat (a b : Nat) (ha : a < 9223372036854775808) (hb : b < 9223372036854775808) : bits .xor .i64 (a : Int) (b : Int) = ((a ^^^ b : Nat) : Int) := by
  have hx : a ^^^ b < 2 ^ 63 := Nat.xor_lt_two_pow (by omega) (by omega)
  show IntKind.i64.wrap ((BitVec.ofInt 64 (a : Int) ^^^ BitVec.ofInt 64 (b : Int)).toNat : Int) = _
  rw [BitVec.toNat_xor, ofInt_i64 a ha, ofInt_i64 b hb, IntKind.wrap_i64]
  omega
theorem i64_or_nat (a b : Nat) (ha : a < 9223372036854775808) (hb : b < 9223372036854775808) : bits .or .i64 (a : Int) (b : Int) = ((a ||| b : Nat) : Int) := by
  have hx : a ||| b < 2 ^ 63 := Nat.or_lt_two_pow (by omega) (by omega)
  show IntKind.i64.wrap ((BitVec.ofInt 64 (a : Int) ||| BitVec.ofInt 64 (b : Int)).toNat : Int) = _
  rw [BitVec.toNat_or, ofInt_i64 a ha, ofInt_i64 b hb, IntKind.wrap_i64]
  omega
theorem i64_and_nat (a b : Nat) (ha : a < 9223372036854775808) (hb : b < 9223372036854775808) : bits .and .i64 (a : Int) (b : Int) = ((a &&& b : Nat) : Int) := by
  have hx : a &&& b < 2 ^ 63 := Nat.and_lt_two_pow _ (by omega)
  show IntKind.i64.wrap ((BitVec.ofInt 64 (a : Int) &&& BitVec.ofInt 64 (b : Int)).toNat : Int) = _
  rw [BitVec.toNat_and, ofInt_i64 a ha, ofInt_i64 b hb, IntKind.wrap_i64]
  omega
/-- the low k bits of any int -/
theorem i64_low (n : Int) (k : Nat) (hk : k < 63) : bits .and .i64 n ((2 ^ k - 1 : Nat) : Int) = n % ((2 ^ k : Nat) : Int) := by
  have hp : 2 ^ k ≤ 2 ^ 62 := Nat.pow_le_pow_right (by omega) (by omega)
  have hp0 : 0 < 2 ^ k := Nat.two_pow_pos k
  have h1 : (BitVec.ofInt 64 ((2 ^ k - 1 : Nat) : Int)).toNat = 2 ^ k - 1 := ofInt_i64 _ (by omega)
  have hd : 2 ^ 64 = 2 ^ k * 2 ^ (64 - k) := by rw [← Nat.pow_add]; congr 1; omega
  have key : (BitVec.ofInt 64 n &&& BitVec.ofInt 64 ((2 ^ k - 1 : Nat) : Int)).toNat = (n % ((2 ^ 64 : Nat) : Int)).toNat % 2 ^ k := by
    rw [BitVec.toNat_and, BitVec.toNat_ofInt, h1, Nat.and_two_pow_sub_one_eq_mod]
  show IntKind.i64.wrap ((BitVec.ofInt 64 n &&& BitVec.ofInt 64 ((2 ^ k - 1 : Nat) : Int)).toNat : Nat) = _
  have e2 : (((n % ((2 ^ 64 : Nat) : Int)).toNat % 2 ^ k : Nat) : Int) = n % ((2 ^ k : Nat) : Int) := by
    rw [Int.natCast_emod, Int.toNat_of_nonneg (Int.emod_nonneg _ (by omega)), hd, Int.natCast_mul, Int.emod_emod_of_dvd _ (Int.dvd_mul_right _ _)]
  have hl : (((n % ((2 ^ 64 : Nat) : Int)).toNat % 2 ^ k : Nat)) < 2 ^ k := Nat.mod_lt _ hp0
  rw [key, IntKind.wrap_i64, ← e2]
  omega
end Go.Proofs.YteigigepmoicaaaGreatDoor
/-! The console's words, numbers, digits: plain functions over lists of bytes. -/
namespace Go.Proofs.YteigigepmoicaaaGreatDoor
open Go.RowKit
set_option linter.unusedVariables false
set_option linter.unusedSimpArgs false
/-! ### words, lines -/
def blankB (c : UInt8) : Bool := c == 32 || c == 9
def wordsC : List UInt8 → List UInt8 → List (List UInt8)
  | [], cur => if cur.isEmpty then [] else [cur]
  | c :: r, cur => if blankB c then (if cur.isEmpty then wordsC r [] else cur :: wordsC r []) else wordsC r (cur ++ [c])
def wordsM (l : List UInt8) : List (List UInt8) := wordsC l []
def cutN (n : UInt8) : List UInt8 → List (List UInt8)
  | [] => [[]]
  | c :: l => if c = n then [] :: cutN n l else match cutN n l with
    | [] => [[c]]
    | p :: ps => (c :: p) :: ps
theorem cutN_ne (n : UInt8) (l : List UInt8) : cutN n l ≠ [] := by
  cases l with
  | nil => simp [cutN]
  | cons c l =>
    unfold cutN
    split
    · simp
    · split <;> simp
theorem wordsC_plain : ∀ (l cur : List UInt8), (∀ c ∈ l, blankB c = false) → wordsC l cur = if (cur ++ l).isEmpty then [] else [cur ++ l]
  | [], cur, _ => by simp [wordsC]
  | c :: l, cur, h => by
    rw [wordsC, h c (by simp), if_neg (by simp), wordsC_plain l _ (fun x hx => h x (by simp [hx]))]
    simp
theorem wordsC_word : ∀ (l cur r : List UInt8) (b : UInt8), (∀ c ∈ l, blankB c = false) → blankB b = true → cur ++ l ≠ [] → wordsC (l ++ b :: r) cur = (cur ++ l) :: wordsC r []
  | [], cur, r, b, _, hb, hne => by
    rw [List.append_nil] at hne ⊢
    rw [List.nil_append, wordsC, hb, if_pos rfl, if_neg (by simpa using hne)]
  | c :: l, cur, r, b, h, hb, hne => by
    rw [List.cons_append, wordsC, h c (by simp), if_neg (by simp), wordsC_word l _ r b (fun x hx => h x (by simp [hx])) hb (by simp)]
    simp
/-- a word, a blank, more -/
theorem words_cons (l r : List UInt8) (h : ∀ c ∈ l, blankB c = false) (hne : l ≠ []) : wordsM (l ++ 32 :: r) = l :: wordsM r := by
  unfold wordsM
  rw [wordsC_word l [] r 32 h (by decide) (by simpa using hne)]
  rfl
theorem words_one (l : List UInt8) (h : ∀ c ∈ l, blankB c = false) (hne : l ≠ []) : wordsM l = [l] := by
  unfold wordsM
  rw [wordsC_plain l [] h]
  simp [hne]
theorem cutN_plain (n : UInt8) : ∀ (l : List UInt8), (∀ c ∈ l, c ≠ n) → cutN n l = [l]
  | [], _ => rfl
  | c :: l, h => by rw [cutN, if_neg (h c (by simp)), cutN_plain n l (fun x hx => h x (by simp [hx]))]
theorem cutN_app (n : UInt8) : ∀ (l r : List UInt8), (∀ c ∈ l, c ≠ n) → cutN n (l ++ n :: r) = l :: cutN n r
  | [], r, _ => by simp [cutN]
  | c :: l, r, h => by rw [List.cons_append, cutN, if_neg (h c (by simp)), cutN_app n l r (fun x hx => h x (by simp [hx]))]
/-! ### numbers -/
def decF : Nat → Nat → List UInt8
  | 0, _ => []
  | f + 1, u => if u < 10 then [UInt8.ofNat (48 + u)] else decF f (u / 10) ++ [UInt8.ofNat (48 + u % 10)]
theorem decF_eq : ∀ (f u : Nat), u < 10 ^ f → 1 ≤ f → decF f u = Lib.decDigits u
  | 0, _, _, h => by omega
  | f + 1, u, h, _ => by
    rw [Lib.decDigits]
    unfold decF
    by_cases h10 : u < 10
    · rw [if_pos h10, dif_pos h10]
    · rw [if_neg h10, dif_neg h10]
      cases f with
      | zero => omega
      | succ f => rw [decF_eq (f + 1) (u / 10) (by rw [Nat.pow_succ] at h; omega) (by omega)]
def itoaM (n : Int) : List UInt8 := if n < 0 then 45 :: decF 20 n.natAbs else decF 20 n.toNat
theorem itoaM_eq (n : Int) (h1 : -9223372036854775808 ≤ n) (h2 : n ≤ 9223372036854775807) : itoaM n = Lib.itoa n := by
  unfold itoaM Lib.itoa
  split
  · rw [decF_eq 20 _ (by omega) (by omega)]
  · rw [decF_eq 20 _ (by omega) (by omega)]
def digB (c : UInt8) : Bool := decide (48 ≤ c.toNat) && decide (c.toNat ≤ 57)
def decVal (x : Nat) (l : List UInt8) : Nat := l.foldl (fun x c => 10 * x + (c.toNat - 48)) x
def unsign (w : List UInt8) : List UInt8 := if w.head? = some 45 then w.drop 1 else w
def numM (w : List UInt8) : Option Int :=
  if 1 ≤ (unsign w).length ∧ (unsign w).length ≤ 10 ∧ (unsign w).all digB = true then some (if w.head? = some 45 then -(decVal 0 (unsign w) : Int) else (decVal 0 (unsign w) : Int)) else none
theorem unsign_eq (w : List UInt8) : Lib.trimPrefix w [45] = unsign w := by
  unfold Lib.trimPrefix unsign Lib.hasPrefix
  cases w with
  | nil => rfl
  | cons c w =>
    by_cases h : c = 45
    · subst h; simp [List.isPrefixOf]
    · simp [List.isPrefixOf, h, Ne.symm h]
theorem decFrom_all : ∀ (l : List UInt8) (x : Nat), l.all digB = true → Lib.decFrom x l = some (decVal x l)
  | [], x, _ => rfl
  | c :: l, x, h => by
    simp only [List.all_cons, Bool.and_eq_true] at h
    have hc := h.1
    unfold digB at hc
    simp only [Bool.and_eq_true, decide_eq_true_eq] at hc
    rw [Lib.decFrom, Lib.digitVal, if_pos hc]
    dsimp only
    rw [decFrom_all l _ h.2, Nat.mul_comm]
    rfl
def digitsB : List UInt8 := [48, 49, 50, 51, 52, 53, 54, 55, 56, 57]
theorem digits_contains (c : UInt8) : digitsB.contains c = digB c := by
  have : ∀ c : Fin 256, digitsB.contains (UInt8.ofNat c.val) = digB (UInt8.ofNat c.val) := by decide +kernel
  have h := this ⟨c.toNat, c.toNat_lt⟩
  simpa using h
theorem dropWhile_nil (p : UInt8 → Bool) : ∀ l : List UInt8, l.dropWhile p = [] ↔ l.all p = true
  | [] => by simp
  | c :: l => by
    rw [List.dropWhile_cons, List.all_cons]
    cases p c with
    | true => simp only [if_true, Bool.true_and]; exact dropWhile_nil p l
    | false => simp
theorem dropWhile_all (p : UInt8 → Bool) : ∀ l : List UInt8, (l.dropWhile p).all p = true → l.dropWhile p = []
  | [], _ => rfl
  | c :: l, h => by
    rw [List.dropWhile_cons] at h ⊢
    cases hc : p c with
    | true => rw [hc] at h; simp only [if_true] at h ⊢; exact dropWhile_all p l h
    | false => rw [hc] at h; simp [hc] at h
theorem trim_digits (l : List UInt8) : Lib.trimS l digitsB = [] ↔ l.all digB = true := by
  unfold Lib.trimS Lib.trimLeftS Lib.trimRightS
  have hf : (fun x => digitsB.contains x) = digB := funext digits_contains
  rw [hf, dropWhile_nil, List.all_reverse]
  constructor
  · intro h
    have := (dropWhile_nil digB l.reverse).1 (dropWhile_all digB _ h)
    rwa [List.all_reverse] at this
  · intro h
    rw [(dropWhile_nil digB l.reverse).2 (by rw [List.all_reverse]; exact h)]
    rfl
theorem atoi_num (w : List UInt8) (h1 : 1 ≤ (unsign w).length) (h3 : (unsign w).all digB = true) : Lib.atoi w = some (if w.head? = some 45 then -(decVal 0 (unsign w) : Int) else (decVal 0 (unsign w) : Int)) := by
  cases w with
  | nil => simp [unsign] at h1
  | cons c w =>
    by_cases hc : c = 45
    · subst hc
      have hu : unsign (45 :: w) = w := rfl
      rw [hu] at h1 h3 ⊢
      rw [Lib.atoi, if_pos (by rfl), Lib.decNat, if_neg (by cases w <;> simp at h1 ⊢), decFrom_all _ _ h3]
      rfl
    · have hn : ¬ ((c :: w).head? = some (45 : UInt8)) := fun e => hc (Option.some.inj e)
      have hu : unsign (c :: w) = c :: w := by unfold unsign; rw [if_neg hn]
      rw [hu] at h1 h3 ⊢
      rw [if_neg hn]
      have hd : digB c = true := List.all_eq_true.1 h3 c (by simp)
      have h43 : c ≠ 43 := fun e => by subst e; revert hd; decide
      rw [Lib.atoi, if_neg (by simpa using hc), if_neg (by simpa using h43), Lib.decNat, if_neg (by simp), decFrom_all _ _ h3]
      rfl
theorem decVal_lt : ∀ (l : List UInt8) (x : Nat), l.all digB = true → decVal x l < (x + 1) * 10 ^ l.length
  | [], x, _ => by simp [decVal]
  | c :: l, x, h => by
    simp only [List.all_cons, Bool.and_eq_true] at h
    have hc := h.1
    unfold digB at hc
    simp only [Bool.and_eq_true, decide_eq_true_eq] at hc
    have := decVal_lt l (10 * x + (c.toNat - 48)) h.2
    rw [show decVal x (c :: l) = decVal (10 * x + (c.toNat - 48)) l from rfl, List.length_cons, Nat.pow_succ]
    refine Nat.lt_of_lt_of_le this ?_
    rw [Nat.mul_comm (10 ^ l.length) 10, ← Nat.mul_assoc]
    exact Nat.mul_le_mul_right _ (by omega)
theorem numM_range {w : List UInt8} {x : Int} (h : numM w = some x) : -10000000000 < x ∧ x < 10000000000 := by
  unfold numM at h
  split at h
  · rename_i hc
    have hl := decVal_lt _ 0 hc.2.2
    have hp : 10 ^ (unsign w).length ≤ 10 ^ 10 := Nat.pow_le_pow_right (by decide) hc.2.1
    simp only [Nat.zero_add, Nat.one_mul] at hl
    have hv : decVal 0 (unsign w) < 10000000000 := by omega
    have e := Option.some.inj h
    split at e <;> omega
  · cases h
/-! ### digits -/
def hexd (n : Nat) : UInt8 := if n < 10 then UInt8.ofNat (48 + n) else UInt8.ofNat (87 + n)
def hexL (l : List UInt8) : List UInt8 := l.flatMap fun c => [hexd (c.toNat / 16), hexd (c.toNat % 16)]
def hexM (l : List UInt8) : List UInt8 := if l.isEmpty then [45] else hexL l
def unhexd (c : UInt8) : Option Nat := if 48 ≤ c.toNat ∧ c.toNat ≤ 57 then some (c.toNat - 48) else if 97 ≤ c.toNat ∧ c.toNat ≤ 102 then some (c.toNat - 87) else none
def pairsM : List UInt8 → Option (List UInt8)
  | [] => some []
  | [_] => none
  | a :: b :: r => match unhexd a, unhexd b, pairsM r with
    | some x, some y, some t => some (UInt8.ofNat (16 * x + y) :: t)
    | _, _, _ => none
def unhexM (s : List UInt8) : Option (List UInt8) := if s = [45] then some [] else if s = [] then none else pairsM s
theorem unhexd_hexd : ∀ n : Fin 16, unhexd (hexd n.val) = some n.val := by decide +kernel
theorem pairs_hex : ∀ l : List UInt8, pairsM (hexL l) = some l
  | [] => rfl
  | c :: l => by
    have h1 := unhexd_hexd ⟨c.toNat / 16, by have := c.toNat_lt; omega⟩
    have h2 := unhexd_hexd ⟨c.toNat % 16, by omega⟩
    dsimp only at h1 h2
    rw [show hexL (c :: l) = hexd (c.toNat / 16) :: hexd (c.toNat % 16) :: hexL l from rfl, pairsM, h1, h2, pairs_hex l]
    dsimp only
    rw [show 16 * (c.toNat / 16) + c.toNat % 16 = c.toNat by omega]
    simp
theorem hexd_plain : ∀ n : Fin 16, blankB (hexd n.val) = false ∧ hexd n.val ≠ 10 ∧ hexd n.val ≠ 45 := by decide +kernel
theorem hexL_plain (l : List UInt8) : ∀ c ∈ hexL l, blankB c = false ∧ c ≠ 10 ∧ c ≠ 45 := by
  intro c hc
  simp only [hexL, List.mem_flatMap, List.mem_cons, List.not_mem_nil, or_false] at hc
  obtain ⟨x, _, h | h⟩ := hc
  · have := hexd_plain ⟨x.toNat / 16, by have := x.toNat_lt; omega⟩
    rw [h]; exact this
  · have := hexd_plain ⟨x.toNat % 16, by omega⟩
    rw [h]; exact this
theorem hexM_plain (l : List UInt8) : ∀ c ∈ hexM l, blankB c = false ∧ c ≠ 10 := by
  intro c hc
  unfold hexM at hc
  split at hc
  · simp only [List.mem_singleton] at hc
    subst hc
    decide
  · have := hexL_plain l c hc
    exact ⟨this.1, this.2.1⟩
theorem hexM_ne (l : List UInt8) : hexM l ≠ [] := by
  unfold hexM
  cases l with
  | nil => simp
  | cons c l => simp [hexL]
theorem unhex_hex (l : List UInt8) : unhexM (hexM l) = some l := by
  unfold hexM
  cases l with
  | nil => rfl
  | cons c l =>
    have h0 : hexL (c :: l) ≠ [45] := fun e => by
      have := congrArg List.length e
      simp [hexL] at this
    have h1 : hexL (c :: l) ≠ [] := by simp [hexL]
    rw [if_neg (by simp)]
    unfold unhexM
    rw [if_neg h0, if_neg h1, pairs_hex]
end Go.Proofs.YteigigepmoicaaaGreatDoor
/-! The shelf's contracts of strings.Builder and strings.IndexByte, laid at this translation. -/
namespace Go.Proofs.YteigigepmoicaaaGreatDoor
open Go.Shelf Go.RowKit Go.Proofs
def ren240 : Go.Shelf.Ren := ⟨fun | 240 => 49 | 276 => 72 | n => n, fun | 0 => 0 | 4 => 4 | 9 => 9 | 20 => 20 | 37 => 27 | 70 => 50 | 72 => 52 | 164 => 108 | n => n, fun | n => n⟩
theorem lays240 : Go.Proofs.Lays.n240 Tryz.prog ren240 := {
  mixed := by kernel_rfl
  f240 := Tryz.func49.trans (congrArg some (by kernel_rfl))
  f276 := Tryz.func72.trans (congrArg some (by kernel_rfl))
  t0 := Tryz.underlying0
  a0 := Tryz.isAgg0
  z0 := Tryz.sizeOf0
  v0 := Tryz.zeroValue0
  t4 := Tryz.underlying4
  a4 := Tryz.isAgg4
  z4 := Tryz.sizeOf4
  v4 := Tryz.zeroValue4
  t9 := Tryz.underlying9
  a9 := Tryz.isAgg9
  z9 := Tryz.sizeOf9
  v9 := Tryz.zeroValue9
  t20 := Tryz.underlying20
  a20 := Tryz.isAgg20
  z20 := Tryz.sizeOf20
  v20 := Tryz.zeroValue20
  t70 := Tryz.underlying50
  a70 := Tryz.isAgg50
  z70 := Tryz.sizeOf50
  v70 := Tryz.zeroValue50
  t72 := Tryz.underlying52
  a72 := Tryz.isAgg52
  z72 := Tryz.sizeOf52
  v72 := Tryz.zeroValue52
  t164 := Tryz.underlying108
  a164 := Tryz.isAgg108
  z164 := Tryz.sizeOf108
  v164 := Tryz.zeroValue108 }
def ren167 : Go.Shelf.Ren := ⟨fun | 167 => 81 | 240 => 49 | 276 => 72 | n => n, fun | 0 => 0 | 4 => 4 | 5 => 5 | 9 => 9 | 20 => 20 | 37 => 27 | 70 => 50 | 72 => 52 | 75 => 57 | 80 => 61 | 164 => 108 | n => n, fun | n => n⟩
theorem lays167 : Go.Proofs.Lays.n167 Tryz.prog ren167 := {
  mixed := by kernel_rfl
  f167 := Tryz.func81.trans (congrArg some (by kernel_rfl))
  f240 := Tryz.func49.trans (congrArg some (by kernel_rfl))
  f276 := Tryz.func72.trans (congrArg some (by kernel_rfl))
  t0 := Tryz.underlying0
  a0 := Tryz.isAgg0
  z0 := Tryz.sizeOf0
  v0 := Tryz.zeroValue0
  t4 := Tryz.underlying4
  a4 := Tryz.isAgg4
  z4 := Tryz.sizeOf4
  v4 := Tryz.zeroValue4
  t5 := Tryz.underlying5
  a5 := Tryz.isAgg5
  z5 := Tryz.sizeOf5
  v5 := Tryz.zeroValue5
  t9 := Tryz.underlying9
  a9 := Tryz.isAgg9
  z9 := Tryz.sizeOf9
  v9 := Tryz.zeroValue9
  t20 := Tryz.underlying20
  a20 := Tryz.isAgg20
  z20 := Tryz.sizeOf20
  v20 := Tryz.zeroValue20
  t37 := Tryz.underlying27
  a37 := Tryz.isAgg27
  z37 := Tryz.sizeOf27
  v37 := Tryz.zeroValue27
  t70 := Tryz.underlying50
  a70 := Tryz.isAgg50
  z70 := Tryz.sizeOf50
  v70 := Tryz.zeroValue50
  t72 := Tryz.underlying52
  a72 := Tryz.isAgg52
  z72 := Tryz.sizeOf52
  v72 := Tryz.zeroValue52
  t75 := Tryz.underlying57
  a75 := Tryz.isAgg57
  z75 := Tryz.sizeOf57
  v75 := Tryz.zeroValue57
  t164 := Tryz.underlying108
  a164 := Tryz.isAgg108
  z164 := Tryz.sizeOf108
  v164 := Tryz.zeroValue108 }
def ren169 : Go.Shelf.Ren := ⟨fun | 169 => 30 | n => n, fun | 0 => 0 | 3 => 3 | 5 => 5 | 9 => 9 | 37 => 27 | 70 => 50 | 72 => 52 | 127 => 90 | n => n, fun | n => n⟩
theorem lays169 : Go.Proofs.Lays.n169 Tryz.prog ren169 := {
  mixed := by kernel_rfl
  f169 := Tryz.func30.trans (congrArg some (by kernel_rfl))
  t0 := Tryz.underlying0
  a0 := Tryz.isAgg0
  z0 := Tryz.sizeOf0
  v0 := Tryz.zeroValue0
  t3 := Tryz.underlying3
  a3 := Tryz.isAgg3
  z3 := Tryz.sizeOf3
  v3 := Tryz.zeroValue3
  t9 := Tryz.underlying9
  a9 := Tryz.isAgg9
  z9 := Tryz.sizeOf9
  v9 := Tryz.zeroValue9
  t37 := Tryz.underlying27
  a37 := Tryz.isAgg27
  z37 := Tryz.sizeOf27
  v37 := Tryz.zeroValue27
  t70 := Tryz.underlying50
  a70 := Tryz.isAgg50
  z70 := Tryz.sizeOf50
  v70 := Tryz.zeroValue50
  t72 := Tryz.underlying52
  a72 := Tryz.isAgg52
  z72 := Tryz.sizeOf52
  v72 := Tryz.zeroValue52
  t127 := Tryz.underlying90
  a127 := Tryz.isAgg90
  z127 := Tryz.sizeOf90
  v127 := Tryz.zeroValue90 }
def ren137 : Go.Shelf.Ren := ⟨fun | 137 => 98 | 217 => 106 | 266 => 125 | n => n, fun | 3 => 3 | 5 => 5 | 9 => 9 | n => n, fun | n => n⟩
theorem lays137 : Go.Proofs.Lays.n137 Tryz.prog ren137 := {
  mixed := by kernel_rfl
  f137 := Tryz.func98.trans (congrArg some (by kernel_rfl))
  f217 := Tryz.func106.trans (congrArg some (by kernel_rfl))
  f266 := Tryz.func125.trans (congrArg some (by kernel_rfl))
  t3 := Tryz.underlying3
  a3 := Tryz.isAgg3
  z3 := Tryz.sizeOf3
  v3 := Tryz.zeroValue3
  t5 := Tryz.underlying5
  a5 := Tryz.isAgg5
  z5 := Tryz.sizeOf5
  v5 := Tryz.zeroValue5
  t9 := Tryz.underlying9
  a9 := Tryz.isAgg9
  z9 := Tryz.sizeOf9
  v9 := Tryz.zeroValue9 }
theorem bx167 : Go.Proofs.Builder.Extra Tryz.prog ren167 := {
  sizeBuilder := by kernel_rfl
  liesBuilder := by kernel_rfl
  t5 := Tryz.underlying5
  a5 := Tryz.isAgg5
  z5 := Tryz.sizeOf5
  v5 := Tryz.zeroValue5
  infoByte := by kernel_rfl
  cellsByte := by kernel_rfl
  sizeByte := by kernel_rfl
  neB5 := by decide }
theorem bx169 : Go.Proofs.Builder.Extra Tryz.prog ren169 := {
  sizeBuilder := by kernel_rfl
  liesBuilder := by kernel_rfl
  t5 := Tryz.underlying5
  a5 := Tryz.isAgg5
  z5 := Tryz.sizeOf5
  v5 := Tryz.zeroValue5
  infoByte := by kernel_rfl
  cellsByte := by kernel_rfl
  sizeByte := by kernel_rfl
  neB5 := by decide }
/-- a Builder's WriteByte -/
theorem writeByte (B b : Nat) (bs : List Value) (c : Int) (w : World) (h : Lib.IsBuilder 52 5 B b bs w) (hlen : bs.length + 1 ≤ 140737488355328) (hBw : B ≤ w.heap.size) :
    Calls Tryz.prog 81 #[.pointer (some ⟨b, 0, none⟩), .int .u8 c] w fun e w' => e = .returned .nilIface ∧ (Lib.BuilderAt 52 5 B b (.pointer (some ⟨b, 0, none⟩)) (bs ++ [.int .u8 c]) w' ∧ Below B w w') := Any.Builder_WriteByte lays167 bx167 B b bs c w h hlen hBw
/-- a Builder's String -/
theorem builderString (B b : Nat) (l : List UInt8) (w : World) (h : Lib.IsBuilder 52 5 B b (Lib.byteCells l) w) (hBw : B ≤ w.heap.size) :
    Calls Tryz.prog 30 #[.pointer (some ⟨b, 0, none⟩)] w fun e w' => e = .returned (.string ⟨l.toArray⟩) ∧ Below B w w' := Any.Builder_String_any lays169 bx169 B b l w h hBw
/-- strings.IndexByte -/
theorem indexByte (s : ByteArray) (c : Int) (w : World) :
    Calls Tryz.prog 98 #[.string s, .int .u8 c] w fun e w' => e = .returned (.int .i64 (Lib.indexByte s.data.toList c.toNat.toUInt8)) ∧ w' = w := Any.strings_IndexByte lays137 s c w
end Go.Proofs.YteigigepmoicaaaGreatDoor
/-! The shelf's contracts of strings.Split and strings.Cut, laid at this translation. -/
namespace Go.Proofs.YteigigepmoicaaaGreatDoor
open Go.Shelf Go.RowKit Go.Proofs
set_option maxRecDepth 100000
def ren146 : Go.Shelf.Ren := ⟨fun | 138 => 70 | 143 => 71 | 146 => 25 | 195 => 90 | 197 => 91 | 217 => 106 | 218 => 92 | 219 => 93 | 221 => 48 | 224 => 108 | 225 => 107 | 260 => 105 | 266 => 125 | 267 => 109 | 268 => 69 | 314 => 126 | n => n, fun | 0 => 0 | 3 => 3 | 4 => 4 | 5 => 5 | 9 => 9 | 21 => 21 | 31 => 35 | 46 => 38 | 51 => 73 | 105 => 124 | 119 => 155 | 138 => 157 | 139 => 158 | 146 => 159 | n => n, fun | 1 => 0 | 3 => 1 | 4 => 2 | n => n⟩
theorem lays146 : Go.Proofs.Lays.n146 Tryz.prog ren146 := {
  mixed := by kernel_rfl
  f138 := Tryz.func70.trans (congrArg some (by kernel_rfl))
  f143 := Tryz.func71.trans (congrArg some (by kernel_rfl))
  f146 := Tryz.func25.trans (congrArg some (by kernel_rfl))
  f195 := Tryz.func90.trans (congrArg some (by kernel_rfl))
  f197 := Tryz.func91.trans (congrArg some (by kernel_rfl))
  f217 := Tryz.func106.trans (congrArg some (by kernel_rfl))
  f218 := Tryz.func92.trans (congrArg some (by kernel_rfl))
  f219 := Tryz.func93.trans (congrArg some (by kernel_rfl))
  f221 := Tryz.func48.trans (congrArg some (by kernel_rfl))
  f224 := Tryz.func108.trans (congrArg some (by kernel_rfl))
  f225 := Tryz.func107.trans (congrArg some (by kernel_rfl))
  f260 := Tryz.func105.trans (congrArg some (by kernel_rfl))
  f266 := Tryz.func125.trans (congrArg some (by kernel_rfl))
  f267 := Tryz.func109.trans (congrArg some (by kernel_rfl))
  f268 := Tryz.func69.trans (congrArg some (by kernel_rfl))
  f314 := Tryz.func126.trans (congrArg some (by kernel_rfl))
  t0 := Tryz.underlying0
  a0 := Tryz.isAgg0
  z0 := Tryz.sizeOf0
  v0 := Tryz.zeroValue0
  t3 := Tryz.underlying3
  a3 := Tryz.isAgg3
  z3 := Tryz.sizeOf3
  v3 := Tryz.zeroValue3
  t4 := Tryz.underlying4
  a4 := Tryz.isAgg4
  z4 := Tryz.sizeOf4
  v4 := Tryz.zeroValue4
  t5 := Tryz.underlying5
  a5 := Tryz.isAgg5
  z5 := Tryz.sizeOf5
  v5 := Tryz.zeroValue5
  t9 := Tryz.underlying9
  a9 := Tryz.isAgg9
  z9 := Tryz.sizeOf9
  v9 := Tryz.zeroValue9
  t21 := Tryz.underlying21
  a21 := Tryz.isAgg21
  z21 := Tryz.sizeOf21
  v21 := Tryz.zeroValue21
  t31 := Tryz.underlying35
  a31 := Tryz.isAgg35
  z31 := Tryz.sizeOf35
  v31 := Tryz.zeroValue35
  t46 := Tryz.underlying38
  a46 := Tryz.isAgg38
  z46 := Tryz.sizeOf38
  v46 := Tryz.zeroValue38
  t51 := Tryz.underlying73
  a51 := Tryz.isAgg73
  z51 := Tryz.sizeOf73
  v51 := Tryz.zeroValue73
  t105 := Tryz.underlying124
  a105 := Tryz.isAgg124
  z105 := Tryz.sizeOf124
  v105 := Tryz.zeroValue124
  t119 := Tryz.underlying155
  a119 := Tryz.isAgg155
  z119 := Tryz.sizeOf155
  t138 := Tryz.underlying157
  a138 := Tryz.isAgg157
  z138 := Tryz.sizeOf157
  v138 := Tryz.zeroValue157
  t139 := Tryz.underlying158
  a139 := Tryz.isAgg158
  z139 := Tryz.sizeOf158
  v139 := Tryz.zeroValue158
  t146 := Tryz.underlying159
  a146 := Tryz.isAgg159
  z146 := Tryz.sizeOf159
  v146 := Tryz.zeroValue159
  g1 := by kernel_rfl
  g3 := by kernel_rfl
  g4 := by kernel_rfl }
def ren145 : Go.Shelf.Ren := ⟨fun | 145 => 100 | 217 => 106 | 219 => 93 | 220 => 124 | 224 => 108 | 225 => 107 | 266 => 125 | 267 => 109 | 314 => 126 | n => n, fun | 3 => 3 | 4 => 4 | 5 => 5 | 9 => 9 | 46 => 38 | 51 => 73 | 59 => 133 | 146 => 159 | n => n, fun | 1 => 0 | n => n⟩
theorem lays145 : Go.Proofs.Lays.n145 Tryz.prog ren145 := {
  mixed := by kernel_rfl
  f145 := Tryz.func100.trans (congrArg some (by kernel_rfl))
  f217 := Tryz.func106.trans (congrArg some (by kernel_rfl))
  f219 := Tryz.func93.trans (congrArg some (by kernel_rfl))
  f220 := Tryz.func124.trans (congrArg some (by kernel_rfl))
  f224 := Tryz.func108.trans (congrArg some (by kernel_rfl))
  f225 := Tryz.func107.trans (congrArg some (by kernel_rfl))
  f266 := Tryz.func125.trans (congrArg some (by kernel_rfl))
  f267 := Tryz.func109.trans (congrArg some (by kernel_rfl))
  f314 := Tryz.func126.trans (congrArg some (by kernel_rfl))
  t3 := Tryz.underlying3
  a3 := Tryz.isAgg3
  z3 := Tryz.sizeOf3
  v3 := Tryz.zeroValue3
  t4 := Tryz.underlying4
  a4 := Tryz.isAgg4
  z4 := Tryz.sizeOf4
  v4 := Tryz.zeroValue4
  t5 := Tryz.underlying5
  a5 := Tryz.isAgg5
  z5 := Tryz.sizeOf5
  v5 := Tryz.zeroValue5
  t9 := Tryz.underlying9
  a9 := Tryz.isAgg9
  z9 := Tryz.sizeOf9
  v9 := Tryz.zeroValue9
  t46 := Tryz.underlying38
  a46 := Tryz.isAgg38
  z46 := Tryz.sizeOf38
  v46 := Tryz.zeroValue38
  t51 := Tryz.underlying73
  a51 := Tryz.isAgg73
  z51 := Tryz.sizeOf73
  v51 := Tryz.zeroValue73
  t59 := Tryz.underlying133
  a59 := Tryz.isAgg133
  z59 := Tryz.sizeOf133
  v59 := Tryz.zeroValue133
  t146 := Tryz.underlying159
  a146 := Tryz.isAgg159
  z146 := Tryz.sizeOf159
  v146 := Tryz.zeroValue159
  g1 := by kernel_rfl }
/-- the variable internal/bytealg.MaxLen holds an int -/
def MaxLenIs (w : World) (m : Int) : Prop := w.cell? ⟨0, 0, none⟩ = some (.int .i64 m)
/-- the cells of a row of texts -/
def textsRow (l : List ByteArray) : Array Value := (l.map Value.string).toArray
/-- strings.Split at one byte -/
theorem splitAt_any (s : ByteArray) (c : UInt8) (m : Int) (w : World) (hs : s.size < 4294967281) (hm : MaxLenIs w m) :
    Calls Tryz.prog 25 #[.string s, .string (bytesOf [c])] w fun e w' =>
      e = .returned (.slice (some ⟨w.heap.size, 0, none⟩) (Lib.countB s (bytesOf [c]) + 1) (Lib.countB s (bytesOf [c]) + 1)) ∧ w' = w.alloc (.cells (textsRow (Lib.splitB (bytesOf [c]) 0 (Lib.countB s (bytesOf [c])) s)) 9) :=
  Any.strings_Split lays146 (by kernel_rfl) s _ m w hs hm (by rw [bytesOf_size]; simp)
/-- strings.Cut -/
theorem cut_any (s sep : ByteArray) (m : Int) (w : World) (hs : s.size < 4294967281) (hm : MaxLenIs w m) :
    Calls Tryz.prog 100 #[.string s, .string sep] w fun e w' => e = .returned (.tuple #[.string ⟨(Lib.cut s.data.toList sep.data.toList).1.toArray⟩, .string ⟨(Lib.cut s.data.toList sep.data.toList).2.1.toArray⟩, .bool (Lib.cut s.data.toList sep.data.toList).2.2]) ∧ ∃ n, w' = w.drewN n :=
  Any.strings_Cut lays145 s sep m w hs hm
end Go.Proofs.YteigigepmoicaaaGreatDoor
/-! The shelf's contracts that the console leans on, laid at this translation. -/
namespace Go.Proofs.YteigigepmoicaaaGreatDoor
open Go.Shelf Go.RowKit Go.Proofs
set_option maxRecDepth 100000
def ren101 : Go.Shelf.Ren := ⟨fun | 101 => 95 | 206 => 132 | 208 => 114 | n => n, fun | 3 => 3 | 4 => 4 | 9 => 9 | n => n, fun  | n => n⟩
theorem lays101 : Go.Proofs.Lays.n101 Tryz.prog ren101 := {
  mixed := by kernel_rfl
  f101 := Tryz.func95.trans (congrArg some (by kernel_rfl))
  f206 := Tryz.func132.trans (congrArg some (by kernel_rfl))
  f208 := Tryz.func114.trans (congrArg some (by kernel_rfl))
  t3 := Tryz.underlying3
  a3 := Tryz.isAgg3
  z3 := Tryz.sizeOf3
  v3 := Tryz.zeroValue3
  t4 := Tryz.underlying4
  a4 := Tryz.isAgg4
  z4 := Tryz.sizeOf4
  v4 := Tryz.zeroValue4
  t9 := Tryz.underlying9
  a9 := Tryz.isAgg9
  z9 := Tryz.sizeOf9
  v9 := Tryz.zeroValue9 }
def ren160 : Go.Shelf.Ren := ⟨fun | 119 => 148 | 120 => 144 | 137 => 98 | 151 => 134 | 152 => 143 | 160 => 96 | 197 => 91 | 217 => 106 | 224 => 108 | 225 => 107 | 227 => 117 | 228 => 133 | 231 => 115 | 232 => 116 | 233 => 118 | 234 => 119 | 235 => 120 | 236 => 121 | 260 => 105 | 266 => 125 | 271 => 135 | n => n, fun | 0 => 0 | 3 => 3 | 4 => 4 | 5 => 5 | 9 => 9 | 21 => 21 | 46 => 38 | 105 => 124 | 116 => 147 | 117 => 148 | 119 => 155 | 124 => 151 | 138 => 157 | 139 => 158 | n => n, fun | 3 => 1 | 4 => 2 | n => n⟩
theorem lays160 : Go.Proofs.Lays.n160 Tryz.prog ren160 := {
  mixed := by kernel_rfl
  f119 := Tryz.func148.trans (congrArg some (by kernel_rfl))
  f120 := Tryz.func144.trans (congrArg some (by kernel_rfl))
  f137 := Tryz.func98.trans (congrArg some (by kernel_rfl))
  f151 := Tryz.func134.trans (congrArg some (by kernel_rfl))
  f152 := Tryz.func143.trans (congrArg some (by kernel_rfl))
  f160 := Tryz.func96.trans (congrArg some (by kernel_rfl))
  f197 := Tryz.func91.trans (congrArg some (by kernel_rfl))
  f217 := Tryz.func106.trans (congrArg some (by kernel_rfl))
  f224 := Tryz.func108.trans (congrArg some (by kernel_rfl))
  f225 := Tryz.func107.trans (congrArg some (by kernel_rfl))
  f227 := Tryz.func117.trans (congrArg some (by kernel_rfl))
  f228 := Tryz.func133.trans (congrArg some (by kernel_rfl))
  f231 := Tryz.func115.trans (congrArg some (by kernel_rfl))
  f232 := Tryz.func116.trans (congrArg some (by kernel_rfl))
  f233 := Tryz.func118.trans (congrArg some (by kernel_rfl))
  f234 := Tryz.func119.trans (congrArg some (by kernel_rfl))
  f235 := Tryz.func120.trans (congrArg some (by kernel_rfl))
  f236 := Tryz.func121.trans (congrArg some (by kernel_rfl))
  f260 := Tryz.func105.trans (congrArg some (by kernel_rfl))
  f266 := Tryz.func125.trans (congrArg some (by kernel_rfl))
  f271 := Tryz.func135.trans (congrArg some (by kernel_rfl))
  t0 := Tryz.underlying0
  a0 := Tryz.isAgg0
  z0 := Tryz.sizeOf0
  v0 := Tryz.zeroValue0
  t3 := Tryz.underlying3
  a3 := Tryz.isAgg3
  z3 := Tryz.sizeOf3
  v3 := Tryz.zeroValue3
  t4 := Tryz.underlying4
  a4 := Tryz.isAgg4
  z4 := Tryz.sizeOf4
  v4 := Tryz.zeroValue4
  t5 := Tryz.underlying5
  a5 := Tryz.isAgg5
  z5 := Tryz.sizeOf5
  v5 := Tryz.zeroValue5
  t9 := Tryz.underlying9
  a9 := Tryz.isAgg9
  z9 := Tryz.sizeOf9
  v9 := Tryz.zeroValue9
  t21 := Tryz.underlying21
  a21 := Tryz.isAgg21
  z21 := Tryz.sizeOf21
  v21 := Tryz.zeroValue21
  t46 := Tryz.underlying38
  a46 := Tryz.isAgg38
  z46 := Tryz.sizeOf38
  v46 := Tryz.zeroValue38
  t105 := Tryz.underlying124
  a105 := Tryz.isAgg124
  z105 := Tryz.sizeOf124
  v105 := Tryz.zeroValue124
  t116 := Tryz.underlying147
  a116 := Tryz.isAgg147
  z116 := Tryz.sizeOf147
  t117 := Tryz.underlying148
  a117 := Tryz.isAgg148
  z117 := Tryz.sizeOf148
  v117 := Tryz.zeroValue148
  t119 := Tryz.underlying155
  a119 := Tryz.isAgg155
  z119 := Tryz.sizeOf155
  t124 := Tryz.underlying151
  a124 := Tryz.isAgg151
  z124 := Tryz.sizeOf151
  v124 := Tryz.zeroValue151
  t138 := Tryz.underlying157
  a138 := Tryz.isAgg157
  z138 := Tryz.sizeOf157
  v138 := Tryz.zeroValue157
  t139 := Tryz.underlying158
  a139 := Tryz.isAgg158
  z139 := Tryz.sizeOf158
  v139 := Tryz.zeroValue158
  g3 := by kernel_rfl
  g4 := by kernel_rfl }
def ren172 : Go.Shelf.Ren := ⟨fun | 129 => 128 | 171 => 50 | 172 => 97 | 205 => 147 | 243 => 73 | 244 => 122 | 245 => 123 | 246 => 94 | 247 => 136 | 279 => 137 | 280 => 138 | 281 => 139 | 282 => 140 | 283 => 110 | 284 => 111 | 285 => 112 | 286 => 113 | 287 => 145 | 316 => 146 | 317 => 127 | 318 => 129 | 319 => 130 | 320 => 131 | 321 => 149 | 322 => 150 | 337 => 141 | 338 => 142 | n => n, fun | 0 => 0 | 2 => 2 | 3 => 3 | 4 => 4 | 5 => 5 | 9 => 9 | 20 => 20 | 21 => 21 | 37 => 27 | 46 => 38 | 51 => 73 | 53 => 72 | 75 => 57 | 76 => 58 | 80 => 61 | 85 => 168 | 127 => 90 | 143 => 183 | 145 => 185 | 167 => 167 | 168 => 170 | 171 => 140 | 173 => 143 | 175 => 175 | 210 => 178 | 212 => 162 | 213 => 163 | 232 => 180 | 233 => 181 | n => n, fun | 15 => 4 | 16 => 5 | 17 => 3 | 18 => 6 | 19 => 7 | n => n⟩
theorem lays172 : Go.Proofs.Lays.n172 Tryz.prog ren172 := {
  mixed := by kernel_rfl
  f129 := Tryz.func128.trans (congrArg some (by kernel_rfl))
  f171 := Tryz.func50.trans (congrArg some (by kernel_rfl))
  f172 := Tryz.func97.trans (congrArg some (by kernel_rfl))
  f205 := Tryz.func147.trans (congrArg some (by kernel_rfl))
  f243 := Tryz.func73.trans (congrArg some (by kernel_rfl))
  f244 := Tryz.func122.trans (congrArg some (by kernel_rfl))
  f245 := Tryz.func123.trans (congrArg some (by kernel_rfl))
  f246 := Tryz.func94.trans (congrArg some (by kernel_rfl))
  f247 := Tryz.func136.trans (congrArg some (by kernel_rfl))
  f279 := Tryz.func137.trans (congrArg some (by kernel_rfl))
  f280 := Tryz.func138.trans (congrArg some (by kernel_rfl))
  f281 := Tryz.func139.trans (congrArg some (by kernel_rfl))
  f282 := Tryz.func140.trans (congrArg some (by kernel_rfl))
  f283 := Tryz.func110.trans (congrArg some (by kernel_rfl))
  f284 := Tryz.func111.trans (congrArg some (by kernel_rfl))
  f285 := Tryz.func112.trans (congrArg some (by kernel_rfl))
  f286 := Tryz.func113.trans (congrArg some (by kernel_rfl))
  f287 := Tryz.func145.trans (congrArg some (by kernel_rfl))
  f316 := Tryz.func146.trans (congrArg some (by kernel_rfl))
  f317 := Tryz.func127.trans (congrArg some (by kernel_rfl))
  f318 := Tryz.func129.trans (congrArg some (by kernel_rfl))
  f319 := Tryz.func130.trans (congrArg some (by kernel_rfl))
  f320 := Tryz.func131.trans (congrArg some (by kernel_rfl))
  f321 := Tryz.func149.trans (congrArg some (by kernel_rfl))
  f322 := Tryz.func150.trans (congrArg some (by kernel_rfl))
  f337 := Tryz.func141.trans (congrArg some (by kernel_rfl))
  f338 := Tryz.func142.trans (congrArg some (by kernel_rfl))
  t0 := Tryz.underlying0
  a0 := Tryz.isAgg0
  z0 := Tryz.sizeOf0
  v0 := Tryz.zeroValue0
  t2 := Tryz.underlying2
  a2 := Tryz.isAgg2
  z2 := Tryz.sizeOf2
  v2 := Tryz.zeroValue2
  t3 := Tryz.underlying3
  a3 := Tryz.isAgg3
  z3 := Tryz.sizeOf3
  v3 := Tryz.zeroValue3
  t4 := Tryz.underlying4
  a4 := Tryz.isAgg4
  z4 := Tryz.sizeOf4
  v4 := Tryz.zeroValue4
  t5 := Tryz.underlying5
  a5 := Tryz.isAgg5
  z5 := Tryz.sizeOf5
  v5 := Tryz.zeroValue5
  t9 := Tryz.underlying9
  a9 := Tryz.isAgg9
  z9 := Tryz.sizeOf9
  v9 := Tryz.zeroValue9
  t20 := Tryz.underlying20
  a20 := Tryz.isAgg20
  z20 := Tryz.sizeOf20
  v20 := Tryz.zeroValue20
  t21 := Tryz.underlying21
  a21 := Tryz.isAgg21
  z21 := Tryz.sizeOf21
  v21 := Tryz.zeroValue21
  t37 := Tryz.underlying27
  a37 := Tryz.isAgg27
  z37 := Tryz.sizeOf27
  v37 := Tryz.zeroValue27
  t46 := Tryz.underlying38
  a46 := Tryz.isAgg38
  z46 := Tryz.sizeOf38
  v46 := Tryz.zeroValue38
  t51 := Tryz.underlying73
  a51 := Tryz.isAgg73
  z51 := Tryz.sizeOf73
  v51 := Tryz.zeroValue73
  t53 := Tryz.underlying72
  a53 := Tryz.isAgg72
  z53 := Tryz.sizeOf72
  v53 := Tryz.zeroValue72
  t75 := Tryz.underlying57
  a75 := Tryz.isAgg57
  z75 := Tryz.sizeOf57
  v75 := Tryz.zeroValue57
  t76 := Tryz.underlying58
  a76 := Tryz.isAgg58
  z76 := Tryz.sizeOf58
  v76 := Tryz.zeroValue58
  t85 := Tryz.underlying168
  a85 := Tryz.isAgg168
  z85 := Tryz.sizeOf168
  v85 := Tryz.zeroValue168
  t127 := Tryz.underlying90
  a127 := Tryz.isAgg90
  z127 := Tryz.sizeOf90
  v127 := Tryz.zeroValue90
  t143 := Tryz.underlying183
  a143 := Tryz.isAgg183
  z143 := Tryz.sizeOf183
  v143 := Tryz.zeroValue183
  t145 := Tryz.underlying185
  a145 := Tryz.isAgg185
  z145 := Tryz.sizeOf185
  v145 := Tryz.zeroValue185
  t167 := Tryz.underlying167
  a167 := Tryz.isAgg167
  z167 := Tryz.sizeOf167
  v167 := Tryz.zeroValue167
  t168 := Tryz.underlying170
  a168 := Tryz.isAgg170
  z168 := Tryz.sizeOf170
  v168 := Tryz.zeroValue170
  t171 := Tryz.underlying140
  a171 := Tryz.isAgg140
  z171 := Tryz.sizeOf140
  v171 := Tryz.zeroValue140
  t173 := Tryz.underlying143
  a173 := Tryz.isAgg143
  z173 := Tryz.sizeOf143
  v173 := Tryz.zeroValue143
  t175 := Tryz.underlying175
  a175 := Tryz.isAgg175
  z175 := Tryz.sizeOf175
  v175 := Tryz.zeroValue175
  t210 := Tryz.underlying178
  a210 := Tryz.isAgg178
  z210 := Tryz.sizeOf178
  v210 := Tryz.zeroValue178
  t212 := Tryz.underlying162
  a212 := Tryz.isAgg162
  z212 := Tryz.sizeOf162
  v212 := Tryz.zeroValue162
  t213 := Tryz.underlying163
  a213 := Tryz.isAgg163
  z213 := Tryz.sizeOf163
  t232 := Tryz.underlying180
  a232 := Tryz.isAgg180
  z232 := Tryz.sizeOf180
  v232 := Tryz.zeroValue180
  t233 := Tryz.underlying181
  a233 := Tryz.isAgg181
  z233 := Tryz.sizeOf181
  v233 := Tryz.zeroValue181
  g15 := by kernel_rfl
  g16 := by kernel_rfl
  g17 := by kernel_rfl
  g18 := by kernel_rfl
  g19 := by kernel_rfl }
def ren171 : Go.Shelf.Ren := ⟨fun | 129 => 128 | 171 => 50 | 243 => 73 | 246 => 94 | 283 => 110 | 284 => 111 | 285 => 112 | 286 => 113 | 317 => 127 | 318 => 129 | 319 => 130 | 320 => 131 | 337 => 141 | 338 => 142 | n => n, fun | 0 => 0 | 2 => 2 | 3 => 3 | 4 => 4 | 5 => 5 | 9 => 9 | 20 => 20 | 37 => 27 | 46 => 38 | 51 => 73 | 53 => 72 | 171 => 140 | 173 => 143 | 212 => 162 | 213 => 163 | 232 => 180 | 233 => 181 | n => n, fun | 17 => 3 | 18 => 6 | 19 => 7 | n => n⟩
theorem lays171 : Go.Proofs.LaysM.n171 Tryz.prog ren171 := {
  mixed := by kernel_rfl
  f129 := Tryz.func128.trans (congrArg some (by kernel_rfl))
  f171 := Tryz.func50.trans (congrArg some (by kernel_rfl))
  f243 := Tryz.func73.trans (congrArg some (by kernel_rfl))
  f246 := Tryz.func94.trans (congrArg some (by kernel_rfl))
  f283 := Tryz.func110.trans (congrArg some (by kernel_rfl))
  f284 := Tryz.func111.trans (congrArg some (by kernel_rfl))
  f285 := Tryz.func112.trans (congrArg some (by kernel_rfl))
  f286 := Tryz.func113.trans (congrArg some (by kernel_rfl))
  f317 := Tryz.func127.trans (congrArg some (by kernel_rfl))
  f318 := Tryz.func129.trans (congrArg some (by kernel_rfl))
  f319 := Tryz.func130.trans (congrArg some (by kernel_rfl))
  f320 := Tryz.func131.trans (congrArg some (by kernel_rfl))
  f337 := Tryz.func141.trans (congrArg some (by kernel_rfl))
  f338 := Tryz.func142.trans (congrArg some (by kernel_rfl))
  t0 := Tryz.underlying0
  a0 := Tryz.isAgg0
  z0 := Tryz.sizeOf0
  v0 := Tryz.zeroValue0
  t2 := Tryz.underlying2
  a2 := Tryz.isAgg2
  z2 := Tryz.sizeOf2
  v2 := Tryz.zeroValue2
  t3 := Tryz.underlying3
  a3 := Tryz.isAgg3
  z3 := Tryz.sizeOf3
  v3 := Tryz.zeroValue3
  t4 := Tryz.underlying4
  a4 := Tryz.isAgg4
  z4 := Tryz.sizeOf4
  v4 := Tryz.zeroValue4
  t5 := Tryz.underlying5
  a5 := Tryz.isAgg5
  z5 := Tryz.sizeOf5
  v5 := Tryz.zeroValue5
  t9 := Tryz.underlying9
  a9 := Tryz.isAgg9
  z9 := Tryz.sizeOf9
  v9 := Tryz.zeroValue9
  t20 := Tryz.underlying20
  a20 := Tryz.isAgg20
  z20 := Tryz.sizeOf20
  v20 := Tryz.zeroValue20
  t37 := Tryz.underlying27
  a37 := Tryz.isAgg27
  z37 := Tryz.sizeOf27
  v37 := Tryz.zeroValue27
  t46 := Tryz.underlying38
  a46 := Tryz.isAgg38
  z46 := Tryz.sizeOf38
  v46 := Tryz.zeroValue38
  t51 := Tryz.underlying73
  a51 := Tryz.isAgg73
  z51 := Tryz.sizeOf73
  v51 := Tryz.zeroValue73
  t53 := Tryz.underlying72
  a53 := Tryz.isAgg72
  z53 := Tryz.sizeOf72
  v53 := Tryz.zeroValue72
  t171 := Tryz.underlying140
  a171 := Tryz.isAgg140
  z171 := Tryz.sizeOf140
  v171 := Tryz.zeroValue140
  t173 := Tryz.underlying143
  a173 := Tryz.isAgg143
  z173 := Tryz.sizeOf143
  v173 := Tryz.zeroValue143
  t212 := Tryz.underlying162
  a212 := Tryz.isAgg162
  z212 := Tryz.sizeOf162
  v212 := Tryz.zeroValue162
  t213 := Tryz.underlying163
  a213 := Tryz.isAgg163
  z213 := Tryz.sizeOf163
  t232 := Tryz.underlying180
  a232 := Tryz.isAgg180
  z232 := Tryz.sizeOf180
  v232 := Tryz.zeroValue180
  t233 := Tryz.underlying181
  a233 := Tryz.isAgg181
  z233 := Tryz.sizeOf181
  v233 := Tryz.zeroValue181
  g17 := by kernel_rfl
  g18 := by kernel_rfl
  g19 := by kernel_rfl
  i0 := by kernel_rfl
  i2 := by kernel_rfl
  i3 := by kernel_rfl
  i4 := by kernel_rfl
  i5 := by kernel_rfl
  i9 := by kernel_rfl
  i20 := by kernel_rfl
  i37 := by kernel_rfl
  i46 := by kernel_rfl
  i51 := by kernel_rfl
  i53 := by kernel_rfl
  i171 := by kernel_rfl
  i173 := by kernel_rfl
  i212 := by kernel_rfl
  i232 := by kernel_rfl
  i233 := by kernel_rfl
  m17 := by kernel_rfl
  m18 := by kernel_rfl
  m19 := by kernel_rfl }
def ren229 : Go.Shelf.Ren := ⟨fun | 229 => 26 | n => n, fun | 0 => 0 | 3 => 3 | 4 => 4 | 9 => 9 | 21 => 21 | 31 => 35 | 40 => 55 | 152 => 84 | 154 => 86 | n => n, fun  | n => n⟩
theorem lays229 : Go.Proofs.Lays.n229 Tryz.prog ren229 := {
  mixed := by kernel_rfl
  f229 := Tryz.func26.trans (congrArg some (by kernel_rfl))
  t0 := Tryz.underlying0
  a0 := Tryz.isAgg0
  z0 := Tryz.sizeOf0
  v0 := Tryz.zeroValue0
  t3 := Tryz.underlying3
  a3 := Tryz.isAgg3
  z3 := Tryz.sizeOf3
  v3 := Tryz.zeroValue3
  t4 := Tryz.underlying4
  a4 := Tryz.isAgg4
  z4 := Tryz.sizeOf4
  v4 := Tryz.zeroValue4
  t9 := Tryz.underlying9
  a9 := Tryz.isAgg9
  z9 := Tryz.sizeOf9
  v9 := Tryz.zeroValue9
  t21 := Tryz.underlying21
  a21 := Tryz.isAgg21
  z21 := Tryz.sizeOf21
  v21 := Tryz.zeroValue21
  t31 := Tryz.underlying35
  a31 := Tryz.isAgg35
  z31 := Tryz.sizeOf35
  v31 := Tryz.zeroValue35
  t40 := Tryz.underlying55
  a40 := Tryz.isAgg55
  z40 := Tryz.sizeOf55
  v40 := Tryz.zeroValue55
  t152 := Tryz.underlying84
  a152 := Tryz.isAgg84
  z152 := Tryz.sizeOf84
  v152 := Tryz.zeroValue84
  t154 := Tryz.underlying86
  a154 := Tryz.isAgg86
  z154 := Tryz.sizeOf86
  v154 := Tryz.zeroValue86 }
def ren166 : Go.Shelf.Ren := ⟨fun | 166 => 28 | 240 => 49 | 276 => 72 | n => n, fun | 0 => 0 | 3 => 3 | 4 => 4 | 5 => 5 | 9 => 9 | 20 => 20 | 37 => 27 | 70 => 50 | 72 => 52 | 75 => 57 | 80 => 61 | 164 => 108 | n => n, fun  | n => n⟩
theorem lays166 : Go.Proofs.Lays.n166 Tryz.prog ren166 := {
  mixed := by kernel_rfl
  f166 := Tryz.func28.trans (congrArg some (by kernel_rfl))
  f240 := Tryz.func49.trans (congrArg some (by kernel_rfl))
  f276 := Tryz.func72.trans (congrArg some (by kernel_rfl))
  t0 := Tryz.underlying0
  a0 := Tryz.isAgg0
  z0 := Tryz.sizeOf0
  v0 := Tryz.zeroValue0
  t3 := Tryz.underlying3
  a3 := Tryz.isAgg3
  z3 := Tryz.sizeOf3
  v3 := Tryz.zeroValue3
  t4 := Tryz.underlying4
  a4 := Tryz.isAgg4
  z4 := Tryz.sizeOf4
  v4 := Tryz.zeroValue4
  t9 := Tryz.underlying9
  a9 := Tryz.isAgg9
  z9 := Tryz.sizeOf9
  v9 := Tryz.zeroValue9
  t20 := Tryz.underlying20
  a20 := Tryz.isAgg20
  z20 := Tryz.sizeOf20
  v20 := Tryz.zeroValue20
  t37 := Tryz.underlying27
  a37 := Tryz.isAgg27
  z37 := Tryz.sizeOf27
  v37 := Tryz.zeroValue27
  t70 := Tryz.underlying50
  a70 := Tryz.isAgg50
  z70 := Tryz.sizeOf50
  v70 := Tryz.zeroValue50
  t72 := Tryz.underlying52
  a72 := Tryz.isAgg52
  z72 := Tryz.sizeOf52
  v72 := Tryz.zeroValue52
  t75 := Tryz.underlying57
  a75 := Tryz.isAgg57
  z75 := Tryz.sizeOf57
  v75 := Tryz.zeroValue57
  t164 := Tryz.underlying108
  a164 := Tryz.isAgg108
  z164 := Tryz.sizeOf108
  v164 := Tryz.zeroValue108 }
theorem bx166 : Go.Proofs.Builder.Extra Tryz.prog ren166 := {
  sizeBuilder := by kernel_rfl
  liesBuilder := by kernel_rfl
  t5 := Tryz.underlying5
  a5 := Tryz.isAgg5
  z5 := Tryz.sizeOf5
  v5 := Tryz.zeroValue5
  infoByte := by kernel_rfl
  cellsByte := by kernel_rfl
  sizeByte := by kernel_rfl
  neB5 := by decide }
/-- a Builder that reads as l -/
def BuildAt (B b : Nat) (l : List UInt8) (w : World) : Prop := Lib.IsBuilder 52 5 B b (Lib.byteCells l) w
theorem strCells_eq (s : ByteArray) : Lib.strCells s = Lib.byteCells s.data.toList := rfl
/-- a Builder's WriteString -/
theorem writeString (B b : Nat) (l : List UInt8) (s : ByteArray) (w : World) (h : BuildAt B b l w) (hlen : l.length + s.size ≤ 140737488355328) (hBw : B ≤ w.heap.size) :
    Calls Tryz.prog 28 #[.pointer (some ⟨b, 0, none⟩), .string s] w fun e w' => e = .returned (.tuple #[.int .i64 s.size, .nilIface]) ∧ BuildAt B b (l ++ s.data.toList) w' ∧ Below B w w' := by
  refine (Any.Builder_WriteString lays166 bx166 B b (Lib.byteCells l) s w h (by rw [Lib.byteCells_length]; exact hlen) hBw).mono fun e w' ⟨he, hb, hl⟩ => ⟨he, .inr ?_, hl⟩
  have e1 : Lib.byteCells (l ++ s.data.toList) = Lib.byteCells l ++ Lib.strCells s := by rw [strCells_eq]; simp [Lib.byteCells]
  rw [e1]; exact hb
theorem BuildAt.lt {B b : Nat} {l : List UInt8} {w : World} (h : BuildAt B b l w) : b < w.heap.size := by
  rcases h with h | h <;> exact Lib.BuilderAt.lt h
/-- a Builder that was just made -/
theorem BuildAt.new {B b : Nat} {w : World} (hB : B ≤ b) (h : w.heap[b]? = some (.cells #[.pointer none, .slice none 0 0] 52 (0, 0))) : BuildAt B b [] w :=
  .inl ⟨hB, .slice none 0 0, h, ⟨rfl, .inl ⟨rfl, rfl⟩⟩, by simp [Value.ownBlock]⟩
/-- blocks below b, and those that were made later, may turn -/
theorem BuildAt.below {B b : Nat} {l : List UInt8} {w w' : World} (h : BuildAt B b l w) (hb : Below w.heap.size w w') : BuildAt B b l w' := by
  have key : ∀ p, Lib.BuilderAt 52 5 B b p (Lib.byteCells l) w → Lib.BuilderAt 52 5 B b p (Lib.byteCells l) w' := by
    rintro p ⟨h1, v, h2, h3, h4⟩
    refine ⟨h1, v, ?_, ⟨h3.1, ?_⟩, h4⟩
    · rw [hb.block b (Array.getElem?_eq_some_iff.1 h2).1]; exact h2
    · rcases h3.2 with h5 | ⟨g, cap, cur, hv, hg, hh, r⟩
      · exact .inl h5
      · exact .inr ⟨g, cap, cur, hv, hg, (hb.block g (Array.getElem?_eq_some_iff.1 hh).1).trans hh, r⟩
  rcases h with h | h
  · exact .inl (key _ h)
  · exact .inr (key _ h)
/-- a Builder's WriteByte -/
theorem writeByteAt (B b : Nat) (l : List UInt8) (c : UInt8) (w : World) (h : BuildAt B b l w) (hlen : l.length + 1 ≤ 140737488355328) (hBw : B ≤ w.heap.size) :
    Calls Tryz.prog 81 #[.pointer (some ⟨b, 0, none⟩), .int .u8 c.toNat] w fun e w' => e = .returned .nilIface ∧ BuildAt B b (l ++ [c]) w' ∧ Below B w w' := by
  refine (Any.Builder_WriteByte lays167 bx167 B b (Lib.byteCells l) c.toNat w h (by rw [Lib.byteCells_length]; exact hlen) hBw).mono fun e w' ⟨he, hb, hl⟩ => ⟨he, .inr ?_, hl⟩
  have e1 : Lib.byteCells (l ++ [c]) = Lib.byteCells l ++ [.int .u8 c.toNat] := by simp [Lib.byteCells]
  rw [e1]; exact hb
theorem builderStringAt (B b : Nat) (l : List UInt8) (w : World) (h : BuildAt B b l w) (hBw : B ≤ w.heap.size) :
    Calls Tryz.prog 30 #[.pointer (some ⟨b, 0, none⟩)] w fun e w' => e = .returned (.string (bytesOf l)) ∧ Below B w w' := Any.Builder_String_any lays169 bx169 B b l w h hBw
end Go.Proofs.YteigigepmoicaaaGreatDoor
