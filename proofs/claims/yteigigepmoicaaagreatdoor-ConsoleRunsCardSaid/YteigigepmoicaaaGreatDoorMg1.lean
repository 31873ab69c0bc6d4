/- Small laws of my own that the walks of this seat share. The console's words, numbers, digits: plain functions over lists of bytes. Slices of bytes that a call makes by appending. withyref0.Decimal: walked. The law's decimal, bytes: walked. -/
import Derived.WalkKit
import Derived.WalkSpells
import Derived.WalkLawsBesides
import Derived.Deep.WholeRow
import Derived.Lib.Hide
import Derived.Lib.Strings
import Derived.Laws.IdiomStrings
import Derived.Lib.Atoi
import Derived.Lib.ItoaNum
import Derived.Lib.SlTrimSet
import Derived.Test.YteigigepmoicaaaGreatDoorRows
import Derived.Lib.UnsafeStr
import Derived.Laws.AppendOwnNone
/-! Small laws of my own that the walks of this seat share. -/
namespace Go.Proofs.YteigigepmoicaaaGreatDoor
open Go.RowKit
theorem seqB {w w1 w2 : World} (h : Below w.heap.size w w1) (k : Below w1.heap.size w1 w2) : Below w.heap.size w w2 := h.trans (k.mono h.size)
theorem allocB {w w1 : World} (h : Below w.heap.size w w1) (o : Obj) : Below w.heap.size w (w1.alloc o) := h.alloc h.size o
theorem drewB {w w1 : World} (h : Below w.heap.size w w1) : Below w.heap.size w w1.drew := h.drew
theorem bcell {W w1 : World} (hb : Below W.heap.size W w1) : (∀ b o, b < W.heap.size → w1.cell? ⟨b, o, none⟩ = W.cell? ⟨b, o, none⟩) ∧ (∀ b o, b < W.heap.size → w1.frozen? ⟨b, o, none⟩ = W.frozen? ⟨b, o, none⟩) :=
  ⟨fun b o h => hb.cell (p := ⟨b, o, none⟩) h, fun b o h => hb.frozen (p := ⟨b, o, none⟩) h⟩
theorem below_setRow {B : Nat} {a w : World} (h : Below B a w) (g : Nat) (cs : Array Value) (hg : B ≤ g) : Below B a (w.setRow g cs) :=
  h.trans ⟨rfl, rfl, rfl, by simp, fun k hk => setRow_other w g k cs (by omega)⟩
/-- a whole row stored into the block that was made last -/
theorem wpList_store_new {P : Program} {ops : Array Oper} {rest : List Oper} {o : Oper} {a : Act} {w : World} {Q : Exit → Act → World → Prop} (hgd : o.guard = none) (ty : TypeId) (x y : Operand) (ho : o.op = .store ty x y)
    (cells : Array Value) (hx : a.eval x = .pointer (some ⟨w.heap.size, 0, none⟩)) (hy : a.eval y = .agg cells) (t : TypeId) (old : Array Value)
    (hi : (P.info? ty).map (·.size) = some cells.size) (hold : old.size = cells.size) (h1 : cells.all (·.oneCell') = true)
    (h : wpList P ops Q rest (a.put o.dst undef) (w.alloc (.cells cells t))) : wpList P ops Q (o :: rest) a (w.alloc (.cells old t)) :=
  wpList_store_row hgd ty x y ho w.heap.size cells hx hy t old (heap_alloc_last w _) hi hold h1 (by rw [World.setRow_alloc_new]; exact h)
/-! ### texts -/
def bytesOf (l : List UInt8) : ByteArray := ⟨l.toArray⟩
theorem len_toList (s : ByteArray) : s.data.toList.length = s.size := Array.length_toList
theorem extract_toList (s : ByteArray) (a b : Nat) : (s.extract a b).data.toList = (s.data.toList.drop a).take (b - a) := Lib.extract_data s a b
theorem prefix_size (s : ByteArray) (n : Nat) (h : n ≤ s.size) : (s.extract 0 n).size = n := by
  rw [← len_toList, extract_toList]; simp; omega
theorem ba_toList (s : ByteArray) : s.toList = s.data.toList := ByteArray.toList_eq s
theorem ba_beq_true {a b : ByteArray} (h : a.data.toList = b.data.toList) : (a.toList == b.toList) = true := by rw [ba_toList, ba_toList, h]; exact beq_self_eq_true _
theorem ba_beq_false {a b : ByteArray} (h : a.data.toList ≠ b.data.toList) : (a.toList == b.toList) = false := by rw [ba_toList, ba_toList]; exact beq_eq_false_iff_ne.2 h
theorem prefix_toList (s : ByteArray) (n : Nat) : (s.extract 0 n).data.toList = s.data.toList.take n := by rw [extract_toList]; simp
theorem prefix_bytes (s : ByteArray) (n : Nat) : s.extract 0 n = bytesOf (s.data.toList.take n) := by
  have := prefix_toList s n
  cases h : s.extract 0 n with
  | mk d => rw [h] at this; simp only at this; unfold bytesOf; rw [← this]
theorem bytesOf_toList (l : List UInt8) : (bytesOf l).data.toList = l := rfl
theorem bytesOf_size (l : List UInt8) : (bytesOf l).size = l.length := by simp [bytesOf, ByteArray.size]
theorem bytesOf_of (s : ByteArray) : bytesOf s.data.toList = s := by unfold bytesOf; cases s; simp
theorem bytesOf_inj {a b : List UInt8} (h : bytesOf a = bytesOf b) : a = b := by
  have := congrArg (·.data.toList) h; simpa [bytesOf] using this
theorem ba_ext {a b : ByteArray} (h : a.data.toList = b.data.toList) : a = b := by
  rw [← bytesOf_of a, ← bytesOf_of b, h]
theorem bytesOf_append (a b : List UInt8) : bytesOf a ++ bytesOf b = bytesOf (a ++ b) := ba_ext (by simp [bytesOf])
theorem strOfNums_bytes (xs : List Int) : strOfNums xs = bytesOf (xs.map fun n => UInt8.ofNat n.toNat) := rfl
/-- a row of bytes that was just made, as a text -/
theorem conv_row {P : Program} (w : World) (src dst e : TypeId) (hs : P.underlying src = some (.slice e)) (he : P.underlying e = some (.int .u8)) (hd : P.underlying dst = some .string)
    (xs : List Int) (n : Nat) (hn : xs.length = n) :
    (convert src dst (.slice (some ⟨w.heap.size, 0, none⟩) n n)).run P (w.alloc (.cells (xs.map (Value.int .u8)).toArray e)) = .ok (.string (strOfNums xs)) (w.alloc (.cells (xs.map (Value.int .u8)).toArray e)) := by
  refine run_convert_bytes_arg _ src e hs he w.heap.size 0 n n xs hn (fun i hi => ?_) dst hd
  rw [World.cell?_alloc_new]
  have h : i < xs.length := by omega
  simp [List.getD, h]
/-! ### a row of bytes that the call made out of a text -/
/-- a slice of integers that came in: nil, or a row of cap cells -/
def IsRow (k : IntKind) (w : World) (a : Option Addr) (len cap : Nat) (zs : List Int) : Prop :=
  (a = none ∧ len = 0 ∧ cap = 0 ∧ zs = []) ∨
  ∃ x, a = some x ∧ len ≤ cap ∧ cap ≤ maxLen ∧ zs.length = cap ∧ (∀ i, i < zs.length → w.cell? (x.add i) = some (.int k (zs.getD i 0))) ∧ ∀ n ∈ zs, (Lit.int k n).wf = true
def RowIs (w : World) (B : Nat) (e : TypeId) (l : List UInt8) : Prop :=
  ∃ row : Array Value, w.heap[B]? = some (.cells row e (row.size, row.size + 1)) ∧ l.length ≤ row.size ∧ ∀ j (h : j < l.length), row[j]? = some (.int .u8 (l[j].toNat : Int))
theorem RowIs.cell {w : World} {B : Nat} {e : TypeId} {l : List UInt8} (h : RowIs w B e l) {j : Nat} (hj : j < l.length) : w.cell? ⟨B, j, none⟩ = some (.int .u8 (l[j].toNat : Int)) := by
  obtain ⟨row, h1, _, h3⟩ := h
  simp [World.cell?, h1, h3 j hj]
theorem RowIs.frozen {w : World} {B : Nat} {e : TypeId} {l : List UInt8} (h : RowIs w B e l) {j : Nat} (hj : j < l.length) : w.frozen? ⟨B, j, none⟩ = false := by
  obtain ⟨row, h1, h2, _⟩ := h
  simp [World.frozen?, h1]; omega
theorem RowIs.set {w : World} {B : Nat} {e : TypeId} {l : List UInt8} (h : RowIs w B e l) {j : Nat} (hj : j < l.length) (b : UInt8) : RowIs (w.setCell ⟨B, j, none⟩ (.int .u8 (b.toNat : Int))) B e (l.set j b) := by
  obtain ⟨row, h1, h2, h3⟩ := h
  have hlt : B < w.heap.size := (Array.getElem?_eq_some_iff.1 h1).1
  refine ⟨row.setIfInBounds j (.int .u8 (b.toNat : Int)), ?_, by simpa using h2, ?_⟩
  · simp only [World.setCell, Array.getElem?_modify, if_true, h1, Option.map_some]
    simp
  · intro i hi
    rw [Array.getElem?_setIfInBounds]
    have hi' : i < l.length := by simpa using hi
    by_cases e : j = i
    · subst e
      rw [if_pos rfl, if_pos (by omega)]
      simp
    · rw [if_neg e, h3 i hi']
      simp [e]
theorem RowIs.same {w w' : World} {B : Nat} {e : TypeId} {l : List UInt8} (h : RowIs w B e l) (hh : w'.heap[B]? = w.heap[B]?) : RowIs w' B e l := by
  obtain ⟨row, h1, h2, h3⟩ := h
  exact ⟨row, hh.trans h1, h2, h3⟩
theorem RowIs.drew {w : World} {B : Nat} {e : TypeId} {l : List UInt8} (h : RowIs w B e l) : RowIs w.drew B e l := h.same rfl
theorem RowIs.lt {w : World} {B : Nat} {e : TypeId} {l : List UInt8} (h : RowIs w B e l) : B < w.heap.size := by
  obtain ⟨row, h1, _⟩ := h
  exact (Array.getElem?_eq_some_iff.1 h1).1
theorem RowIs.below {w w' : World} {B : Nat} {e : TypeId} {l : List UInt8} (h : RowIs w B e l) (hb : Below w.heap.size w w') : RowIs w' B e l := h.same (hb.block B h.lt)
theorem RowIs.conv {P : Program} {w : World} {B : Nat} {e : TypeId} {l : List UInt8} (h : RowIs w B e l) (src dst : TypeId) (hs : P.underlying src = some (.slice e)) (he : P.underlying e = some (.int .u8)) (hd : P.underlying dst = some .string) (n cap : Nat) (hn : n = l.length) :
    (convert src dst (.slice (some ⟨B, 0, none⟩) n cap)).run P w = .ok (.string (bytesOf l)) w := by
  subst hn
  refine run_convert_bytes_back w src dst e ⟨B, 0, none⟩ cap l hs he hd fun j hj => ?_
  have hadd : (⟨B, 0, none⟩ : Addr).add j = ⟨B, j, none⟩ := by unfold Addr.add; split <;> simp_all
  rw [hadd]; exact h.cell hj
theorem grownCap_le (w : World) (n e : Nat) : n ≤ grownCap w n 0 e := by
  unfold grownCap
  simp [Question.cut]
theorem rowIs_new (w : World) (s : ByteArray) (e : TypeId) (cap : Nat) : RowIs (w.alloc (.cells (bytesRow s cap) e ((bytesRow s cap).size, (bytesRow s cap).size + 1))) w.heap.size e s.data.toList := by
  refine ⟨bytesRow s cap, heap_alloc_last w _, ?_, fun j hj => ?_⟩
  · rw [len_toList]; simp [bytesRow]
  · have := bytesRow_at s cap j (by simpa using hj)
    simpa using this
/-! ### bits of ints -/
theorem ofInt_i64 (a : Nat) (ha : a < 9223372036854775808) : (BitVec.ofInt 64 (a : Int)).toNat = a := by
  rw [BitVec.toNat_ofInt]; omega
theorem i64_xor_nat (a b : Nat) (ha : a < 9223372036854775808) (hb : b < 9223372036854775808) : bits .xor .i64 (a : Int) (b : Int) = ((a ^^^ b : Nat) : Int) := by
  have hx : a ^^^ b < 2 ^ 63 := Nat.xor_lt_two_pow (by omega) (by omega)
  show IntKind.i64.wrap ((BitVec.ofInt 64 (a : Int) ^^^ BitVec.ofInt 64 (b : Int)).toNat : Int) = _
  rw [BitVec.toNat_xor, ofInt_i64 a ha, ofInt_i64 b hb, IntKind.wrap_i64]
  omega
theorem i64_or_nat (a b : Nat) (ha : a < 9223372036854775808) (hb : b < 9223372036854775808) : bits .or .i64 (a : Int) (b : Int) = ((a ||| b : Nat) : Int) := by
  have hx : a ||| b < 2 ^ 63 := Nat.or_lt_two_pow (by omega) (by omega)
  show IntKind.i64.wrap ((BitVec.ofInt 64 (a : Int) ||| BitVec.ofInt 64 (b : Int)).toNat : Int) = _
  rw [BitVec.toNat_or, ofInt_i64 a ha, ofInt_i64 b hb, IntKind.wrap_i64]
  omega
theorem i64_and_nat (a b : Nat) (ha : a < 9223372036854775808) (hb : b < 9223372036854775808) : bits .and .i64 (a : Int) (b : Int) = ((a &&& b : Nat) : Int) := by
  have hx : a &&& b < 2 ^ 63 := Nat.and_lt_two_pow _ (by omega)
  show IntKind.i64.wrap ((BitVec.ofInt 64 (a : Int) &&& BitVec.ofInt 64 (b : Int)).toNat : Int) = _
  rw [BitVec.toNat_and, ofInt_i64 a ha, ofInt_i64 b hb, IntKind.wrap_i64]
  omega
/-- the low k bits of any int -/
theorem i64_low (n : Int) (k : Nat) (hk : k < 63) : bits .and .i64 n ((2 ^ k - 1 : Nat) : Int) = n % ((2 ^ k : Nat) : Int) := by
  have hp : 2 ^ k ≤ 2 ^ 62 := Nat.pow_le_pow_right (by omega) (by omega)
  have hp0 : 0 < 2 ^ k := Nat.two_pow_pos k
  have h1 : (BitVec.ofInt 64 ((2 ^ k - 1 : Nat) : Int)).toNat = 2 ^ k - 1 := ofInt_i64 _ (by omega)
  have hd : 2 ^ 64 = 2 ^ k * 2 ^ (64 - k) := by rw [← Nat.pow_add]; congr 1; omega
  have key : (BitVec.ofInt 64 n &&& BitVec.ofInt 64 ((2 ^ k - 1 : Nat) : Int)).toNat = (n % ((2 ^ 64 : Nat) : Int)).toNat % 2 ^ k := by
    rw [BitVec.toNat_and, BitVec.toNat_ofInt, h1, Nat.and_two_pow_sub_one_eq_mod]
  show IntKind.i64.wrap ((BitVec.ofInt 64 n &&& BitVec.ofInt 64 ((2 ^ k - 1 : Nat) : Int)).toNat : Nat) = _
  have e2 : (((n % ((2 ^ 64 : Nat) : Int)).toNat % 2 ^ k : Nat) : Int) = n % ((2 ^ k : Nat) : Int) := by
    rw [Int.natCast_emod, Int.toNat_of_nonneg (Int.emod_nonneg _ (by omega)), hd, Int.natCast_mul, Int.emod_emod_of_dvd _ (Int.dvd_mul_right _ _)]
  have hl : (((n % ((2 ^ 64 : Nat) : Int)).toNat % 2 ^ k : Nat)) < 2 ^ k := Nat.mod_lt _ hp0
  rw [key, IntKind.wrap_i64, ← e2]
  omega
end Go.Proofs.YteigigepmoicaaaGreatDoor
/-! The console's words, numbers, digits: plain functions over lists of bytes. -/
namespace Go.Proofs.YteigigepmoicaaaGreatDoor
open Go.RowKit
set_option linter.unusedVariables false
set_option linter.unusedSimpArgs false
/-! ### words, lines -/
def blankB (c : UInt8) : Bool := c == 32 || c == 9
def wordsC : List UInt8 → List UInt8 → List (List UInt8)
  | [], cur => if cur.isEmpty then [] else [cur]
  | c :: r, cur => if blankB c then (if cur.isEmpty then wordsC r [] else cur :: wordsC r []) else wordsC r (cur ++ [c])
def wordsM (l : List UInt8) : List (List UInt8) := wordsC l []
def cutN (n : UInt8) : List UInt8 → List (List UInt8)
  | [] => [[]]
  | c :: l => if c = n then [] :: cutN n l else match cutN n l with
    | [] => [[c]]
    | p :: ps => (c :: p) :: ps
theorem cutN_ne (n : UInt8) (l : List UInt8) : cutN n l ≠ [] := by
  cases l with
  | nil => simp [cutN]
  | cons c l =>
    unfold cutN
    split
    · simp
    · split <;> simp
theorem wordsC_plain : ∀ (l cur : List UInt8), (∀ c ∈ l, blankB c = false) → wordsC l cur = if (cur ++ l).isEmpty then [] else [cur ++ l]
  | [], cur, _ => by simp [wordsC]
  | c :: l, cur, h => by
    rw [wordsC, h c (by simp), if_neg (by simp), wordsC_plain l _ (fun x hx => h x (by simp [hx]))]
    simp
theorem wordsC_word : ∀ (l cur r : List UInt8) (b : UInt8), (∀ c ∈ l, blankB c = false) → blankB b = true → cur ++ l ≠ [] → wordsC (l ++ b :: r) cur = (cur ++ l) :: wordsC r []
  | [], cur, r, b, _, hb, hne => by
    rw [List.append_nil] at hne ⊢
    rw [List.nil_append, wordsC, hb, if_pos rfl, if_neg (by simpa using hne)]
  | c :: l, cur, r, b, h, hb, hne => by
    rw [List.cons_append, wordsC, h c (by simp), if_neg (by simp), wordsC_word l _ r b (fun x hx => h x (by simp [hx])) hb (by simp)]
    simp
/-- a word, a blank, more -/
theorem words_cons (l r : List UInt8) (h : ∀ c ∈ l, blankB c = false) (hne : l ≠ []) : wordsM (l ++ 32 :: r) = l :: wordsM r := by
  unfold wordsM
  rw [wordsC_word l [] r 32 h (by decide) (by simpa using hne)]
  rfl
theorem words_one (l : List UInt8) (h : ∀ c ∈ l, blankB c = false) (hne : l ≠ []) : wordsM l = [l] := by
  unfold wordsM
  rw [wordsC_plain l [] h]
  simp [hne]
theorem cutN_plain (n : UInt8) : ∀ (l : List UInt8), (∀ c ∈ l, c ≠ n) → cutN n l = [l]
  | [], _ => rfl
  | c :: l, h => by rw [cutN, if_neg (h c (by simp)), cutN_plain n l (fun x hx => h x (by simp [hx]))]
theorem cutN_app (n : UInt8) : ∀ (l r : List UInt8), (∀ c ∈ l, c ≠ n) → cutN n (l ++ n :: r) = l :: cutN n r
  | [], r, _ => by simp [cutN]
  | c :: l, r, h => by rw [List.cons_append, cutN, if_neg (h c (by simp)), cutN_app n l r (fun x hx => h x (by simp [hx]))]
/-! ### numbers -/
def decF : Nat → Nat → List UInt8
  | 0, _ => []
  | f + 1, u => if u < 10 then [UInt8.ofNat (48 + u)] else decF f (u / 10) ++ [UInt8.ofNat (48 + u % 10)]
theorem decF_eq : ∀ (f u : Nat), u < 10 ^ f → 1 ≤ f → decF f u = Lib.decDigits u
  | 0, _, _, h => by omega
  | f + 1, u, h, _ => by
    rw [Lib.decDigits]
    unfold decF
    by_cases h10 : u < 10
    · rw [if_pos h10, dif_pos h10]
    · rw [if_neg h10, dif_neg h10]
      cases f with
      | zero => omega
      | succ f => rw [decF_eq (f + 1) (u / 10) (by rw [Nat.pow_succ] at h; omega) (by omega)]
def itoaM (n : Int) : List UInt8 := if n < 0 then 45 :: decF 20 n.natAbs else decF 20 n.toNat
theorem itoaM_eq (n : Int) (h1 : -9223372036854775808 ≤ n) (h2 : n ≤ 9223372036854775807) : itoaM n = Lib.itoa n := by
  unfold itoaM Lib.itoa
  split
  · rw [decF_eq 20 _ (by omega) (by omega)]
  · rw [decF_eq 20 _ (by omega) (by omega)]
def digB (c : UInt8) : Bool := decide (48 ≤ c.toNat) && decide (c.toNat ≤ 57)
def decVal (x : Nat) (l : List UInt8) : Nat := l.foldl (fun x c => 10 * x + (c.toNat - 48)) x
def unsign (w : List UInt8) : List UInt8 := if w.head? = some 45 then w.drop 1 else w
def numM (w : List UInt8) : Option Int :=
  if 1 ≤ (unsign w).length ∧ (unsign w).length ≤ 10 ∧ (unsign w).all digB = true then some (if w.head? = some 45 then -(decVal 0 (unsign w) : Int) else (decVal 0 (unsign w) : Int)) else none
theorem unsign_eq (w : List UInt8) : Lib.trimPrefix w [45] = unsign w := by
  unfold Lib.trimPrefix unsign Lib.hasPrefix
  cases w with
  | nil => rfl
  | cons c w =>
    by_cases h : c = 45
    · subst h; simp [List.isPrefixOf]
    · simp [List.isPrefixOf, h, Ne.symm h]
theorem decFrom_all : ∀ (l : List UInt8) (x : Nat), l.all digB = true → Lib.decFrom x l = some (decVal x l)
  | [], x, _ => rfl
  | c :: l, x, h => by
    simp only [List.all_cons, Bool.and_eq_true] at h
    have hc := h.1
    unfold digB at hc
    simp only [Bool.and_eq_true, decide_eq_true_eq] at hc
    rw [Lib.decFrom, Lib.digitVal, if_pos hc]
    dsimp only
    rw [decFrom_all l _ h.2, Nat.mul_comm]
    rfl
def digitsB : List UInt8 := [48, 49, 50, 51, 52, 53, 54, 55, 56, 57]
theorem digits_contains (c : UInt8) : digitsB.contains c = digB c := by
  have : ∀ c : Fin 256, digitsB.contains (UInt8.ofNat c.val) = digB (UInt8.ofNat c.val) := by decide +kernel
  have h := this ⟨c.toNat, c.toNat_lt⟩
  simpa using h
theorem dropWhile_nil (p : UInt8 → Bool) : ∀ l : List UInt8, l.dropWhile p = [] ↔ l.all p = true
  | [] => by simp
  | c :: l => by
    rw [List.dropWhile_cons, List.all_cons]
    cases p c with
    | true => simp only [if_true, Bool.true_and]; exact dropWhile_nil p l
    | false => simp
theorem dropWhile_all (p : UInt8 → Bool) : ∀ l : List UInt8, (l.dropWhile p).all p = true → l.dropWhile p = []
  | [], _ => rfl
  | c :: l, h => by
    rw [List.dropWhile_cons] at h ⊢
    cases hc : p c with
    | true => rw [hc] at h; simp only [if_true] at h ⊢; exact dropWhile_all p l h
    | false => rw [hc] at h; simp [hc] at h
theorem trim_digits (l : List UInt8) : Lib.trimS l digitsB = [] ↔ l.all digB = true := by
  unfold Lib.trimS Lib.trimLeftS Lib.trimRightS
  have hf : (fun x => digitsB.contains x) = digB := funext digits_contains
  rw [hf, dropWhile_nil, List.all_reverse]
  constructor
  · intro h
    have := (dropWhile_nil digB l.reverse).1 (dropWhile_all digB _ h)
    rwa [List.all_reverse] at this
  · intro h
    rw [(dropWhile_nil digB l.reverse).2 (by rw [List.all_reverse]; exact h)]
    rfl
theorem atoi_num (w : List UInt8) (h1 : 1 ≤ (unsign w).length) (h3 : (unsign w).all digB = true) : Lib.atoi w = some (if w.head? = some 45 then -(decVal 0 (unsign w) : Int) else (decVal 0 (unsign w) : Int)) := by
  cases w with
  | nil => simp [unsign] at h1
  | cons c w =>
    by_cases hc : c = 45
    · subst hc
      have hu : unsign (45 :: w) = w := rfl
      rw [hu] at h1 h3 ⊢
      rw [Lib.atoi, if_pos (by rfl), Lib.decNat, if_neg (by cases w <;> simp at h1 ⊢), decFrom_all _ _ h3]
      rfl
    · have hn : ¬ ((c :: w).head? = some (45 : UInt8)) := fun e => hc (Option.some.inj e)
      have hu : unsign (c :: w) = c :: w := by unfold unsign; rw [if_neg hn]
      rw [hu] at h1 h3 ⊢
      rw [if_neg hn]
      have hd : digB c = true := List.all_eq_true.1 h3 c (by simp)
      have h43 : c ≠ 43 := fun e => by subst e; revert hd; decide
      rw [Lib.atoi, if_neg (by simpa using hc), if_neg (by simpa using h43), Lib.decNat, if_neg (by simp), decFrom_all _ _ h3]
      rfl
theorem decVal_lt : ∀ (l : List UInt8) (x : Nat), l.all digB = true → decVal x l < (x + 1) * 10 ^ l.length
  | [], x, _ => by simp [decVal]
  | c :: l, x, h => by
    simp only [List.all_cons, Bool.and_eq_true] at h
    have hc := h.1
    unfold digB at hc
    simp only [Bool.and_eq_true, decide_eq_true_eq] at hc
    have := decVal_lt l (10 * x + (c.toNat - 48)) h.2
    rw [show decVal x (c :: l) = decVal (10 * x + (c.toNat - 48)) l from rfl, List.length_cons, Nat.pow_succ]
    refine Nat.lt_of_lt_of_le this ?_
    rw [Nat.mul_comm (10 ^ l.length) 10, ← Nat.mul_assoc]
    exact Nat.mul_le_mul_right _ (by omega)
theorem numM_range {w : List UInt8} {x : Int} (h : numM w = some x) : -10000000000 < x ∧ x < 10000000000 := by
  unfold numM at h
  split at h
  · rename_i hc
    have hl := decVal_lt _ 0 hc.2.2
    have hp : 10 ^ (unsign w).length ≤ 10 ^ 10 := Nat.pow_le_pow_right (by decide) hc.2.1
    simp only [Nat.zero_add, Nat.one_mul] at hl
    have hv : decVal 0 (unsign w) < 10000000000 := by omega
    have e := Option.some.inj h
    split at e <;> omega
  · cases h
/-! ### digits -/
def hexd (n : Nat) : UInt8 := if n < 10 then UInt8.ofNat (48 + n) else UInt8.ofNat (87 + n)
def hexL (l : List UInt8) : List UInt8 := l.flatMap fun c => [hexd (c.toNat / 16), hexd (c.toNat % 16)]
def hexM (l : List UInt8) : List UInt8 := if l.isEmpty then [45] else hexL l
def unhexd (c : UInt8) : Option Nat := if 48 ≤ c.toNat ∧ c.toNat ≤ 57 then some (c.toNat - 48) else if 97 ≤ c.toNat ∧ c.toNat ≤ 102 then some (c.toNat - 87) else none
def pairsM : List UInt8 → Option (List UInt8)
  | [] => some []
  | [_] => none
  | a :: b :: r => match unhexd a, unhexd b, pairsM r with
    | some x, some y, some t => some (UInt8.ofNat (16 * x + y) :: t)
    | _, _, _ => none
def unhexM (s : List UInt8) : Option (List UInt8) := if s = [45] then some [] else if s = [] then none else pairsM s
theorem unhexd_hexd : ∀ n : Fin 16, unhexd (hexd n.val) = some n.val := by decide +kernel
theorem pairs_hex : ∀ l : List UInt8, pairsM (hexL l) = some l
  | [] => rfl
  | c :: l => by
    have h1 := unhexd_hexd ⟨c.toNat / 16, by have := c.toNat_lt; omega⟩
    have h2 := unhexd_hexd ⟨c.toNat % 16, by omega⟩
    dsimp only at h1 h2
    rw [show hexL (c :: l) = hexd (c.toNat / 16) :: hexd (c.toNat % 16) :: hexL l from rfl, pairsM, h1, h2, pairs_hex l]
    dsimp only
    rw [show 16 * (c.toNat / 16) + c.toNat % 16 = c.toNat by omega]
    simp
theorem hexd_plain : ∀ n : Fin 16, blankB (hexd n.val) = false ∧ hexd n.val ≠ 10 ∧ hexd n.val ≠ 45 := by decide +kernel
theorem hexL_plain (l : List UInt8) : ∀ c ∈ hexL l, blankB c = false ∧ c ≠ 10 ∧ c ≠ 45 := by
  intro c hc
  simp only [hexL, List.mem_flatMap, List.mem_cons, List.not_mem_nil, or_false] at hc
  obtain ⟨x, _, h | h⟩ := hc
  · have := hexd_plain ⟨x.toNat / 16, by have := x.toNat_lt; omega⟩
    rw [h]; exact this
  · have := hexd_plain ⟨x.toNat % 16, by omega⟩
    rw [h]; exact this
theorem hexM_plain (l : List UInt8) : ∀ c ∈ hexM l, blankB c = false ∧ c ≠ 10 := by
  intro c hc
  unfold hexM at hc
  split at hc
  · simp only [List.mem_singleton] at hc
    subst hc
    decide
  · have := hexL_plain l c hc
    exact ⟨this.1, this.2.1⟩
theorem hexM_ne (l : List UInt8) : hexM l ≠ [] := by
  unfold hexM
  cases l with
  | nil => simp
  | cons c l => simp [hexL]
theorem unhex_hex (l : List UInt8) : unhexM (hexM l) = some l := by
  unfold hexM
  cases l with
  | nil => rfl
  | cons c l =>
    have h0 : hexL (c :: l) ≠ [45] := fun e => by
      have := congrArg List.length e
      simp [hexL] at this
    have h1 : hexL (c :: l) ≠ [] := by simp [hexL]
    rw [if_neg (by simp)]
    unfold unhexM
    rw [if_neg h0, if_neg h1, pairs_hex]
end Go.Proofs.YteigigepmoicaaaGreatDoor
/-! Slices of bytes that a call makes by appending. -/
namespace Go.Proofs.YteigigepmoicaaaGreatDoor
open Go.RowKit
theorem infoU8 : (Tryz.prog.info? 5).map (fun i => (i.zero, i.size, i.bytes)) = some (some (.int .u8 0), 1, 1) := by kernel_rfl
/-- v is a slice of bytes of the call's own (nil, or from block base on), that reads as l -/
def Own (w : World) (base : Nat) (v : Value) (l : List UInt8) : Prop := w.ownsRow base 5 1 v l.length (Lib.byteCells l)
theorem Own.nil (w : World) (base : Nat) : Own w base (.slice none 0 0) [] := ⟨rfl, .inl ⟨rfl, rfl⟩⟩
theorem Own.block {w : World} {base : Nat} {v : Value} {l : List UInt8} (h : Own w base v l) : ∀ k, v.ownBlock = some k → base ≤ k := by
  intro k hk
  rcases h.2 with ⟨rfl, _⟩ | ⟨g, cap, cur, rfl, hg, _⟩
  · cases hk
  · cases hk; exact hg
theorem Own.below {w w' : World} {base : Nat} {v : Value} {l : List UInt8} (h : Own w base v l) (hb : Below w.heap.size w w') : Own w' base v l := by
  refine ⟨h.1, ?_⟩
  rcases h.2 with h2 | ⟨g, cap, cur, hv, hg, hh, r⟩
  · exact .inl h2
  · exact .inr ⟨g, cap, cur, hv, hg, (hb.block g (Array.getElem?_eq_some_iff.1 hh).1).trans hh, r⟩
theorem Own.form {w : World} {base : Nat} {v : Value} {l : List UInt8} (h : Own w base v l) : ∃ a c, v = .slice a l.length c := by
  rcases h.2 with ⟨rfl, h0⟩ | ⟨g, cap, cur, rfl, _⟩
  · exact ⟨none, 0, by rw [h0]⟩
  · exact ⟨_, _, rfl⟩
theorem Own.conv {w : World} {base : Nat} {v : Value} {l : List UInt8} (h : Own w base v l) : (convert 27 9 v).run Tryz.prog w = .ok (.string (bytesOf l)) w := by
  rcases h.2 with ⟨rfl, h0⟩ | ⟨g, cap, cur, rfl, hg, hh, hn, hm, hs, ht⟩
  · have : l = [] := List.eq_nil_of_length_eq_zero h0
    subst this
    exact run_convert_bytes_nil w _ _ Tryz.underlying27 Tryz.underlying5 0 0 _ Tryz.underlying9
  · refine run_convert_bytes_back w _ _ _ ⟨g, 0, none⟩ cap l Tryz.underlying27 Tryz.underlying5 Tryz.underlying9 fun j hj => ?_
    have hadd : (⟨g, 0, none⟩ : Addr).add j = ⟨g, j, none⟩ := by unfold Addr.add; split <;> simp_all
    rw [hadd]
    have e : cur[j]? = (Lib.byteCells l)[j]? := by
      rw [← ht, List.getElem?_take, if_pos (by omega)]; simp
    simp [World.cell?, hh, e, Lib.byteCells, hj]
/-- append of bytes that were just laid in a row of their own -/
theorem wpList_app {ops : Array Oper} {rest : List Oper} {o : Oper} {a : Act} {w : World} {Q : Exit → Act → World → Prop} (hgd : o.guard = none) (s x : Operand)
    (ho : o.op = .call { callee := .builtin .append, args := #[s, x], argTypes := #[27, 27] })
    (W0 : World) (v : Value) (l news : List UInt8) (n c : Nat) (cells : Array Value) (hown : Own w W0.heap.size v l) (hs : a.eval s = v) (hx : a.eval x = .slice (some ⟨w.heap.size, 0, none⟩) n c)
    (hc : cells = (Lib.byteCells news).toArray) (hn : n = news.length) (hlen : l.length + news.length ≤ 140737488355328) (hbel : Below W0.heap.size W0 w)
    (h : ∀ v' w', Own w' W0.heap.size v' (l ++ news) → Below W0.heap.size W0 w' → wpList Tryz.prog ops Q rest (a.put o.dst v') w') :
    wpList Tryz.prog ops Q (o :: rest) a (w.alloc (.cells cells 5)) := by
  subst hc; subst hn
  obtain ⟨i0, hi, hz0, hz1, hz2⟩ := info_parts infoU8
  have hb2 : Below W0.heap.size W0 (w.alloc (.cells (Lib.byteCells news).toArray 5)) := allocB hbel _
  refine wpList_append_own _ hgd s x _ ho W0.heap.size 5 i0 (.int .u8 0) 1 1 Tryz.underlying27 hi hz0 hz1 hz2 rfl (by decide) v l.length (Lib.byteCells l) hs (hown.below ((Below.refl _ _).alloc (Nat.le_refl _) _)) ⟨w.heap.size, 0, none⟩ news.length c (Lib.byteCells news) hx (by rw [Lib.byteCells_length, Nat.mul_one]) ?_ ?_ ?_ ?_ ?_ ?_
  · intro j u hu
    have hadd : (⟨w.heap.size, 0, none⟩ : Addr).add j = ⟨w.heap.size, j, none⟩ := by unfold Addr.add; split <;> simp_all
    rw [hadd, World.cell?_alloc_new]
    simpa using hu
  · intro u hu
    obtain ⟨b, _, rfl⟩ := List.mem_map.1 hu
    rfl
  · simp only [maxLen]; omega
  · omega
  · exact hb2.size
  · intro v' w' hown' hg _
    refine h v' w' ?_ (hb2.grown hg hb2.size hown.block)
    have e : Lib.byteCells (l ++ news) = Lib.byteCells l ++ Lib.byteCells news := by simp [Lib.byteCells]
    unfold Own
    rw [e, List.length_append]
    exact hown'
end Go.Proofs.YteigigepmoicaaaGreatDoor
/-! withyref0.Decimal: walked. -/
namespace Go.Proofs.YteigigepmoicaaaGreatDoor
open Go.RowKit
set_option linter.unusedVariables false
set_option linter.unusedSimpArgs false
/-- append([]byte{c}, out...) -/
theorem wpList_appFront {ops : Array Oper} {rest : List Oper} {o : Oper} {a : Act} {w : World} {Q : Exit → Act → World → Prop} (hgd : o.guard = none) (s x : Operand)
    (ho : o.op = .call { callee := .builtin .append, args := #[s, x], argTypes := #[27, 27] })
    (W0 : World) (v2 : Value) (c : UInt8) (l2 : List UInt8) (n : Int) (k : Nat) (hn : n = c.toNat) (hv2 : Own w W0.heap.size v2 l2) (hs : a.eval s = .slice (some ⟨w.heap.size, 0, none⟩) 1 k) (hk : k = 1) (hx : a.eval x = v2)
    (hlen : l2.length + 1 ≤ 140737488355328) (hbel : Below W0.heap.size W0 w)
    (h : ∀ v' w', Own w' W0.heap.size v' (c :: l2) → Below W0.heap.size W0 w' → wpList Tryz.prog ops Q rest (a.put o.dst v') w') :
    wpList Tryz.prog ops Q (o :: rest) a (w.alloc (.cells #[.int .u8 n] 5)) := by
  subst hn hk
  obtain ⟨i0, hi, hz0, hz1, hz2⟩ := info_parts infoU8
  have hb2 : Below W0.heap.size W0 (w.alloc (.cells #[.int .u8 c.toNat] 5)) := allocB hbel _
  have hrow : (w.alloc (.cells #[.int .u8 c.toNat] 5)).ownsRow W0.heap.size 5 1 (.slice (some ⟨w.heap.size, 0, none⟩) 1 1) 1 (Lib.byteCells [c]) :=
    ⟨rfl, .inr ⟨w.heap.size, 1, #[.int .u8 c.toNat], rfl, hbel.size, (MapKept.heap_alloc w _).1, by decide, by decide, rfl, rfl⟩⟩
  have hv3 := hv2.below ((Below.refl _ w).alloc (Nat.le_refl _) (.cells #[.int .u8 c.toNat] 5))
  rcases hv3.2 with ⟨rfl, h0⟩ | ⟨g, cap, cur, rfl, hg, hh, hn, hm, hcs, htk⟩
  · obtain rfl : l2 = [] := List.eq_nil_of_length_eq_zero h0
    exact wpList_append_own_none hgd s x _ ho W0.heap.size 5 i0 1 Tryz.underlying27 hi _ 1 _ hs hrow hx (h _ _ hrow hb2)
  · refine wpList_append_own_at _ hgd s x _ ho W0.heap.size 5 i0 (.int .u8 0) 1 1 Tryz.underlying27 hi hz0 hz1 hz2 rfl (by decide) _ 1 (Lib.byteCells [c]) hs hrow ⟨g, 0, none⟩ l2.length cap (Lib.byteCells l2) hx (by rw [Lib.byteCells_length, Nat.mul_one]) ?_ ?_ ?_ ?_ hb2.size ?_
    · intro j u hu
      have hadd : (⟨g, 0, none⟩ : Addr).add j = ⟨g, j, none⟩ := by unfold Addr.add; split <;> simp_all
      rw [hadd]
      have hj : j < l2.length := by have := (List.getElem?_eq_some_iff.1 hu).1; rwa [Lib.byteCells_length] at this
      have e : cur[j]? = (Lib.byteCells l2)[j]? := by
        rw [← htk, List.getElem?_take, if_pos (by omega)]; simp
      simp [World.cell?, hh, e, hu]
    · intro u hu
      obtain ⟨b, _, rfl⟩ := List.mem_map.1 hu
      rfl
    · simp only [maxLen]; omega
    · omega
    · intro v' w' hown' hgr _ _
      refine h v' w' ?_ (hb2.grown hgr hb2.size (fun k hk => by cases hk; exact hbel.size))
      have e : Lib.byteCells (c :: l2) = Lib.byteCells [c] ++ Lib.byteCells l2 := by simp [Lib.byteCells]
      unfold Own
      rw [e, List.length_cons, Nat.add_comm]
      exact hown'
theorem decF_len' : ∀ (f u : Nat), (decF f u).length ≤ f
  | 0, u => by simp [decF]
  | f + 1, u => by
    unfold decF
    split
    · simp
    · have := decF_len' f (u / 10); simp; omega
def decU (u : Nat) : List UInt8 := if u = 0 then [] else decF 20 u
theorem dec_step (u : Nat) (h : u < 10 ^ 20) : decF 20 u = decU (u / 10) ++ [UInt8.ofNat (48 + u % 10)] := by
  rw [decF_eq 20 u h (by omega), Lib.decDigits]
  unfold decU
  by_cases h10 : u < 10
  · rw [dif_pos h10, if_pos (by omega), Nat.mod_eq_of_lt h10]; rfl
  · rw [dif_neg h10, if_neg (by omega), decF_eq 20 (u / 10) (by omega) (by omega)]
theorem dig_wrap (u : Nat) : (48 + ((u : Int) % 10)) = ((UInt8.ofNat (48 + u % 10)).toNat : Int) := by
  have h : ∀ k : Fin 10, (UInt8.ofNat (48 + k.val)).toNat = 48 + k.val := by decide +kernel
  have := h ⟨u % 10, by omega⟩
  dsimp only at this
  rw [this]
  omega
def decMs (v u : Value) : Nat := 2 * (intOf u).toNat + (match v with | .slice _ n _ => if n = 0 then 1 else 0 | _ => 0)
def DecRel (w : World) (U : Nat) (u v : Value) (wr : World) : Prop := ∃ (x : Nat) (acc : List UInt8), u = .int .u64 (x : Nat) ∧ x ≤ U ∧ Own wr w.heap.size v acc ∧ acc.length ≤ 20 ∧ Hid ((acc = [] ∧ x = U) ∨ (acc ≠ [] ∧ decF 20 U = decU x ++ acc)) ∧ Below w.heap.size w wr
set_option maxRecDepth 100000 in
set_option maxHeartbeats 4000000 in
theorem decimal_any (n : Int) (h0 : 0 ≤ n) (h1 : n ≤ 9223372036854775807) (w : World) :
    Calls Tryz.prog 15 #[.int .i64 n] w fun e w' => e = .returned (.string (bytesOf (itoaM n))) ∧ Below w.heap.size w w' := by
  obtain ⟨U, rfl⟩ : ∃ U : Nat, n = U := ⟨n.toNat, by omega⟩
  have hD : itoaM (U : Int) = decF 20 U := by unfold itoaM; rw [if_neg (by omega)]; rfl
  have HD := Lib.hid hD
  have hneg : ¬ (U : Int) < 0 := by omega
  have hwr : IntKind.u64.wrap (U : Int) = U := by rw [IntKind.wrap_u64]; omega
  clear hD
  go_enter Tryz.func15, Tryz.ntmps15
  go_wp2_with fail
  go_loopw [3, 4] (fun u v wr => DecRel w U u v wr) (fun u v _ => decMs v u)
  case atStart => exact ⟨U, [], rfl, Nat.le_refl _, Own.nil _ _, by simp, Lib.hid (.inl ⟨rfl, rfl⟩), Below.refl _ _⟩
  case round =>
    obtain ⟨x, acc, rfl, hxU, hown, hal, HA, hbl⟩ := hrel
    obtain ⟨va, vc, rfl⟩ := hown.form
    by_cases hx : 0 < x
    · have hxi : (0 : Int) < (x : Int) := by omega
      have hu20 : U < 10 ^ 20 := by omega
      have HS : Hid ((decF 20 U = decU (x / 10) ++ UInt8.ofNat (48 + x % 10) :: acc) ∧ acc.length + 1 ≤ 20) := Lib.hid (by
        rcases HA.out with ⟨rfl, rfl⟩ | ⟨hne, he⟩
        · exact ⟨dec_step x hu20, by simp⟩
        · have e2 : decF 20 U = decU (x / 10) ++ UInt8.ofNat (48 + x % 10) :: acc := by
            rw [he]
            unfold decU
            rw [if_neg (by omega), dec_step x (by omega)]
            unfold decU
            simp
          refine ⟨e2, ?_⟩
          have h3 := decF_len' 20 U
          rw [e2, List.length_append, List.length_cons] at h3
          omega)
      go_wp2_with (at_builtin; refine wpList_appFront rfl _ _ rfl w _ (UInt8.ofNat (48 + x % 10)) acc _ _ (dig_wrap x) hown rfl rfl rfl (by omega) hbl ?_; intro v' w1 hown1 hbl1)
      go_roundw
      case rel => exact ⟨x / 10, _, by go_num, by omega, hown1, by have := HS.out.2; simpa using this, Lib.hid (.inr ⟨by simp, HS.out.1⟩), hbl1⟩
      case measure =>
        obtain ⟨a', c', rfl⟩ := hown1.form
        simp [intOf, decMs]
        split <;> omega
    · obtain rfl : x = 0 := by omega
      by_cases ha : acc = []
      · subst ha
        obtain rfl : U = 0 := by
          rcases HA.out with ⟨_, h⟩ | ⟨h, _⟩
          · exact h.symm
          · exact absurd rfl h
        have HS : Hid (decF 20 0 = [UInt8.ofNat (48 + 0 % 10)]) := Lib.hid (by decide)
        have hdw := dig_wrap 0
        go_wp2_with (at_builtin; refine wpList_appFront rfl _ _ rfl w _ (UInt8.ofNat (48 + 0 % 10)) [] _ _ rfl hown rfl rfl rfl (by simp) hbl ?_; intro v' w1 hown1 hbl1)
        go_roundw
        case rel => exact ⟨0, [UInt8.ofNat (48 + 0 % 10)], rfl, Nat.le_refl _, hown1, by decide, Lib.hid (.inr ⟨by decide, HS.out⟩), hbl1⟩
        case measure =>
          obtain ⟨a', c', rfl⟩ := hown1.form
          simp [intOf, decMs]
      · have HE : Hid (decF 20 U = acc) := Lib.hid (by
          rcases HA.out with ⟨h, _⟩ | ⟨_, h⟩
          · exact absurd h ha
          · rw [h]; rfl)
        have hl1 : acc.length ≠ 0 := fun h => ha (List.eq_nil_of_length_eq_zero h)
        have hl0 : ((acc.length : Int) == 0) = false := by rw [beq_eq_false_iff_ne]; omega
        have hcv := hown.conv
        clear ha
        go_wp2_with fail
        go_ret
        exact ⟨by rw [HD.out, HE.out]; rfl, hbl⟩
end Go.Proofs.YteigigepmoicaaaGreatDoor
/-! The law's decimal, bytes: walked. -/
namespace Go.Proofs.YteigigepmoicaaaGreatDoor
open Go.RowKit
set_option linter.unusedVariables false
set_option linter.unusedSimpArgs false
theorem dec_more (l : List UInt8) (k : Nat) (h : k < l.length) : decVal 0 (l.take (k + 1)) = 10 * decVal 0 (l.take k) + (l[k].toNat - 48) := by
  unfold decVal
  rw [List.take_succ_eq_append_getElem h, List.foldl_append]
  rfl
theorem dig_more (l : List UInt8) (k : Nat) (h : k < l.length) : (l.take k).all digB = true → digB l[k] = true → (l.take (k + 1)).all digB = true := by
  intro h1 h2
  rw [List.take_succ_eq_append_getElem h, List.all_append, h1, List.all_cons, h2]
  rfl
theorem num_len {l u : List UInt8} (hu : unsign l = u) (h : u.length < 1 ∨ 10 < u.length) : numM l = none := by
  unfold numM
  rw [hu, if_neg (by omega)]
theorem num_bad {l u : List UInt8} (hu : unsign l = u) (k : Nat) (h : k < u.length) (hd : digB u[k] = false) : numM l = none := by
  unfold numM
  rw [hu, if_neg]
  rintro ⟨_, _, h3⟩
  have := List.all_eq_true.1 h3 u[k] (List.getElem_mem h)
  rw [hd] at this
  cases this
theorem num_good {l u : List UInt8} (hu : unsign l = u) (h1 : 1 ≤ u.length) (h2 : u.length ≤ 10) (h3 : u.all digB = true) : numM l = some (if l.head? = some 45 then -(decVal 0 u : Int) else (decVal 0 u : Int)) := by
  unfold numM
  rw [hu, if_pos ⟨h1, h2, h3⟩]
set_option maxRecDepth 100000 in
set_option maxHeartbeats 4000000 in
theorem ldecimal_any (s : ByteArray) (w : World) (hs : s.size ≤ 9223372036854775807) :
    Calls Tryz.prog 33 #[.string s] w fun e w' => ∃ x, e = .returned (.tuple #[.int .i64 x, .bool (numM s.data.toList).isSome]) ∧ (∀ v, numM s.data.toList = some v → x = v) ∧ w' = w := by
  by_cases hm : s.data.toList.head? = some 45
  · obtain ⟨r, hr⟩ : ∃ r, s.data.toList = 45 :: r := by
      cases hq : s.data.toList with
      | nil => rw [hq] at hm; cases hm
      | cons c r => rw [hq] at hm; cases hm; exact ⟨r, rfl⟩
    have hsz : s.size = r.length + 1 := by rw [← len_toList, hr]; rfl
    have hpos : 0 < s.size := by omega
    have p0 : (0 : Int) < s.size := by omega
    have p1 : s[0].toNat = 45 := by
      have e1 : s[0] = s.data.toList[0]'(by rw [len_toList]; exact hpos) := rfl
      rw [e1, List.getElem_of_eq hr]
      rfl
    have p1b : ((s[0].toNat : Int) == 45) = true := by rw [p1]; rfl
    obtain ⟨T, hT⟩ : ∃ T, s.extract 1 s.size = T := ⟨_, rfl⟩
    have hTl : T.data.toList = r := by
      rw [← hT, extract_toList, hr, List.drop_succ_cons, List.drop_zero, List.take_of_length_le (by omega)]
    have hTs : T.size = r.length := by rw [← len_toList, hTl]
    have hu : unsign s.data.toList = T.data.toList := by unfold unsign; rw [if_pos hm, hr, hTl]; rfl
    have hN0 : T.size < 1 ∨ 10 < T.size → numM s.data.toList = none := fun h => num_len hu (by rw [len_toList]; exact h)
    have hN1 : ∀ k (h : k < T.size), digB T[k] = false → numM s.data.toList = none := fun k h hd => num_bad hu k (by rw [len_toList]; exact h) hd
    have hN2 : 1 ≤ T.size → T.size ≤ 10 → T.data.toList.all digB = true → numM s.data.toList = some (-(decVal 0 T.data.toList : Int)) := fun h1 h2 h3 => by rw [num_good hu (by rw [len_toList]; exact h1) (by rw [len_toList]; exact h2) h3, if_pos hm]
    have q1 : (T.size : Int) < s.size := by omega
    clear hu hTl hr hm hTs p1
    have HSZ := Lib.hid hsz
    clear hsz
    by_cases hlo : T.size < 1 ∨ 10 < T.size
    · have HN : Hid (numM s.data.toList = none) := Lib.hid (hN0 hlo)
      clear hN0 hN1 hN2
      rcases hlo with hlo | hlo
      · have z1 : (T.size : Int) < 1 := by omega
        go_enter Tryz.func33, Tryz.ntmps33
        go_wp2_with fail
        go_ret2
        exact ⟨0, by rw [HN.out]; rfl, fun v h => (by rw [HN.out] at h; cases h), rfl⟩
      · have z1 : ¬ (T.size : Int) < 1 := by omega
        have z2 : (10 : Int) < T.size := by omega
        go_enter Tryz.func33, Tryz.ntmps33
        go_wp2_with fail
        go_ret2
        exact ⟨0, by rw [HN.out]; rfl, fun v h => (by rw [HN.out] at h; cases h), rfl⟩
    · have z1 : ¬ (T.size : Int) < 1 := by omega
      have z2 : ¬ (10 : Int) < T.size := by omega
      have hT10 : T.size ≤ 10 := by omega
      have HN1 := Lib.hid hN1
      have HN2 := Lib.hid (hN2 (by omega) hT10)
      clear hN0 hN1 hN2 hlo
      go_enter Tryz.func33, Tryz.ntmps33
      go_wp2_with fail
      go_loop [5, 6] (fun u i => ∃ k : Nat, k ≤ T.size ∧ i = .int .i64 k ∧ u = .int .i64 (decVal 0 (T.data.toList.take k) : Nat) ∧ Hid ((T.data.toList.take k).all digB = true)) (fun _ i => T.size - (intOf i).toNat)
      case atStart => exact ⟨0, Nat.zero_le _, rfl, rfl, Lib.hid rfl⟩
      case round =>
        obtain ⟨k, hk, rfl, rfl, HD⟩ := hrel
        by_cases hlt : k < T.size
        · have hkl : k < T.data.toList.length := by rw [len_toList]; exact hlt
          have HM := Lib.hid (dec_more T.data.toList k hkl)
          have HA := Lib.hid (dig_more T.data.toList k hkl)
          have hTk : T.data.toList[k] = T[k] := rfl
          rw [hTk] at HM HA
          have hv := decVal_lt _ 0 HD.out
          have hp : 10 ^ (T.data.toList.take k).length ≤ 10 ^ 10 := Nat.pow_le_pow_right (by decide) (by rw [List.length_take]; omega)
          have hv10 : decVal 0 (T.data.toList.take k) < 10 ^ 10 := by omega
          obtain ⟨x, hx⟩ : ∃ x, decVal 0 (T.data.toList.take k) = x := ⟨_, rfl⟩
          rw [hx] at HM hv10 ⊢
          have hc8 := T[k].toNat_lt
          have hNk := Lib.hid (HN1.out k hlt)
          obtain ⟨c, hc⟩ : ∃ c, T[k] = c := ⟨_, rfl⟩
          obtain ⟨n, hn⟩ : ∃ n, c.toNat = n := ⟨_, rfl⟩
          have hTn : T[k].toNat = n := by rw [hc, hn]
          rw [hc] at HM HA hNk
          rw [hn] at HM
          rw [hTn] at hc8
          have hdg : digB c = (decide (48 ≤ n) && decide (n ≤ 57)) := by unfold digB; rw [hn]
          rw [hdg] at HA hNk
          clear hv hp hx hTk hdg hn hc
          by_cases h1 : n < 48
          · have y1 : (n : Int) < 48 := by omega
            have HN : Hid (numM s.data.toList = none) := Lib.hid (hNk.out (by simp; omega))
            go_wp2_with fail
            go_ret2
            exact ⟨0, by rw [HN.out]; rfl, fun v h => (by rw [HN.out] at h; cases h), rfl⟩
          · have y1 : ¬ (n : Int) < 48 := by omega
            by_cases h2 : 57 < n
            · have y2 : (57 : Int) < n := by omega
              have HN : Hid (numM s.data.toList = none) := Lib.hid (hNk.out (by simp; omega))
              go_wp2_with fail
              go_ret2
              exact ⟨0, by rw [HN.out]; rfl, fun v h => (by rw [HN.out] at h; cases h), rfl⟩
            · have y2 : ¬ (57 : Int) < n := by omega
              have HA2 := Lib.hid (HA.out HD.out (by simp; omega))
              go_wp2_with fail
              go_round
              case rel => exact ⟨k + 1, hlt, by go_num, by rw [HM.out]; go_num, HA2⟩
              case measure => simp [intOf]; omega
        · obtain rfl : k = T.size := by omega
          have e : T.data.toList.take T.size = T.data.toList := List.take_of_length_le (by rw [len_toList]; exact Nat.le_refl _)
          rw [e] at HD ⊢
          have HN := Lib.hid (HN2.out HD.out)
          have hv := decVal_lt _ 0 HD.out
          have hp : 10 ^ T.data.toList.length ≤ 10 ^ 10 := Nat.pow_le_pow_right (by decide) (by rw [len_toList]; omega)
          have hv10 : decVal 0 T.data.toList < 10 ^ 10 := by omega
          obtain ⟨x, hx⟩ : ∃ x, decVal 0 T.data.toList = x := ⟨_, rfl⟩
          rw [hx] at HN hv10 ⊢
          clear hv hp e hx
          go_wp2_with fail
          go_ret2
          exact ⟨_, by rw [HN.out]; rfl, fun v h => (by rw [HN.out] at h; exact Option.some.inj h), rfl⟩
  · have hu : unsign s.data.toList = s.data.toList := by unfold unsign; rw [if_neg hm]
    have hN0 : s.size < 1 ∨ 10 < s.size → numM s.data.toList = none := fun h => num_len hu (by rw [len_toList]; exact h)
    have hN1 : ∀ k (h : k < s.size), digB s[k] = false → numM s.data.toList = none := fun k h hd => num_bad hu k (by rw [len_toList]; exact h) hd
    have hN2 : 1 ≤ s.size → s.size ≤ 10 → s.data.toList.all digB = true → numM s.data.toList = some (decVal 0 s.data.toList : Int) := fun h1 h2 h3 => by rw [num_good hu (by rw [len_toList]; exact h1) (by rw [len_toList]; exact h2) h3, if_neg hm]
    by_cases hpos : 0 < s.size
    case neg =>
      have HN : Hid (numM s.data.toList = none) := Lib.hid (hN0 (by omega))
      have p0 : ¬ (0 : Int) < s.size := by omega
      have z1 : (s.size : Int) < 1 := by omega
      clear hN0 hN1 hN2 hu hm
      go_enter Tryz.func33, Tryz.ntmps33
      go_wp2_with fail
      go_ret2
      exact ⟨0, by rw [HN.out]; rfl, fun v h => (by rw [HN.out] at h; cases h), rfl⟩
    have p0 : (0 : Int) < s.size := by omega
    have p1 : s[0] ≠ 45 := by
      intro e
      apply hm
      have e1 : s[0] = s.data.toList[0]'(by rw [len_toList]; exact hpos) := rfl
      rw [List.head?_eq_getElem?, List.getElem?_eq_getElem (by rw [len_toList]; exact hpos), ← e1, e]
    have p1b : ((s[0].toNat : Int) == 45) = false := by
      rw [beq_eq_false_iff_ne]
      intro e
      exact p1 (UInt8.toNat_inj.1 (by rw [show (45 : UInt8).toNat = 45 from rfl]; omega))
    clear hu hm p1
    by_cases hlo : s.size < 1 ∨ 10 < s.size
    · have HN : Hid (numM s.data.toList = none) := Lib.hid (hN0 hlo)
      clear hN0 hN1 hN2
      rcases hlo with hlo | hlo
      · have z1 : (s.size : Int) < 1 := by omega
        go_enter Tryz.func33, Tryz.ntmps33
        go_wp2_with fail
        go_ret2
        exact ⟨0, by rw [HN.out]; rfl, fun v h => (by rw [HN.out] at h; cases h), rfl⟩
      · have z1 : ¬ (s.size : Int) < 1 := by omega
        have z2 : (10 : Int) < s.size := by omega
        go_enter Tryz.func33, Tryz.ntmps33
        go_wp2_with fail
        go_ret2
        exact ⟨0, by rw [HN.out]; rfl, fun v h => (by rw [HN.out] at h; cases h), rfl⟩
    · have z1 : ¬ (s.size : Int) < 1 := by omega
      have z2 : ¬ (10 : Int) < s.size := by omega
      have hT10 : s.size ≤ 10 := by omega
      have HN1 := Lib.hid hN1
      have HN2 := Lib.hid (hN2 (by omega) hT10)
      clear hN0 hN1 hN2 hlo
      go_enter Tryz.func33, Tryz.ntmps33
      go_wp2_with fail
      go_loop [5, 6] (fun u i => ∃ k : Nat, k ≤ s.size ∧ i = .int .i64 k ∧ u = .int .i64 (decVal 0 (s.data.toList.take k) : Nat) ∧ Hid ((s.data.toList.take k).all digB = true)) (fun _ i => s.size - (intOf i).toNat)
      case atStart => exact ⟨0, Nat.zero_le _, rfl, rfl, Lib.hid rfl⟩
      case round =>
        obtain ⟨k, hk, rfl, rfl, HD⟩ := hrel
        by_cases hlt : k < s.size
        · have hkl : k < s.data.toList.length := by rw [len_toList]; exact hlt
          have HM := Lib.hid (dec_more s.data.toList k hkl)
          have HA := Lib.hid (dig_more s.data.toList k hkl)
          have hTk : s.data.toList[k] = s[k] := rfl
          rw [hTk] at HM HA
          have hv := decVal_lt _ 0 HD.out
          have hp : 10 ^ (s.data.toList.take k).length ≤ 10 ^ 10 := Nat.pow_le_pow_right (by decide) (by rw [List.length_take]; omega)
          have hv10 : decVal 0 (s.data.toList.take k) < 10 ^ 10 := by omega
          obtain ⟨x, hx⟩ : ∃ x, decVal 0 (s.data.toList.take k) = x := ⟨_, rfl⟩
          rw [hx] at HM hv10 ⊢
          have hc8 := s[k].toNat_lt
          have hNk := Lib.hid (HN1.out k hlt)
          obtain ⟨c, hc⟩ : ∃ c, s[k] = c := ⟨_, rfl⟩
          obtain ⟨n, hn⟩ : ∃ n, c.toNat = n := ⟨_, rfl⟩
          have hTn : s[k].toNat = n := by rw [hc, hn]
          rw [hc] at HM HA hNk
          rw [hn] at HM
          rw [hTn] at hc8
          have hdg : digB c = (decide (48 ≤ n) && decide (n ≤ 57)) := by unfold digB; rw [hn]
          rw [hdg] at HA hNk
          clear hv hp hx hTk hdg hn hc
          by_cases h1 : n < 48
          · have y1 : (n : Int) < 48 := by omega
            have HN : Hid (numM s.data.toList = none) := Lib.hid (hNk.out (by simp; omega))
            go_wp2_with fail
            go_ret2
            exact ⟨0, by rw [HN.out]; rfl, fun v h => (by rw [HN.out] at h; cases h), rfl⟩
          · have y1 : ¬ (n : Int) < 48 := by omega
            by_cases h2 : 57 < n
            · have y2 : (57 : Int) < n := by omega
              have HN : Hid (numM s.data.toList = none) := Lib.hid (hNk.out (by simp; omega))
              go_wp2_with fail
              go_ret2
              exact ⟨0, by rw [HN.out]; rfl, fun v h => (by rw [HN.out] at h; cases h), rfl⟩
            · have y2 : ¬ (57 : Int) < n := by omega
              have HA2 := Lib.hid (HA.out HD.out (by simp; omega))
              go_wp2_with fail
              go_round
              case rel => exact ⟨k + 1, hlt, by go_num, by rw [HM.out]; go_num, HA2⟩
              case measure => simp [intOf]; omega
        · obtain rfl : k = s.size := by omega
          have e : s.data.toList.take s.size = s.data.toList := List.take_of_length_le (by rw [len_toList]; exact Nat.le_refl _)
          rw [e] at HD ⊢
          have HN := Lib.hid (HN2.out HD.out)
          have hv := decVal_lt _ 0 HD.out
          have hp : 10 ^ s.data.toList.length ≤ 10 ^ 10 := Nat.pow_le_pow_right (by decide) (by rw [len_toList]; omega)
          have hv10 : decVal 0 s.data.toList < 10 ^ 10 := by omega
          obtain ⟨x, hx⟩ : ∃ x, decVal 0 s.data.toList = x := ⟨_, rfl⟩
          rw [hx] at HN hv10 ⊢
          clear hv hp e hx
          go_wp2_with fail
          go_ret2
          exact ⟨_, by rw [HN.out]; rfl, fun v h => (by rw [HN.out] at h; exact Option.some.inj h), rfl⟩
/-! ### bytes -/
theorem pairs_odd : ∀ (n : Nat) (l : List UInt8), l.length = 2 * n + 1 → pairsM l = none
  | 0, [a], _ => rfl
  | 0, a :: b :: r, h => by simp at h
  | 0, [], h => by simp at h
  | n + 1, [], h => by simp at h
  | n + 1, [a], h => by simp at h
  | n + 1, a :: b :: r, h => by
    rw [pairsM, pairs_odd n r (by simp at h; omega)]
    cases unhexd a <;> cases unhexd b <;> rfl
def hexAcc (l : List UInt8) (i : Nat) : Nat → Option Nat
  | 0 => some 0
  | m + 1 => match hexAcc l i m, unhexd (l.getD (i + m) 0) with
    | some x, some y => some (16 * x + y)
    | _, _ => none
theorem hexAcc_next {l : List UInt8} {i m x y : Nat} (h : hexAcc l i m = some x) (h2 : unhexd (l.getD (i + m) 0) = some y) : hexAcc l i (m + 1) = some (16 * x + y) := by
  rw [hexAcc, h, h2]
theorem drop_two (l : List UInt8) (i : Nat) (h : i + 1 < l.length) : l.drop i = l.getD i 0 :: l.getD (i + 1) 0 :: l.drop (i + 2) := by
  rw [List.drop_eq_getElem_cons (by omega : i < l.length), List.drop_eq_getElem_cons h]
  simp [List.getD, List.getElem?_eq_getElem (by omega : i < l.length), List.getElem?_eq_getElem h]
theorem pairs_step {l : List UInt8} {i x : Nat} (h : i + 1 < l.length) (hx : hexAcc l i 2 = some x) : pairsM (l.drop i) = (pairsM (l.drop (i + 2))).map (UInt8.ofNat x :: ·) := by
  rw [drop_two l i h, pairsM]
  simp only [hexAcc, Nat.add_zero] at hx
  cases ha : unhexd (l.getD i 0) with
  | none => rw [ha] at hx; simp at hx
  | some y =>
    cases hb : unhexd (l.getD (i + 1) 0) with
    | none => rw [ha, hb] at hx; simp at hx
    | some z =>
      rw [ha, hb] at hx
      simp at hx
      subst hx
      cases pairsM (l.drop (i + 2)) <;> rfl
theorem unhexd_16 {c : UInt8} {n : Nat} (h : unhexd c = some n) : n < 16 := by
  unfold unhexd at h
  split at h
  · cases h; omega
  · split at h
    · cases h; omega
    · cases h
theorem hexAcc_lt {l : List UInt8} {i x : Nat} : ∀ {m : Nat}, m ≤ 2 → hexAcc l i m = some x → x < 16 ^ m
  | 0, _, h => by cases h; decide
  | m + 1, hm, h => by
    rw [hexAcc] at h
    cases ha : hexAcc l i m with
    | none => rw [ha] at h; simp at h
    | some y =>
      cases hb : unhexd (l.getD (i + m) 0) with
      | none => rw [ha, hb] at h; simp at h
      | some z =>
        rw [ha, hb] at h
        simp at h
        have h1 := hexAcc_lt (by omega) ha
        have h2 := unhexd_16 hb
        rw [Nat.pow_succ]
        omega
theorem pairs_bad {l : List UInt8} {i m : Nat} (h : i + 1 < l.length) (hm : m < 2) (hb : unhexd (l.getD (i + m) 0) = none) : pairsM (l.drop i) = none := by
  rw [drop_two l i h, pairsM]
  rcases (by omega : m = 0 ∨ m = 1) with rfl | rfl
  · rw [Nat.add_zero] at hb; rw [hb]
  · rw [hb]; cases unhexd (l.getD i 0) <;> rfl
def upto (acc : List UInt8) (r : Option (List UInt8)) : Option (List UInt8) := r.map (acc ++ ·)
theorem upto_nil (r : Option (List UInt8)) : upto [] r = r := by cases r <;> rfl
theorem upto_cons (acc : List UInt8) (c : UInt8) (r : Option (List UInt8)) : upto acc (r.map (c :: ·)) = upto (acc ++ [c]) r := by cases r <;> simp [upto]
set_option maxRecDepth 100000 in
set_option maxHeartbeats 4000000 in
theorem lbytes_any (s : ByteArray) (w : World) (hs : s.size ≤ 140737488355328) :
    Calls Tryz.prog 34 #[.string s] w fun e w' => ∃ d, e = .returned (.tuple #[.string d, .bool (unhexM s.data.toList).isSome]) ∧ (∀ v, unhexM s.data.toList = some v → d = bytesOf v) ∧ Below w.heap.size w w' := by
  by_cases h45 : s.data.toList = [45]
  · have HU : Hid (unhexM s.data.toList = some []) := Lib.hid (by unfold unhexM; rw [if_pos h45])
    have e1 : (s.toList == [45]) = true := by rw [ba_toList, h45]; rfl
    clear h45
    go_enter Tryz.func34, Tryz.ntmps34
    go_wp2_with fail
    go_ret2
    exact ⟨_, by rw [HU.out]; rfl, fun v h => (by rw [HU.out] at h; cases h; rfl), Below.refl _ _⟩
  have e1 : (s.toList == [45]) = false := by rw [ba_toList]; exact beq_eq_false_iff_ne.2 h45
  have hm2 : (s.size : Int).tmod 2 = ((s.size % 2 : Nat) : Int) := by rw [Int.tmod_eq_emod_of_nonneg (by omega)]; omega
  by_cases hodd : s.size % 2 = 1
  · have HU : Hid (unhexM s.data.toList = none) := Lib.hid (by
      unfold unhexM
      rw [if_neg h45, pairs_odd (s.size / 2) _ (by rw [len_toList]; omega), if_neg (by intro h; rw [← len_toList, h] at hodd; simp at hodd)])
    rw [hodd] at hm2
    clear h45 hodd
    go_enter Tryz.func34, Tryz.ntmps34
    go_wp2_with fail
    go_ret2
    exact ⟨_, by rw [HU.out]; rfl, fun v h => (by rw [HU.out] at h; cases h), Below.refl _ _⟩
  have hev : s.size % 2 = 0 := by omega
  rw [hev] at hm2
  by_cases h0 : s.data.toList = []
  · have HU : Hid (unhexM s.data.toList = none) := Lib.hid (by unfold unhexM; rw [if_neg h45, if_pos h0])
    have e0 : s.toList.isEmpty = true := by rw [ba_toList, h0]; rfl
    clear h45 hodd h0
    go_enter Tryz.func34, Tryz.ntmps34
    go_wp2_with fail
    go_ret2
    exact ⟨_, by rw [HU.out]; rfl, fun v h => (by rw [HU.out] at h; cases h), Below.refl _ _⟩
  have e0 : s.toList.isEmpty = false := by
    rw [ba_toList]
    cases hq : s.data.toList with
    | nil => exact absurd hq h0
    | cons c r => rfl
  have HU : Hid (unhexM s.data.toList = pairsM s.data.toList) := Lib.hid (by unfold unhexM; rw [if_neg h45, if_neg h0])
  have HL : Hid (s.data.toList.length = s.size) := Lib.hid (len_toList s)
  clear h45 hodd h0
  go_enter Tryz.func34, Tryz.ntmps34
  go_wp2_with fail
  go_loopw [4, 5] (fun v i wr => ∃ (k : Nat) (acc : List UInt8), 2 * k ≤ s.size ∧ i = .int .i64 ((2 * k : Nat) : Int) ∧ Hid (acc.length = k) ∧ Own wr w.heap.size v acc ∧ Hid (pairsM s.data.toList = upto acc (pairsM (s.data.toList.drop (2 * k)))) ∧ Below w.heap.size w wr) (fun _ i _ => s.size - (intOf i).toNat)
  case atStart => exact ⟨0, [], Nat.zero_le _, rfl, Lib.hid rfl, Own.nil _ _, Lib.hid (by rw [upto_nil]; rfl), Below.refl _ _⟩
  case round =>
    obtain ⟨k, acc, hk, rfl, hal, hown, HP, hbl⟩ := hrel
    obtain ⟨i, hi⟩ : ∃ i, 2 * k = i := ⟨_, rfl⟩
    have HI := Lib.hid hi
    have hii : i % 2 = 0 := by omega
    rw [hi] at hk HP ⊢
    clear hi
    by_cases hlt : i < s.size
    · have hi1 : i + 1 < s.size := by omega
      obtain ⟨va, vc, rfl⟩ := hown.form
      go_wp2_with fail
      go_loop [6, 7] (fun x j => ∃ (m y : Nat), m ≤ 2 ∧ j = .int .i64 ((i + m : Nat) : Int) ∧ x = .int .i64 (y : Nat) ∧ y < 256 ∧ Hid (hexAcc s.data.toList i m = some y)) (fun _ j => i + 2 - (intOf j).toNat)
      case atStart => exact ⟨0, 0, by omega, rfl, rfl, by omega, Lib.hid rfl⟩
      case round =>
        obtain ⟨m, y, hm, rfl, rfl, hy, HX⟩ := hrel
        by_cases hm2 : m < 2
        · have hy16 : y < 16 := by
            have := hexAcc_lt (by omega) HX.out
            rcases (by omega : m = 0 ∨ m = 1) with rfl | rfl <;> omega
          have hji : i + m < s.size := by omega
          obtain ⟨j, hj⟩ : ∃ j, i + m = j := ⟨_, rfl⟩
          have HJ := Lib.hid hj
          rw [hj] at hji ⊢
          have hj2 : (j : Int) < (i : Int) + 2 := by omega
          have hg : s.data.toList.getD (i + m) 0 = s[j] := by
            subst hj
            rw [List.getD_eq_getElem?_getD, List.getElem?_eq_getElem (by rw [len_toList]; exact hji)]
            rfl
          have HNx := Lib.hid (fun z => hexAcc_next (y := z) HX.out)
          have HBd := Lib.hid (fun hb => pairs_bad (l := s.data.toList) (i := i) (m := m) (by rw [len_toList]; exact hi1) hm2 hb)
          rw [hg] at HNx HBd
          obtain ⟨n, hn⟩ : ∃ n, s[j].toNat = n := ⟨_, rfl⟩
          have hn8 : n < 256 := by have := s[j].toNat_lt; omega
          have hun : unhexd s[j] = if 48 ≤ n ∧ n ≤ 57 then some (n - 48) else if 97 ≤ n ∧ n ≤ 102 then some (n - 87) else none := by unfold unhexd; rw [hn]
          rw [hun] at HNx HBd
          clear hun hg hj
          by_cases hd : 48 ≤ n ∧ n ≤ 57
          · have q1 : (48 : Int) ≤ n := by omega
            have q2 : (n : Int) ≤ 57 := by omega
            have HN2 := Lib.hid (HNx.out (n - 48) (by rw [if_pos hd]))
            go_wp2_with fail
            go_round
            case rel => exact ⟨m + 1, 16 * y + (n - 48), by omega, by rw [← HJ.out]; go_num, by go_num, by omega, HN2⟩
            case measure => simp [intOf]; omega
          · by_cases hl : 97 ≤ n ∧ n ≤ 102
            · have q0 : (48 : Int) ≤ n := by omega
              have q0b : ¬ (n : Int) ≤ 57 := by omega
              have q1 : (97 : Int) ≤ n := by omega
              have q2 : (n : Int) ≤ 102 := by omega
              have HN2 := Lib.hid (HNx.out (n - 87) (by rw [if_neg hd, if_pos hl]))
              go_wp2_with fail
              go_round
              case rel => exact ⟨m + 1, 16 * y + (n - 87), by omega, by rw [← HJ.out]; go_num, by go_num, by omega, HN2⟩
              case measure => simp [intOf]; omega
            · have HN : Hid (unhexM s.data.toList = none) := Lib.hid (by
                rw [HU.out, HP.out, HBd.out (by rw [if_neg hd, if_neg hl])]; rfl)
              by_cases q0 : n < 48
              · have q1 : ¬ (48 : Int) ≤ n := by omega
                have q2 : ¬ (97 : Int) ≤ n := by omega
                go_wp2_with fail
                go_ret2
                exact ⟨_, by rw [HN.out]; rfl, fun v h => (by rw [HN.out] at h; cases h), hbl⟩
              · have q1 : (48 : Int) ≤ n := by omega
                have q2 : ¬ (n : Int) ≤ 57 := by omega
                by_cases q3 : n < 97
                · have q4 : ¬ (97 : Int) ≤ n := by omega
                  go_wp2_with fail
                  go_ret2
                  exact ⟨_, by rw [HN.out]; rfl, fun v h => (by rw [HN.out] at h; cases h), hbl⟩
                · have q4 : (97 : Int) ≤ n := by omega
                  have q5 : ¬ (n : Int) ≤ 102 := by omega
                  go_wp2_with fail
                  go_ret2
                  exact ⟨_, by rw [HN.out]; rfl, fun v h => (by rw [HN.out] at h; cases h), hbl⟩
        · obtain rfl : m = 2 := by omega
          have HS := Lib.hid (pairs_step (l := s.data.toList) (i := i) (by rw [len_toList]; exact hi1) HX.out)
          obtain ⟨c, hc⟩ : ∃ c : UInt8, c.toNat = y := ⟨UInt8.ofNat y, by rw [UInt8.toNat_ofNat']; omega⟩
          have hcy : UInt8.ofNat y = c := by rw [← hc]; simp
          rw [hcy] at HS
          subst hc
          clear hcy
          have hn2 : ¬ ((i + 2 : Nat) : Int) < (i : Int) + 2 := by omega
          go_wp2_with (at_builtin; refine wpList_app rfl _ _ rfl w _ _ [c] 1 _ _ hown rfl rfl rfl rfl (by have := hal.out; have := HI.out; simp; omega) hbl ?_; intro v' w1 hown1 hbl1)
          go_roundw
          case rel =>
            refine ⟨k + 1, acc ++ [c], by have := HI.out; omega, by have := HI.out; go_num, Lib.hid (by simp [hal.out]), hown1, Lib.hid ?_, hbl1⟩
            have := HI.out
            rw [HP.out, HS.out, upto_cons, show 2 * (k + 1) = i + 2 by omega]
          case measure => simp [intOf]; omega
    · obtain rfl : i = s.size := by omega
      have HN : Hid (unhexM s.data.toList = some acc) := Lib.hid (by
        rw [HU.out, HP.out, List.drop_of_length_le (by rw [len_toList]; exact Nat.le_refl _), pairsM]
        simp [upto])
      obtain ⟨va, vc, rfl⟩ := hown.form
      have hcv := hown.conv
      go_wp2_with fail
      go_ret2
      exact ⟨_, by rw [HN.out]; rfl, fun v h => (by rw [HN.out] at h; cases h; rfl), hbl⟩
end Go.Proofs.YteigigepmoicaaaGreatDoor
