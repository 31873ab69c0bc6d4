/- The console's words, numbers, digits: plain functions over lists of bytes. -/
import Derived.Test.YteigigepmoicaaaGreatDoorBase
import Derived.Lib.Atoi
import Derived.Lib.ItoaNum
import Derived.Lib.SlTrimSet
namespace Go.Proofs.YteigigepmoicaaaGreatDoor
open Go.RowKit
set_option linter.unusedVariables false
set_option linter.unusedSimpArgs false
/-! ### words, lines -/
def blankB (c : UInt8) : Bool := c == 32 || c == 9
def wordsC : List UInt8 → List UInt8 → List (List UInt8)
  | [], cur => if cur.isEmpty then [] else [cur]
  | c :: r, cur => if blankB c then (if cur.isEmpty then wordsC r [] else cur :: wordsC r []) else wordsC r (cur ++ [c])
def wordsM (l : List UInt8) : List (List UInt8) := wordsC l []
def cutN (n : UInt8) : List UInt8 → List (List UInt8)
  | [] => [[]]
  | c :: l => if c = n then [] :: cutN n l else match cutN n l with
    | [] => [[c]]
    | p :: ps => (c :: p) :: ps
theorem cutN_ne (n : UInt8) (l : List UInt8) : cutN n l ≠ [] := by
  cases l with
  | nil => simp [cutN]
  | cons c l =>
    unfold cutN
    split
    · simp
    · split <;> simp
theorem wordsC_plain : ∀ (l cur : List UInt8), (∀ c ∈ l, blankB c = false) → wordsC l cur = if (cur ++ l).isEmpty then [] else [cur ++ l]
  | [], cur, _ => by simp [wordsC]
  | c :: l, cur, h => by
    rw [wordsC, h c (by simp), if_neg (by simp), wordsC_plain l _ (fun x hx => h x (by simp [hx]))]
    simp
theorem wordsC_word : ∀ (l cur r : List UInt8) (b : UInt8), (∀ c ∈ l, blankB c = false) → blankB b = true → cur ++ l ≠ [] → wordsC (l ++ b :: r) cur = (cur ++ l) :: wordsC r []
  | [], cur, r, b, _, hb, hne => by
    rw [List.append_nil] at hne ⊢
    rw [List.nil_append, wordsC, hb, if_pos rfl, if_neg (by simpa using hne)]
  | c :: l, cur, r, b, h, hb, hne => by
    rw [List.cons_append, wordsC, h c (by simp), if_neg (by simp), wordsC_word l _ r b (fun x hx => h x (by simp [hx])) hb (by simp)]
    simp
/-- a word, a blank, more -/
theorem words_cons (l r : List UInt8) (h : ∀ c ∈ l, blankB c = false) (hne : l ≠ []) : wordsM (l ++ 32 :: r) = l :: wordsM r := by
  unfold wordsM
  rw [wordsC_word l [] r 32 h (by decide) (by simpa using hne)]
  rfl
theorem words_one (l : List UInt8) (h : ∀ c ∈ l, blankB c = false) (hne : l ≠ []) : wordsM l = [l] := by
  unfold wordsM
  rw [wordsC_plain l [] h]
  simp [hne]
theorem cutN_plain (n : UInt8) : ∀ (l : List UInt8), (∀ c ∈ l, c ≠ n) → cutN n l = [l]
  | [], _ => rfl
  | c :: l, h => by rw [cutN, if_neg (h c (by simp)), cutN_plain n l (fun x hx => h x (by simp [hx]))]
theorem cutN_app (n : UInt8) : ∀ (l r : List UInt8), (∀ c ∈ l, c ≠ n) → cutN n (l ++ n :: r) = l :: cutN n r
  | [], r, _ => by simp [cutN]
  | c :: l, r, h => by rw [List.cons_append, cutN, if_neg (h c (by simp)), cutN_app n l r (fun x hx => h x (by simp [hx]))]
/-! ### numbers -/
def decF : Nat → Nat → List UInt8
  | 0, _ => []
  | f + 1, u => if u < 10 then [UInt8.ofNat (48 + u)] else decF f (u / 10) ++ [UInt8.ofNat (48 + u % 10)]
theorem decF_eq : ∀ (f u : Nat), u < 10 ^ f → 1 ≤ f → decF f u = Lib.decDigits u
  | 0, _, _, h => by omega
  | f + 1, u, h, _ => by
    rw [Lib.decDigits]
    unfold decF
    by_cases h10 : u < 10
    · rw [if_pos h10, dif_pos h10]
    · rw [if_neg h10, dif_neg h10]
      cases f with
      | zero => omega
      | succ f => rw [decF_eq (f + 1) (u / 10) (by rw [Nat.pow_succ] at h; omega) (by omega)]
def itoaM (n : Int) : List UInt8 := if n < 0 then 45 :: decF 20 n.natAbs else decF 20 n.toNat
theorem itoaM_eq (n : Int) (h1 : -9223372036854775808 ≤ n) (h2 : n ≤ 9223372036854775807) : itoaM n = Lib.itoa n := by
  unfold itoaM Lib.itoa
  split
  · rw [decF_eq 20 _ (by omega) (by omega)]
  · rw [decF_eq 20 _ (by omega) (by omega)]
def digB (c : UInt8) : Bool := decide (48 ≤ c.toNat) && decide (c.toNat ≤ 57)
def decVal (x : Nat) (l : List UInt8) : Nat := l.foldl (fun x c => 10 * x + (c.toNat - 48)) x
def unsign (w : List UInt8) : List UInt8 := if w.head? = some 45 then w.drop 1 else w
def numM (w : List UInt8) : Option Int :=
  if 1 ≤ (unsign w).length ∧ (unsign w).length ≤ 10 ∧ (unsign w).all digB = true then some (if w.head? = some 45 then -(decVal 0 (unsign w) : Int) else (decVal 0 (unsign w) : Int)) else none
theorem unsign_eq (w : List UInt8) : Lib.trimPrefix w [45] = unsign w := by
  unfold Lib.trimPrefix unsign Lib.hasPrefix
  cases w with
  | nil => rfl
  | cons c w =>
    by_cases h : c = 45
    · subst h; simp [List.isPrefixOf]
    · simp [List.isPrefixOf, h, Ne.symm h]
theorem decFrom_all : ∀ (l : List UInt8) (x : Nat), l.all digB = true → Lib.decFrom x l = some (decVal x l)
  | [], x, _ => rfl
  | c :: l, x, h => by
    simp only [List.all_cons, Bool.and_eq_true] at h
    have hc := h.1
    unfold digB at hc
    simp only [Bool.and_eq_true, decide_eq_true_eq] at hc
    rw [Lib.decFrom, Lib.digitVal, if_pos hc]
    dsimp only
    rw [decFrom_all l _ h.2, Nat.mul_comm]
    rfl
def digitsB : List UInt8 := [48, 49, 50, 51, 52, 53, 54, 55, 56, 57]
theorem digits_contains (c : UInt8) : digitsB.contains c = digB c := by
  have : ∀ c : Fin 256, digitsB.contains (UInt8.ofNat c.val) = digB (UInt8.ofNat c.val) := by decide +kernel
  have h := this ⟨c.toNat, c.toNat_lt⟩
  simpa using h
theorem dropWhile_nil (p : UInt8 → Bool) : ∀ l : List UInt8, l.dropWhile p = [] ↔ l.all p = true
  | [] => by simp
  | c :: l => by
    rw [List.dropWhile_cons, List.all_cons]
    cases p c with
    | true => simp only [if_true, Bool.true_and]; exact dropWhile_nil p l
    | false => simp
theorem dropWhile_all (p : UInt8 → Bool) : ∀ l : List UInt8, (l.dropWhile p).all p = true → l.dropWhile p = []
  | [], _ => rfl
  | c :: l, h => by
    rw [List.dropWhile_cons] at h ⊢
    cases hc : p c with
    | true => rw [hc] at h; simp only [if_true] at h ⊢; exact dropWhile_all p l h
    | false => rw [hc] at h; simp [hc] at h
theorem trim_digits (l : List UInt8) : Lib.trimS l digitsB = [] ↔ l.all digB = true := by
  unfold Lib.trimS Lib.trimLeftS Lib.trimRightS
  have hf : (fun x => digitsB.contains x) = digB := funext digits_contains
  rw [hf, dropWhile_nil, List.all_reverse]
  constructor
  · intro h
    have := (dropWhile_nil digB l.reverse).1 (dropWhile_all digB _ h)
    rwa [List.all_reverse] at this
  · intro h
    rw [(dropWhile_nil digB l.reverse).2 (by rw [List.all_reverse]; exact h)]
    rfl
theorem atoi_num (w : List UInt8) (h1 : 1 ≤ (unsign w).length) (h3 : (unsign w).all digB = true) : Lib.atoi w = some (if w.head? = some 45 then -(decVal 0 (unsign w) : Int) else (decVal 0 (unsign w) : Int)) := by
  cases w with
  | nil => simp [unsign] at h1
  | cons c w =>
    by_cases hc : c = 45
    · subst hc
      have hu : unsign (45 :: w) = w := rfl
      rw [hu] at h1 h3 ⊢
      rw [Lib.atoi, if_pos (by rfl), Lib.decNat, if_neg (by cases w <;> simp at h1 ⊢), decFrom_all _ _ h3]
      rfl
    · have hn : ¬ ((c :: w).head? = some (45 : UInt8)) := fun e => hc (Option.some.inj e)
      have hu : unsign (c :: w) = c :: w := by unfold unsign; rw [if_neg hn]
      rw [hu] at h1 h3 ⊢
      rw [if_neg hn]
      have hd : digB c = true := List.all_eq_true.1 h3 c (by simp)
      have h43 : c ≠ 43 := fun e => by subst e; revert hd; decide
      rw [Lib.atoi, if_neg (by simpa using hc), if_neg (by simpa using h43), Lib.decNat, if_neg (by simp), decFrom_all _ _ h3]
      rfl
theorem decVal_lt : ∀ (l : List UInt8) (x : Nat), l.all digB = true → decVal x l < (x + 1) * 10 ^ l.length
  | [], x, _ => by simp [decVal]
  | c :: l, x, h => by
    simp only [List.all_cons, Bool.and_eq_true] at h
    have hc := h.1
    unfold digB at hc
    simp only [Bool.and_eq_true, decide_eq_true_eq] at hc
    have := decVal_lt l (10 * x + (c.toNat - 48)) h.2
    rw [show decVal x (c :: l) = decVal (10 * x + (c.toNat - 48)) l from rfl, List.length_cons, Nat.pow_succ]
    refine Nat.lt_of_lt_of_le this ?_
    rw [Nat.mul_comm (10 ^ l.length) 10, ← Nat.mul_assoc]
    exact Nat.mul_le_mul_right _ (by omega)
theorem numM_range {w : List UInt8} {x : Int} (h : numM w = some x) : -10000000000 < x ∧ x < 10000000000 := by
  unfold numM at h
  split at h
  · rename_i hc
    have hl := decVal_lt _ 0 hc.2.2
    have hp : 10 ^ (unsign w).length ≤ 10 ^ 10 := Nat.pow_le_pow_right (by decide) hc.2.1
    simp only [Nat.zero_add, Nat.one_mul] at hl
    have hv : decVal 0 (unsign w) < 10000000000 := by omega
    have e := Option.some.inj h
    split at e <;> omega
  · cases h
/-! ### digits -/
def hexd (n : Nat) : UInt8 := if n < 10 then UInt8.ofNat (48 + n) else UInt8.ofNat (87 + n)
def hexL (l : List UInt8) : List UInt8 := l.flatMap fun c => [hexd (c.toNat / 16), hexd (c.toNat % 16)]
def hexM (l : List UInt8) : List UInt8 := if l.isEmpty then [45] else hexL l
def unhexd (c : UInt8) : Option Nat := if 48 ≤ c.toNat ∧ c.toNat ≤ 57 then some (c.toNat - 48) else if 97 ≤ c.toNat ∧ c.toNat ≤ 102 then some (c.toNat - 87) else none
def pairsM : List UInt8 → Option (List UInt8)
  | [] => some []
  | [_] => none
  | a :: b :: r => match unhexd a, unhexd b, pairsM r with
    | some x, some y, some t => some (UInt8.ofNat (16 * x + y) :: t)
    | _, _, _ => none
def unhexM (s : List UInt8) : Option (List UInt8) := if s = [45] then some [] else if s = [] then none else pairsM s
theorem unhexd_hexd : ∀ n : Fin 16, unhexd (hexd n.val) = some n.val := by decide +kernel
theorem pairs_hex : ∀ l : List UInt8, pairsM (hexL l) = some l
  | [] => rfl
  | c :: l => by
    have h1 := unhexd_hexd ⟨c.toNat / 16, by have := c.toNat_lt; omega⟩
    have h2 := unhexd_hexd ⟨c.toNat % 16, by omega⟩
    dsimp only at h1 h2
    rw [show hexL (c :: l) = hexd (c.toNat / 16) :: hexd (c.toNat % 16) :: hexL l from rfl, pairsM, h1, h2, pairs_hex l]
    dsimp only
    rw [show 16 * (c.toNat / 16) + c.toNat % 16 = c.toNat by omega]
    simp
theorem hexd_plain : ∀ n : Fin 16, blankB (hexd n.val) = false ∧ hexd n.val ≠ 10 ∧ hexd n.val ≠ 45 := by decide +kernel
theorem hexL_plain (l : List UInt8) : ∀ c ∈ hexL l, blankB c = false ∧ c ≠ 10 ∧ c ≠ 45 := by
  intro c hc
  simp only [hexL, List.mem_flatMap, List.mem_cons, List.not_mem_nil, or_false] at hc
  obtain ⟨x, _, h | h⟩ := hc
  · have := hexd_plain ⟨x.toNat / 16, by have := x.toNat_lt; omega⟩
    rw [h]; exact this
  · have := hexd_plain ⟨x.toNat % 16, by omega⟩
    rw [h]; exact this
theorem hexM_plain (l : List UInt8) : ∀ c ∈ hexM l, blankB c = false ∧ c ≠ 10 := by
  intro c hc
  unfold hexM at hc
  split at hc
  · simp only [List.mem_singleton] at hc
    subst hc
    decide
  · have := hexL_plain l c hc
    exact ⟨this.1, this.2.1⟩
theorem hexM_ne (l : List UInt8) : hexM l ≠ [] := by
  unfold hexM
  cases l with
  | nil => simp
  | cons c l => simp [hexL]
theorem unhex_hex (l : List UInt8) : unhexM (hexM l) = some l := by
  unfold hexM
  cases l with
  | nil => rfl
  | cons c l =>
    have h0 : hexL (c :: l) ≠ [45] := fun e => by
      have := congrArg List.length e
      simp [hexL] at this
    have h1 : hexL (c :: l) ≠ [] := by simp [hexL]
    rw [if_neg (by simp)]
    unfold unhexM
    rw [if_neg h0, if_neg h1, pairs_hex]
end Go.Proofs.YteigigepmoicaaaGreatDoor
