/- The console: FieldsFunc's pieces are wordsM, Split's are cutN. Plain. -/
import Derived.Test.YteigigepmoicaaaGreatDoorShelfCon
import Derived.Lib.FieldsP
import Derived.Lib.TrimUEq
namespace Go.Proofs.YteigigepmoicaaaGreatDoor
open Go.RowKit
set_option linter.unusedVariables false
set_option linter.unusedSimpArgs false
theorem splitK_cutN (n : UInt8) : ∀ l : List UInt8, Lib.splitK [n] 0 (Lib.count l [n]) l = cutN n l
  | [] => by rw [Lib.count_miss (by simp [Lib.index])]; rfl
  | c :: l => by
    have ih := splitK_cutN n l
    by_cases h : c = n
    · subst h
      have hix : Lib.index (c :: l) [c] = ((0 : Nat) : Int) := by rw [Lib.index]; simp [List.isPrefixOf]
      rw [Lib.count_cons_eq, Nat.add_comm, Lib.splitK, hix]
      simp [cutN, ih]
    · have hp : ([n] : List UInt8).isPrefixOf (c :: l) = false := by simp [List.isPrefixOf, Ne.symm h]
      have hix : Lib.index (c :: l) [n] = if Lib.index l [n] == -1 then -1 else Lib.index l [n] + 1 := by rw [Lib.index, hp]; simp
      rw [Lib.count_cons_ne _ _ _ h]
      unfold cutN
      rw [if_neg h, ← ih]
      by_cases hm : Lib.index l [n] = -1
      · rw [Lib.count_miss hm]; rfl
      · have hge := Lib.index_ge l [n]
        obtain ⟨j, hj⟩ : ∃ j : Nat, Lib.index l [n] = j := ⟨(Lib.index l [n]).toNat, by omega⟩
        have hix' : Lib.index (c :: l) [n] = ((j + 1 : Nat) : Int) := by rw [hix, if_neg (fun e => hm (beq_iff_eq.1 e)), hj]; omega
        rw [Lib.count_hit (by simp) hj, Nat.add_comm, Lib.splitK, Lib.splitK, hix', hj]
        simp
        have : ¬ ((j : Int) + 1 = -1) := by omega
        have : ¬ ((j : Int) = -1) := by omega
        simp [*]
theorem pieces_cutN (n : UInt8) (s : ByteArray) : Lib.splitB (bytesOf [n]) 0 (Lib.countB s (bytesOf [n])) s = (cutN n s.data.toList).map bytesOf := by
  have h := Lib.splitB_data (bytesOf [n]) 0 (Lib.countB s (bytesOf [n])) s
  have h2 : Lib.splitK (bytesOf [n]).data.toList 0 (Lib.countB s (bytesOf [n])) s.data.toList = cutN n s.data.toList := splitK_cutN n _
  rw [h2] at h
  rw [← h, List.map_map]
  have : (bytesOf ∘ fun x : ByteArray => x.data.toList) = id := funext fun x => bytesOf_of x
  rw [this, List.map_id]
theorem cutN_length (n : UInt8) (s : ByteArray) : Lib.countB s (bytesOf [n]) + 1 = (cutN n s.data.toList).length := by
  have h := congrArg List.length (pieces_cutN n s)
  rw [Lib.splitB_all _ (by rw [bytesOf_size]; simp) _ _ s rfl, List.length_map] at h
  exact h
/-! ### words -/
def blankR (r : Nat) : Bool := r == 32 || r == 9
theorem decode_wide (s : ByteArray) (pos : Nat) (h : pos < s.size) (hb : 128 ≤ (s.data.toList.getD pos 0).toNat) :
    128 ≤ (Utf8.decode s pos).1 ∧ 1 ≤ (Utf8.decode s pos).2 ∧ pos + (Utf8.decode s pos).2 ≤ s.size ∧ ∀ j, pos ≤ j → j < pos + (Utf8.decode s pos).2 → 128 ≤ (s.data.toList.getD j 0).toNat := by
  rw [Lib.decode_N, len_toList]
  unfold Lib.decodeN
  have key : ∀ k : Nat, (∀ i, i < k → 128 ≤ (s.data.toList.getD (pos + i) 0).toNat) → ∀ j, pos ≤ j → j < pos + k → 128 ≤ (s.data.toList.getD j 0).toNat := by
    intro k hk j h1 h2
    have := hk (j - pos) (by omega)
    rwa [show pos + (j - pos) = j by omega] at this
  have k1 : ∀ j, pos ≤ j → j < pos + 1 → 128 ≤ (s.data.toList.getD j 0).toNat := key 1 (fun i hi => by
    obtain rfl : i = 0 := by omega
    exact hb)
  rw [if_neg (by omega)]
  split
  · rename_i h1
    have k2 : ∀ j, pos ≤ j → j < pos + 2 → 128 ≤ (s.data.toList.getD j 0).toNat := key 2 (fun i hi => by
      rcases (by omega : i = 0 ∨ i = 1) with rfl | rfl
      · exact hb
      · omega)
    split
    · exact ⟨by dsimp only; omega, by dsimp only; omega, by dsimp only; omega, k2⟩
    · exact ⟨by decide, by decide, by dsimp only; omega, k1⟩
  · split
    · rename_i _ h1
      have k2 : ∀ j, pos ≤ j → j < pos + 3 → 128 ≤ (s.data.toList.getD j 0).toNat := key 3 (fun i hi => by
        rcases (by omega : i = 0 ∨ i = 1 ∨ i = 2) with rfl | rfl | rfl
        · exact hb
        · omega
        · omega)
      split
      · exact ⟨by dsimp only; omega, by dsimp only; omega, by dsimp only; omega, k2⟩
      · exact ⟨by decide, by decide, by dsimp only; omega, k1⟩
    · split
      · rename_i _ _ h1
        have k2 : ∀ j, pos ≤ j → j < pos + 4 → 128 ≤ (s.data.toList.getD j 0).toNat := key 4 (fun i hi => by
          rcases (by omega : i = 0 ∨ i = 1 ∨ i = 2 ∨ i = 3) with rfl | rfl | rfl | rfl
          · exact hb
          · omega
          · omega
          · omega)
        split
        · exact ⟨by dsimp only; omega, by dsimp only; omega, by dsimp only; omega, k2⟩
        · exact ⟨by decide, by decide, by dsimp only; omega, k1⟩
      · exact ⟨by decide, by decide, by dsimp only; omega, k1⟩
theorem decode_low (s : ByteArray) (pos : Nat) (h : pos < s.size) (hb : (s.data.toList.getD pos 0).toNat < 128) : Utf8.decode s pos = ((s.data.toList.getD pos 0).toNat, 1) := by
  rw [Lib.decode_N]
  unfold Lib.decodeN
  rw [if_pos hb]
theorem wordsC_skip : ∀ (x cur r : List UInt8), (∀ c ∈ x, blankB c = false) → wordsC (x ++ r) cur = wordsC r (cur ++ x)
  | [], cur, r, _ => by simp
  | c :: x, cur, r, h => by
    rw [List.cons_append, wordsC, h c (by simp), if_neg (by simp), wordsC_skip x _ r (fun y hy => h y (by simp [hy]))]
    simp
def curOf (l : List UInt8) (st : Option Nat) (pos : Nat) : List UInt8 := match st with
  | some a => (l.take pos).drop a
  | none => []
def pieceOf (l : List UInt8) (x : Nat × Nat) : List UInt8 := (l.take x.2).drop x.1
theorem blank_nat (c : UInt8) : blankR c.toNat = blankB c := by
  have : ∀ c : Fin 256, blankR (UInt8.ofNat c.val).toNat = blankB (UInt8.ofNat c.val) := by decide +kernel
  have h := this ⟨c.toNat, c.toNat_lt⟩
  simpa using h
theorem drop_take (l : List UInt8) (pos k : Nat) : l.take (pos + k) = l.take pos ++ (l.drop pos).take k := List.take_add
theorem cur_more (l : List UInt8) (a pos k : Nat) (h : a ≤ pos) (hp : pos ≤ l.length) : (l.take (pos + k)).drop a = (l.take pos).drop a ++ (l.drop pos).take k := by
  rw [drop_take, List.drop_append_of_le_length (by rw [List.length_take]; omega)]
theorem spans_words (s : ByteArray) : ∀ (f pos : Nat) (st : Option Nat) (acc : List (Nat × Nat)), s.size ≤ pos + f → pos ≤ s.size → (∀ a, st = some a → a < pos) →
    (Lib.closeSpans s (Lib.spansFromP blankR s f pos st acc)).map (pieceOf s.data.toList) = acc.map (pieceOf s.data.toList) ++ wordsC (s.data.toList.drop pos) (curOf s.data.toList st pos) := by
  have ls := len_toList s
  have done : ∀ (f pos : Nat) (st : Option Nat) (acc : List (Nat × Nat)), pos = s.size → (∀ a, st = some a → a < pos) → (Lib.closeSpans s (acc, st)).map (pieceOf s.data.toList) = acc.map (pieceOf s.data.toList) ++ wordsC (s.data.toList.drop pos) (curOf s.data.toList st pos) := by
    intro f pos st acc hp hst
    subst hp
    rw [List.drop_of_length_le (by omega), wordsC]
    cases st with
    | none => simp [Lib.closeSpans, curOf]
    | some a =>
      have hne : (curOf s.data.toList (some a) s.size).isEmpty = false := by
        have := hst a rfl
        rw [List.isEmpty_eq_false_iff]
        intro e
        have e2 := congrArg List.length e
        simp only [curOf, List.length_drop, List.length_take, List.length_nil] at e2
        omega
      rw [hne]
      simp [Lib.closeSpans, curOf, pieceOf]
  intro f
  induction f with
  | zero =>
    intro pos st acc h1 h2 h3
    exact done 0 pos st acc (by omega) h3
  | succ f ih =>
    intro pos st acc h1 h2 h3
    unfold Lib.spansFromP
    by_cases hlt : pos < s.size
    · rw [if_pos hlt]
      have hg : s.data.toList.getD pos 0 = s.data.toList[pos]'(by omega) := by simp [List.getD, List.getElem?_eq_getElem (show pos < s.data.toList.length by omega)]
      have hd : s.data.toList.drop pos = s.data.toList.getD pos 0 :: s.data.toList.drop (pos + 1) := by rw [hg]; exact List.drop_eq_getElem_cons (by omega)
      obtain ⟨c, hc⟩ : ∃ c, s.data.toList.getD pos 0 = c := ⟨_, rfl⟩
      rw [hc] at hd hg
      by_cases hbl : blankB c = true
      · have hc128 : c.toNat < 128 := by
          unfold blankB at hbl
          simp only [Bool.or_eq_true, beq_iff_eq] at hbl
          rcases hbl with rfl | rfl <;> decide
        have hde := decode_low s pos hlt (by rw [hc]; exact hc128)
        rw [hc] at hde
        rw [hde]
        dsimp only
        rw [blank_nat, hbl, if_pos rfl, hd, wordsC, hbl, if_pos rfl]
        cases st with
        | none =>
          dsimp only
          rw [ih (pos + 1) none acc (by omega) (by omega) (fun a h => by cases h)]
          rfl
        | some a =>
          have hap := h3 a rfl
          dsimp only
          rw [ih (pos + 1) none _ (by omega) (by omega) (fun a h => by cases h)]
          have hne : (curOf s.data.toList (some a) pos).isEmpty = false := by
            rw [List.isEmpty_eq_false_iff]
            intro e
            have e2 := congrArg List.length e
            simp only [curOf, List.length_drop, List.length_take, List.length_nil] at e2
            omega
          rw [hne]
          simp [curOf, pieceOf]
      · have hbl' : blankB c = false := by simpa using hbl
        obtain ⟨r, k, hrk, hr, hk1, hk2, hk3⟩ : ∃ r k, Utf8.decode s pos = (r, k) ∧ blankR r = false ∧ 1 ≤ k ∧ pos + k ≤ s.size ∧ ∀ j, pos ≤ j → j < pos + k → blankB (s.data.toList.getD j 0) = false := by
          by_cases hw : c.toNat < 128
          · have hde := decode_low s pos hlt (by rw [hc]; exact hw)
            rw [hc] at hde
            refine ⟨_, _, hde, by rw [blank_nat]; exact hbl', Nat.le_refl _, by omega, fun j j1 j2 => ?_⟩
            obtain rfl : j = pos := by omega
            rw [hc]; exact hbl'
          · obtain ⟨d1, d2, d3, d4⟩ := decode_wide s pos hlt (by rw [hc]; omega)
            refine ⟨(Utf8.decode s pos).1, (Utf8.decode s pos).2, rfl, ?_, d2, d3, fun j j1 j2 => ?_⟩
            · unfold blankR
              rw [Bool.or_eq_false_iff]
              exact ⟨by rw [beq_eq_false_iff_ne]; intro e; rw [e] at d1; exact absurd d1 (by decide), by rw [beq_eq_false_iff_ne]; intro e; rw [e] at d1; exact absurd d1 (by decide)⟩
            · have := d4 j j1 j2
              unfold blankB
              rw [Bool.or_eq_false_iff]
              constructor
              · rw [beq_eq_false_iff_ne]
                intro e
                rw [e] at this
                revert this; decide
              · rw [beq_eq_false_iff_ne]
                intro e
                rw [e] at this
                revert this; decide
        rw [hrk]
        dsimp only
        rw [hr, if_neg (by simp)]
        have hsplit : s.data.toList.drop pos = (s.data.toList.drop pos).take k ++ s.data.toList.drop (pos + k) := by
          rw [← List.drop_drop, List.take_append_drop]
        have hskip := wordsC_skip ((s.data.toList.drop pos).take k) (curOf s.data.toList st pos) (s.data.toList.drop (pos + k)) (fun x hx => by
          obtain ⟨i, hi, rfl⟩ := List.mem_iff_getElem.1 hx
          rw [List.length_take, List.length_drop] at hi
          have := hk3 (pos + i) (by omega) (by omega)
          rw [List.getD_eq_getElem?_getD, List.getElem?_eq_getElem (by omega)] at this
          rw [List.getElem_take, List.getElem_drop]
          exact this)
        rw [← hsplit] at hskip
        rw [hskip]
        cases st with
        | none =>
          dsimp only
          rw [ih (pos + k) (some pos) acc (by omega) hk2 (fun a h => by cases h; omega)]
          congr 2
          simp only [curOf, List.nil_append]
          rw [cur_more _ _ _ _ (Nat.le_refl _) (by omega), List.drop_of_length_le (by rw [List.length_take]; omega), List.nil_append]
        | some a =>
          have hap := h3 a rfl
          dsimp only
          rw [ih (pos + k) (some a) acc (by omega) hk2 (fun a h => by cases h; omega)]
          congr 2
          simp only [curOf]
          rw [cur_more _ _ _ _ (by omega) (by omega)]
    · rw [if_neg hlt]
      exact done 0 pos st acc (by omega) h3
theorem fields_words (s : ByteArray) : Lib.goFieldsP blankR s = (wordsM s.data.toList).map bytesOf := by
  have h := spans_words s s.size 0 none [] (by omega) (by omega) (fun a h => by cases h)
  rw [List.map_nil, List.nil_append, List.drop_zero] at h
  unfold wordsM
  rw [show curOf s.data.toList none 0 = [] from rfl] at h
  rw [← h, List.map_map]
  unfold Lib.goFieldsP Lib.spansOfP
  refine List.map_congr_left fun x _ => ?_
  refine ba_ext ?_
  simp [pieceOf, bytesOf, ByteArray.data_extract, List.drop_take]
theorem cutN_size (n : UInt8) : ∀ (l : List UInt8), ∀ p ∈ cutN n l, p.length ≤ l.length
  | [], p, hp => by simp [cutN] at hp; subst hp; simp
  | c :: l, p, hp => by
    unfold cutN at hp
    split at hp
    · rcases List.mem_cons.1 hp with rfl | hp
      · simp
      · have := cutN_size n l p hp; simp; omega
    · have hne := cutN_ne n l
      have ih := cutN_size n l
      revert hp ih
      cases hq : cutN n l with
      | nil => exact absurd hq hne
      | cons q qs =>
        intro hp ih
        rcases List.mem_cons.1 hp with rfl | hp
        · have := ih q (by simp); simp; omega
        · have := ih p (by simp [hp]); simp; omega
theorem wordsC_size : ∀ (l cur : List UInt8), ∀ p ∈ wordsC l cur, p.length ≤ cur.length + l.length
  | [], cur, p, hp => by
    rw [wordsC] at hp
    split at hp
    · cases hp
    · simp at hp; subst hp; simp
  | c :: l, cur, p, hp => by
    rw [wordsC] at hp
    split at hp
    · split at hp
      · have := wordsC_size l [] p hp; simp at this ⊢; omega
      · rcases List.mem_cons.1 hp with rfl | hp
        · simp
        · have := wordsC_size l [] p hp; simp at this ⊢; omega
    · have := wordsC_size l _ p hp; simp at this ⊢; omega
theorem wordsC_ne : ∀ (l cur : List UInt8), ∀ p ∈ wordsC l cur, p ≠ []
  | [], cur, p, hp => by
    rw [wordsC] at hp
    split at hp
    · cases hp
    · rename_i h; simp at hp; subst hp; intro e; subst e; exact h rfl
  | c :: l, cur, p, hp => by
    rw [wordsC] at hp
    split at hp
    · split at hp
      · exact wordsC_ne l [] p hp
      · rename_i h
        rcases List.mem_cons.1 hp with rfl | hp
        · intro e; subst e; exact h rfl
        · exact wordsC_ne l [] p hp
    · exact wordsC_ne l _ p hp
theorem wordsC_count : ∀ (l cur : List UInt8), (wordsC l cur).length ≤ l.length + 1
  | [], cur => by rw [wordsC]; split <;> simp
  | c :: l, cur => by
    rw [wordsC]
    split
    · split
      · have := wordsC_count l []; simp; omega
      · have := wordsC_count l []; simp; omega
    · have := wordsC_count l (cur ++ [c]); simp; omega
end Go.Proofs.YteigigepmoicaaaGreatDoor
