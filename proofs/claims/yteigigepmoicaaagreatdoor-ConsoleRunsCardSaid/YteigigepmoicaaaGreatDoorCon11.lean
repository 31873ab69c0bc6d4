/- The console: the law's answer is the program's; lines one behind the other; numbers come back. Plain. -/
import Derived.Test.YteigigepmoicaaaGreatDoorMg4
namespace Go.Proofs.YteigigepmoicaaaGreatDoor
open Go.RowKit Go.Crc
set_option linter.unusedVariables false
set_option linter.unusedSimpArgs false
theorem decVal_snoc (l : List UInt8) (c : UInt8) : decVal 0 (l ++ [c]) = 10 * decVal 0 l + (c.toNat - 48) := by
  unfold decVal
  rw [List.foldl_append]
  rfl
theorem dig_of (k : Nat) (h : k < 10) : digB (UInt8.ofNat (48 + k)) = true ∧ (UInt8.ofNat (48 + k)).toNat - 48 = k := by
  have : ∀ k : Fin 10, digB (UInt8.ofNat (48 + k.val)) = true ∧ (UInt8.ofNat (48 + k.val)).toNat - 48 = k.val := by decide +kernel
  exact this ⟨k, h⟩
theorem decF_back : ∀ (f u : Nat), u < 10 ^ f → 1 ≤ f → (decF f u).all digB = true ∧ decVal 0 (decF f u) = u ∧ (decF f u).length ≤ f ∧ 1 ≤ (decF f u).length
  | 0, _, _, h => by omega
  | f + 1, u, h, _ => by
    unfold decF
    by_cases h10 : u < 10
    · rw [if_pos h10]
      have := dig_of u h10
      exact ⟨by rw [List.all_cons, this.1]; rfl, (by show 10 * 0 + ((UInt8.ofNat (48 + u)).toNat - 48) = u; rw [this.2]; omega), by simp, by simp⟩
    · rw [if_neg h10]
      have hf : 1 ≤ f := by
        cases f with
        | zero => omega
        | succ f => omega
      obtain ⟨h1, h2, h3, h4⟩ := decF_back f (u / 10) (by rw [Nat.pow_succ] at h; omega) hf
      have := dig_of (u % 10) (by omega)
      refine ⟨by rw [List.all_append, h1, List.all_cons, this.1]; rfl, by rw [decVal_snoc, h2, this.2]; omega, by simp; omega, by simp⟩
theorem decF_20 (u : Nat) (h : u < 10000000000) : decF 20 u = decF 10 u := by
  rw [decF_eq 20 u (by omega) (by omega), decF_eq 10 u (by omega) (by omega)]
theorem num_itoa (n : Int) (h0 : 0 ≤ n) (h : n < 10000000000) : numM (itoaM n) = some n := by
  unfold itoaM
  rw [if_neg (by omega), decF_20 _ (by omega)]
  obtain ⟨h1, h2, h3, h4⟩ := decF_back 10 n.toNat (by omega) (by omega)
  have hh : ¬ ((decF 10 n.toNat).head? = some 45) := by
    intro e
    obtain ⟨r, hr⟩ : ∃ r, decF 10 n.toNat = 45 :: r := by
      cases hq : decF 10 n.toNat with
      | nil => rw [hq] at e; cases e
      | cons c r => rw [hq] at e; cases e; exact ⟨r, rfl⟩
    rw [hr] at h1
    simp [digB] at h1
  have hu : unsign (decF 10 n.toNat) = decF 10 n.toNat := by unfold unsign; rw [if_neg hh]
  unfold numM
  rw [hu, if_pos ⟨h4, h3, h1⟩, if_neg hh, h2]
  congr 1
  omega
theorem itoa_plain (n : Int) (h0 : 0 ≤ n) (h : n < 10000000000) : (∀ c ∈ itoaM n, blankB c = false ∧ c ≠ 10) ∧ itoaM n ≠ [] ∧ (itoaM n).length ≤ 10 := by
  unfold itoaM
  rw [if_neg (by omega), decF_20 _ (by omega)]
  obtain ⟨h1, h2, h3, h4⟩ := decF_back 10 n.toNat (by omega) (by omega)
  refine ⟨fun c hc => ?_, List.ne_nil_of_length_pos h4, h3⟩
  have hd := List.all_eq_true.1 h1 c hc
  have hall : ∀ c : Fin 256, digB (UInt8.ofNat c.val) = true → blankB (UInt8.ofNat c.val) = false ∧ UInt8.ofNat c.val ≠ 10 := by decide +kernel
  have := hall ⟨c.toNat, c.toNat_lt⟩ (by simpa using hd)
  simpa using this
/-! ### the law's answer -/
theorem count_fsm (r : List (List UInt8)) : lineM (nFsm :: r) = countedL (nFsm :: r) := by
  unfold lineM countedL
  rw [show (nFsm :: r).headD [] = nFsm from rfl, show kindsOf nFsm = some (List.replicate 2 110) from rfl]
  dsimp only
  rw [read_nums, show (nFsm :: r).tail = r from rfl]
  cases hn : numsL r with
  | none => by_cases hl : r.length = 2 <;> simp [hl, tellW]
  | some l =>
    have := nums_length r l hn
    dsimp only
    by_cases hl : r.length = 2
    · rw [if_pos hl, if_pos ⟨rfl, by omega⟩]
      dsimp only [tellW, Option.map]
      have ht : tellM nFsm l [] = (itoaM (stepSays (l.getD 0 0) (l.getD 1 0)).1 ++ actsW (stepSays (l.getD 0 0) (l.getD 1 0)).2.1, (stepSays (l.getD 0 0) (l.getD 1 0)).2.2) := rfl
      rw [ht]
      dsimp only
      by_cases h0 : (stepSays (l.getD 0 0) (l.getD 1 0)).2.2 = 0
      · rw [if_pos h0, if_neg (by simpa using h0)]
      · rw [if_neg h0, if_pos h0]
    · rw [if_neg hl, if_neg (by rintro ⟨_, h⟩; omega), if_neg (by rintro ⟨h, _⟩; revert h; decide), if_neg (by rintro ⟨h, _⟩; revert h; decide)]
      rfl
theorem count_delay (r : List (List UInt8)) : lineM (nDelay :: r) = countedL (nDelay :: r) := by
  unfold lineM countedL
  rw [show (nDelay :: r).headD [] = nDelay from rfl, show kindsOf nDelay = some (List.replicate 4 110) from rfl]
  dsimp only
  rw [read_nums, show (nDelay :: r).tail = r from rfl]
  cases hn : numsL r with
  | none => by_cases hl : r.length = 4 <;> simp [hl, tellW]
  | some l =>
    have := nums_length r l hn
    dsimp only
    rw [if_neg (c := nDelay = nFsm ∧ l.length = 2) (by rintro ⟨h, _⟩; revert h; decide)]
    by_cases hl : r.length = 4
    · rw [if_pos hl, if_pos ⟨rfl, by omega⟩]
      dsimp only [tellW, Option.map]
      have ht : tellM nDelay l [] = (itoaM (delayM (l.getD 0 0) (l.getD 1 0) (l.getD 2 0) (l.getD 3 0)).1, (delayM (l.getD 0 0) (l.getD 1 0) (l.getD 2 0) (l.getD 3 0)).2) := rfl
      rw [ht]
      dsimp only
      by_cases h0 : (delayM (l.getD 0 0) (l.getD 1 0) (l.getD 2 0) (l.getD 3 0)).2 = 0
      · rw [if_pos h0, if_neg (by simpa using h0)]
      · rw [if_neg h0, if_pos h0]
    · rw [if_neg hl, if_neg (by rintro ⟨_, h⟩; omega), if_neg (by rintro ⟨h, _⟩; revert h; decide)]
      rfl
theorem count_target (r : List (List UInt8)) : lineM (nTarget :: r) = countedL (nTarget :: r) := by
  unfold lineM countedL
  rw [show (nTarget :: r).headD [] = nTarget from rfl, show kindsOf nTarget = some (List.replicate 4 110) from rfl]
  dsimp only
  rw [read_nums, show (nTarget :: r).tail = r from rfl]
  cases hn : numsL r with
  | none => by_cases hl : r.length = 4 <;> simp [hl, tellW]
  | some l =>
    have := nums_length r l hn
    dsimp only
    rw [if_neg (c := nTarget = nFsm ∧ l.length = 2) (by rintro ⟨h, _⟩; revert h; decide), if_neg (c := nTarget = nDelay ∧ l.length = 4) (by rintro ⟨h, _⟩; revert h; decide)]
    by_cases hl : r.length = 4
    · rw [if_pos hl, if_pos ⟨rfl, by omega⟩]
      dsimp only [tellW, Option.map]
      have ht : tellM nTarget l [] = if l.getD 0 0 < 0 ∨ shapeB (l.getD 1 0) (l.getD 2 0) (l.getD 3 0) = false then ([], 2400) else (itoaM (targetN (l.getD 0 0) (l.getD 1 0) (l.getD 2 0) (l.getD 3 0)), 0) := rfl
      rw [ht]
      by_cases h0 : l.getD 0 0 < 0 ∨ shapeB (l.getD 1 0) (l.getD 2 0) (l.getD 3 0) = false
      · rw [if_pos h0, if_pos h0.symm, if_neg (by decide)]
      · rw [if_neg h0, if_neg (c := shapeB (l.getD 1 0) (l.getD 2 0) (l.getD 3 0) = false ∨ l.getD 0 0 < 0) (fun h => h0 h.symm), if_pos rfl]
    · rw [if_neg hl, if_neg (by rintro ⟨_, h⟩; omega)]
      rfl
theorem readM_len : ∀ (ks : List UInt8) (ws : List (List UInt8)), ks.length ≠ ws.length → readM ks ws = none
  | [], [], h => absurd rfl h
  | [], w :: ws, _ => rfl
  | k :: ks, [], _ => rfl
  | k :: ks, w :: ws, h => by
    rw [readM, readM_len ks ws (by simpa using h)]
    split
    · cases numM w <;> rfl
    · cases unhexM w <;> rfl
theorem line_frame (r : List (List UInt8)) : lineM (nFrame :: r) = if r.length ≠ 2 then errW 2800 else match numM (r.getD 0 []), unhexM (r.getD 1 []) with
    | some p, some d => if (frameT p d 0).2 ≠ 0 then errW (frameT p d 0).2 else hexM (frameT p d 0).1
    | _, _ => errW 2800 := by
  unfold lineM
  rw [show (nFrame :: r).headD [] = nFrame from rfl, show kindsOf nFrame = some [110, 120] from rfl, show (nFrame :: r).tail = r from rfl]
  dsimp only
  by_cases hl : r.length = 2
  case neg =>
    rw [if_pos hl, readM_len _ _ (by simpa using Ne.symm hl)]
    rfl
  match r, hl with
  | [a, b], _ =>
    rw [if_neg (by simp), readM, if_pos rfl, readM, if_neg (by decide), readM]
    simp only [List.getD_cons_zero, List.getD_cons_succ]
    cases numM a with
    | none => cases unhexM b <;> rfl
    | some p =>
      cases unhexM b with
      | none => rfl
      | some d =>
        simp only [tellW]
        have ht : tellM nFrame [p] [d] = (hexM (frameT p d 0).1, (frameT p d 0).2) := rfl
        rw [ht]
        dsimp only
        by_cases h0 : (frameT p d 0).2 = 0
        · rw [if_pos h0, if_neg (by simpa using h0)]
        · rw [if_neg h0, if_pos h0]
theorem line_one (name : List UInt8) (r : List (List UInt8)) (hk : kindsOf name = some [120]) : lineM (name :: r) = if r.length ≠ 1 then errW 2800 else match unhexM (r.getD 0 []) with
    | some d => if (tellM name [] [d]).2 = 0 then (tellM name [] [d]).1 else errW (tellM name [] [d]).2
    | none => errW 2800 := by
  unfold lineM
  rw [show (name :: r).headD [] = name from rfl, hk, show (name :: r).tail = r from rfl]
  dsimp only
  by_cases hl : r.length = 1
  case neg =>
    rw [if_pos hl, readM_len _ _ (by simpa using Ne.symm hl)]
    rfl
  match r, hl with
  | [a], _ =>
    rw [if_neg (by simp), readM, if_neg (by decide), readM]
    simp only [List.getD_cons_zero]
    cases unhexM a <;> rfl
theorem tells_line (ws : List (List UInt8)) (hne : ws ≠ []) : tellsL ws = lineM ws := by
  cases ws with
  | nil => exact absurd rfl hne
  | cons name r =>
    unfold tellsL
    rw [show (name :: r).headD [] = name from rfl]
    by_cases h1 : name = nFsm
    · subst h1; rw [if_pos (.inl rfl)]; exact (count_fsm r).symm
    by_cases h2 : name = nDelay
    · subst h2; rw [if_pos (.inr (.inl rfl))]; exact (count_delay r).symm
    by_cases h3 : name = nTarget
    · subst h3; rw [if_pos (.inr (.inr rfl))]; exact (count_target r).symm
    rw [if_neg (by rintro (h | h | h) <;> contradiction)]
    by_cases h4 : name = nFrame
    · subst h4
      rw [if_pos rfl, line_frame]
      by_cases hl : r.length = 2
      · rw [if_neg (by simp [hl]), if_neg (by simp [hl])]; rfl
      · rw [if_pos (by simp [hl]), if_pos (by simp [hl])]
    rw [if_neg h4]
    by_cases h5 : name = nFcs
    · subst h5
      rw [line_one nFcs r rfl]
      by_cases hl : r.length = 1
      · rw [if_neg (by simp [hl]), if_neg (by simp [hl])]
        unfold oneL
        simp only [List.getD_cons_succ]
        cases unhexM (r.getD 0 []) <;> rfl
      · rw [if_pos (by simp [hl]), if_pos (by simp [hl])]
    by_cases h6 : name = nMd5
    · subst h6
      rw [line_one nMd5 r rfl]
      by_cases hl : r.length = 1
      · rw [if_neg (by simp [hl]), if_neg (by simp [hl])]
        unfold oneL
        simp only [List.getD_cons_succ]
        cases unhexM (r.getD 0 []) <;> rfl
      · rw [if_pos (by simp [hl]), if_pos (by simp [hl])]
    by_cases h7 : name = nUnframe
    · subst h7
      rw [line_one nUnframe r rfl]
      by_cases hl : r.length = 1
      · rw [if_neg (by simp [hl]), if_neg (by simp [hl])]
        unfold oneL
        simp only [List.getD_cons_succ]
        cases unhexM (r.getD 0 []) with
        | none => rfl
        | some d =>
          have ht : tellM nUnframe [] [d] = (itoaM (unframe d).1 ++ [32] ++ hexM (unframe d).2.1, (unframe d).2.2) := rfl
          dsimp only
          rw [ht]
          dsimp only
          rw [if_neg (by decide), if_neg (by decide), if_pos trivial]
          by_cases h0 : (unframe d).2.2 = 0
          · rw [if_pos h0, if_neg (by simpa using h0)]
          · rw [if_neg h0, if_pos h0]
      · rw [if_pos (by simp [hl]), if_pos (by simp [hl])]
    have hk : kindsOf name = none := by unfold kindsOf; simp [h1, h2, h3, h4, h5, h6, h7]
    have hline : lineM (name :: r) = errW 2800 := by
      unfold lineM
      rw [show (name :: r).headD [] = name from rfl, hk]
    rw [hline]
    split
    · rfl
    · unfold oneL
      cases unhexM _ with
      | none => rfl
      | some d => simp [h5, h6, h7]
/-! ### lines -/
theorem cutN_more (n : UInt8) : ∀ (a b : List UInt8), cutN n (a ++ n :: b) = cutN n a ++ cutN n b
  | [], b => by simp [cutN]
  | c :: a, b => by
    have ih := cutN_more n a b
    rw [List.cons_append, cutN]
    by_cases h : c = n
    · rw [if_pos h, cutN, if_pos h, ih]; rfl
    · rw [if_neg h, cutN, if_neg h, ih]
      cases hq : cutN n a with
      | nil => exact absurd hq (cutN_ne n a)
      | cons p ps => rfl
theorem run_nil : runM [] = [] := rfl
theorem run_more (a b : List UInt8) : runM (a ++ 10 :: b) = runM a ++ runM b := by
  unfold runM
  rw [cutN_more, List.flatMap_append]
theorem run_end (a : List UInt8) : runM (a ++ [10]) = runM a := by rw [run_more, run_nil, List.append_nil]
theorem run_line (a : List UInt8) (h : ∀ c ∈ a, c ≠ 10) : runM a = oneM a := by
  unfold runM
  rw [cutN_plain 10 a h]
  simp
def LeadM (s : List UInt8) : Prop := ∀ b, runM (s ++ b) = runM s ++ runM b
theorem lead_nil : LeadM [] := fun b => rfl
theorem lead_lf (s : List UInt8) : LeadM (s ++ [10]) := fun b => by
  rw [run_end, List.append_assoc, List.singleton_append, run_more]
end Go.Proofs.YteigigepmoicaaaGreatDoor
