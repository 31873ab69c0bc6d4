/- Plain laws: what was stuffed comes back; a frame comes back; one bit turned is seen. No walk. -/
import Derived.Test.YteigigepmoicaaaGreatDoorFrameRef
namespace Go.Proofs.YteigigepmoicaaaGreatDoor
open Go.Crc
theorem marked_map (c : UInt8) (m : Int) (h : markedB c m = true) : c ^^^ 32 ≠ 126 ∧ (c ^^^ 32) ^^^ 32 = c := by
  refine ⟨?_, by rw [UInt8.xor_assoc]; simp⟩
  intro e
  have hc : c = 94 := by
    have := congrArg (· ^^^ 32) e
    have h94 : (126 : UInt8) ^^^ 32 = 94 := by decide
    simp only [UInt8.xor_assoc, UInt8.xor_self, UInt8.xor_zero, h94] at this
    exact this
  subst hc
  simp [markedB] at h
theorem unmarked_ne (c : UInt8) (m : Int) (h : markedB c m = false) : c ≠ 125 ∧ c ≠ 126 := by
  constructor <;> (rintro rfl; simp [markedB] at h)
theorem stuff_cons (m : Int) (c : UInt8) (l : List UInt8) : stuff m (c :: l) = stuffB m c ++ stuff m l := by simp [stuff]
theorem stuff_noflag (m : Int) (l : List UInt8) : 126 ∉ stuff m l := by
  induction l with
  | nil => simp [stuff]
  | cons c l ih =>
    rw [stuff_cons, List.mem_append]
    rintro (h | h)
    · unfold stuffB at h
      split at h
      · rename_i hm
        have := (marked_map c m hm).1
        simp at h
        exact this h.symm
      · rename_i hm
        have := (unmarked_ne c m (by simpa using hm)).2
        simp at h
        exact this h.symm
    · exact ih h
theorem un_stuff (m : Int) (l : List UInt8) : un (stuff m l) = some l := by
  induction l with
  | nil => simp [stuff, un]
  | cons c l ih =>
    rw [stuff_cons]
    unfold stuffB
    split
    · rename_i hm
      show un (125 :: (c ^^^ 32) :: stuff m l) = _
      rw [un_mark, ih]
      simp [(marked_map c m hm).2]
    · rename_i hm
      show un (c :: stuff m l) = _
      rw [un_plain (unmarked_ne c m (by simpa using hm)).1, ih]
      rfl
theorem unstuff_stuff (m : Int) (l : List UInt8) : unstuff (stuff m l) = (l, 0) := by
  unfold unstuff; rw [if_neg (stuff_noflag m l), un_stuff]
theorem chk_put' (l : List UInt8) : chk (put l) = (l, 0) := by
  have h : ¬ (put l).length < 2 := by rw [put_length]; omega
  have e : (put l).take ((put l).length - 2) = l := by rw [put_length]; simp [put]
  unfold chk; rw [if_neg h, e, if_pos rfl]
theorem unframe_stuff (m : Int) (u : List UInt8) (h : 4 ≤ u.length) : unframe (stuff m (put u)) = unhead u := by
  unfold unframe
  rw [unstuff_stuff, if_neg (by rintro (h1 | h1); exact h1 rfl; simp [put_length] at h1; omega), chk_put', if_neg (by simp)]
theorem byteAt_nat (p : Int) : ((byteAt p).toNat : Int) = p % 256 := by
  unfold byteAt
  rw [UInt8.toNat_ofNat']; omega
theorem unhead_head (p : Int) (d : List UInt8) (hp : protoOk p = true) (hd : d.length ≤ 2048) : unhead (headB p ++ d) = (p, d, 0) := by
  have hr : 1 ≤ p ∧ p ≤ 65535 := by simp [protoOk] at hp; omega
  have e : ((((headB p ++ d).getD 2 0).toNat * 256 + ((headB p ++ d).getD 3 0).toNat : Nat) : Int) = p := by
    show (((byteAt (p / 256)).toNat * 256 + (byteAt p).toNat : Nat) : Int) = p
    rw [Int.natCast_add, Int.natCast_mul, byteAt_nat, byteAt_nat]
    omega
  unfold unhead
  rw [if_neg (by simp [headB]), e, if_neg (by rw [hp]; decide), if_neg (by simp [headB]; omega)]
  simp [headB]
/-- a byte that no mark touches, turned into another such, is a byte turned underneath -/
theorem stuff_set (t : List UInt8) : ∀ (j : Nat) (c : UInt8) (hj : j < (stuff 0 t).length), (stuff 0 t)[j] ≠ 125 → (stuff 0 t)[j] ≠ 126 → c ≠ 125 → c ≠ 126 →
    (∀ h : 0 < j, (stuff 0 t)[j - 1]'(by omega) ≠ 125) → ∃ i, ∃ hi : i < t.length, t[i] = (stuff 0 t)[j] ∧ (stuff 0 t).set j c = stuff 0 (t.set i c) := by
  have hm0 : ∀ c : UInt8, c ≠ 125 → c ≠ 126 → stuffB 0 c = [c] := by
    intro c h1 h2
    have : markedB c 0 = false := by simp [markedB, h1, h2, mbit]
    unfold stuffB; rw [if_neg (by rw [this]; decide)]
  induction t with
  | nil => intro j c hj; simp [stuff] at hj
  | cons a t ih =>
    intro j c hj h1 h2 h3 h4 hp
    by_cases ha : a = 125 ∨ a = 126
    · have hsb : stuffB 0 a = [125, a ^^^ 32] := by
        unfold stuffB; rw [if_pos]; rcases ha with rfl | rfl <;> simp [markedB]
      have e : stuff 0 (a :: t) = 125 :: (a ^^^ 32) :: stuff 0 t := by rw [stuff_cons, hsb]; rfl
      simp only [e] at hj h1 h2 hp ⊢
      match j with
      | 0 => exact absurd rfl h1
      | 1 => exact absurd rfl (hp (by omega))
      | j + 2 =>
        obtain ⟨i, hi, k1, k2⟩ := ih j c (by simpa using hj) (by simpa using h1) (by simpa using h2) h3 h4 (fun h => by
          have := hp (by omega)
          obtain ⟨j', rfl⟩ : ∃ j', j = j' + 1 := ⟨j - 1, by omega⟩
          simpa using this)
        refine ⟨i + 1, by simpa using hi, by simpa using k1, ?_⟩
        show 125 :: (a ^^^ 32) :: (stuff 0 t).set j c = _
        rw [k2, List.set_cons_succ, stuff_cons, hsb]; rfl
    · have ha1 : a ≠ 125 := fun h => ha (.inl h)
      have ha2 : a ≠ 126 := fun h => ha (.inr h)
      have e : stuff 0 (a :: t) = a :: stuff 0 t := by rw [stuff_cons, hm0 a ha1 ha2]; rfl
      simp only [e] at hj h1 h2 hp ⊢
      match j with
      | 0 =>
        refine ⟨0, by simp, rfl, ?_⟩
        show c :: stuff 0 t = stuff 0 (c :: t)
        rw [stuff_cons, hm0 c h3 h4]; rfl
      | j + 1 =>
        obtain ⟨i, hi, k1, k2⟩ := ih j c (by simpa using hj) (by simpa using h1) (by simpa using h2) h3 h4 (fun h => by
          have := hp (by omega)
          obtain ⟨j', rfl⟩ : ∃ j', j = j' + 1 := ⟨j - 1, by omega⟩
          simpa using this)
        refine ⟨i + 1, by simpa using hi, by simpa using k1, ?_⟩
        show a :: (stuff 0 t).set j c = _
        rw [k2, List.set_cons_succ, stuff_cons, hm0 a ha1 ha2]; rfl
/-- one bit turned in a stuffed text, no mark near it -/
theorem unframe_turned (u : List UInt8) (k : Nat) (h4 : 4 ≤ u.length) (hk : k / 8 < (stuff 0 (put u)).length)
    (h1 : (stuff 0 (put u))[k / 8] ≠ 125) (h2 : (stuff 0 (put u))[k / 8] ≠ 126)
    (h3 : (stuff 0 (put u))[k / 8] ^^^ (1 <<< UInt8.ofNat (k % 8)) ≠ 125) (h5 : (stuff 0 (put u))[k / 8] ^^^ (1 <<< UInt8.ofNat (k % 8)) ≠ 126)
    (hp : ∀ h : 0 < k / 8, (stuff 0 (put u))[k / 8 - 1]'(by omega) ≠ 125) :
    unframe ((stuff 0 (put u)).set (k / 8) ((stuff 0 (put u))[k / 8] ^^^ (1 <<< UInt8.ofNat (k % 8)))) = (0, [], 301) := by
  obtain ⟨i, hi, k1, k2⟩ := stuff_set (put u) (k / 8) _ hk h1 h2 h3 h5 hp
  rw [k2, ← k1]
  have e : (put u).set i ((put u)[i] ^^^ (1 <<< UInt8.ofNat (k % 8))) = turn (put u) (8 * i + k % 8) := by
    unfold turn
    have e1 : (8 * i + k % 8) / 8 = i := by omega
    have e2 : (8 * i + k % 8) % 8 = k % 8 := by omega
    rw [e1, e2, List.getD_eq_getElem?_getD, List.getElem?_eq_getElem hi]; rfl
  rw [e]
  have hl : (turn (put u) (8 * i + k % 8)).length = u.length + 2 := by rw [turn_length, put_length]
  have hr := turn1 (put u) (8 * i + k % 8) (by omega)
  have hc : chk (turn (put u) (8 * i + k % 8)) = ([], 101) := by
    unfold chk
    rw [if_neg (by omega), if_neg]
    intro e
    exact hr (((good_iff _ (by omega)).1 e).trans (raw_put u).symm)
  unfold unframe
  rw [unstuff_stuff, if_neg (by rintro (h | h); exact h rfl; simp [hl] at h; omega), hc, if_pos (by simp)]
end Go.Proofs.YteigigepmoicaaaGreatDoor
