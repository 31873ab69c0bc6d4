/- The mathematics of the FCS-16: linear, good texts, turned bits. No program in sight. -/
namespace Go.Crc

theorem xor_mod2 (x y : Nat) : (x ^^^ y) % 2 = (x + y) % 2 := by
  have h : (x ^^^ y) % 2 = (x % 2) ^^^ (y % 2) := by simpa using Nat.xor_mod_two_pow (n := 1) (a := x) (b := y)
  rw [h]
  rcases Nat.mod_two_eq_zero_or_one x with a | a <;> rcases Nat.mod_two_eq_zero_or_one y with b | b <;> simp [a, b] <;> omega
def fstep (x : Nat) : Nat := if x % 2 = 1 then (x / 2) ^^^ 33800 else x / 2
def fit : Nat → Nat → Nat
  | 0, x => x
  | n + 1, x => fit n (fstep x)
def f8 (x : Nat) : Nat := fit 8 x
def crcB (x b : Nat) : Nat := f8 (x ^^^ b)
def crc (x : Nat) : List Nat → Nat
  | [] => x
  | b :: l => crc (crcB x b) l

theorem fstep_lt {x : Nat} (h : x < 65536) : fstep x < 65536 := by
  unfold fstep; split
  · exact Nat.xor_lt_two_pow (n := 16) (by omega) (by omega)
  · omega
theorem fstep_xor (x y : Nat) : fstep (x ^^^ y) = fstep x ^^^ fstep y := by
  unfold fstep
  have h2 : (x ^^^ y) / 2 = x / 2 ^^^ y / 2 := by
    simpa using Nat.xor_div_two_pow (n := 1) (a := x) (b := y)
  have hm : (x ^^^ y) % 2 = (x + y) % 2 := xor_mod2 x y
  rw [h2, hm]
  by_cases hx : x % 2 = 1 <;> by_cases hy : y % 2 = 1
  · rw [if_neg (by omega), if_pos hx, if_pos hy]
    rw [Nat.xor_assoc, Nat.xor_comm 33800, Nat.xor_assoc, Nat.xor_self, Nat.xor_zero]
  · rw [if_pos (by omega), if_pos hx, if_neg hy, Nat.xor_assoc, Nat.xor_comm (y / 2), ← Nat.xor_assoc]
  · rw [if_pos (by omega), if_neg hx, if_pos hy, Nat.xor_assoc]
  · rw [if_neg (by omega), if_neg hx, if_neg hy]
theorem fit_xor (n : Nat) : ∀ x y, fit n (x ^^^ y) = fit n x ^^^ fit n y := by
  induction n with
  | zero => intro x y; rfl
  | succ n ih => intro x y; simp only [fit, fstep_xor, ih]
theorem fit_lt (n : Nat) : ∀ {x : Nat}, x < 65536 → fit n x < 65536 := by
  induction n with
  | zero => intro x h; exact h
  | succ n ih => intro x h; exact ih (fstep_lt h)
theorem fit_add (a b : Nat) : ∀ x, fit (a + b) x = fit b (fit a x) := by
  induction a with
  | zero => intro x; rw [Nat.zero_add]; rfl
  | succ a ih => intro x; rw [Nat.succ_add]; exact ih (fstep x)
theorem fit_succ' (n x : Nat) : fit (n + 1) x = fstep (fit n x) := by rw [fit_add n 1]; rfl
theorem fit_zero (n : Nat) : fit n 0 = 0 := by
  induction n with
  | zero => rfl
  | succ n ih => exact ih
theorem fstep_ne {x : Nat} (h : x < 65536) (h0 : x ≠ 0) : fstep x ≠ 0 := by
  unfold fstep; split
  · intro e
    have h1 : x / 2 = 33800 := by
      have := congrArg (· ^^^ 33800) e
      simpa [Nat.xor_assoc] using this
    omega
  · omega
theorem fit_ne (n : Nat) : ∀ {x : Nat}, x < 65536 → x ≠ 0 → fit n x ≠ 0 := by
  induction n with
  | zero => intro x _ h0; exact h0
  | succ n ih => intro x h h0; exact ih (fstep_lt h) (fstep_ne h h0)
theorem xor_eq_zero {x y : Nat} : x ^^^ y = 0 ↔ x = y := by
  constructor
  · intro h
    have := congrArg (· ^^^ y) h
    simpa [Nat.xor_assoc] using this
  · rintro rfl; exact Nat.xor_self _
theorem fit_inj (n : Nat) {x y : Nat} (hx : x < 65536) (hy : y < 65536) (h : fit n x = fit n y) : x = y := by
  have h1 : fit n (x ^^^ y) = 0 := by rw [fit_xor, h, Nat.xor_self]
  by_cases h0 : x ^^^ y = 0
  · exact xor_eq_zero.1 h0
  · exact absurd h1 (fit_ne n (Nat.xor_lt_two_pow (n := 16) hx hy) h0)
/-- parity of the number of bits -/
def par : Nat → Nat → Nat
  | 0, _ => 0
  | n + 1, x => (x + par n (x / 2)) % 2
theorem par_xor (n : Nat) : ∀ x y, par n (x ^^^ y) = (par n x + par n y) % 2 := by
  induction n with
  | zero => intro x y; rfl
  | succ n ih =>
    intro x y
    have h2 : (x ^^^ y) / 2 = x / 2 ^^^ y / 2 := by simpa using Nat.xor_div_two_pow (n := 1) (a := x) (b := y)
    have hm : (x ^^^ y) % 2 = (x + y) % 2 := xor_mod2 x y
    simp only [par, h2, ih]
    omega
theorem par_zero (n : Nat) : par n 0 = 0 := by
  induction n with
  | zero => rfl
  | succ n ih => simp [par, ih]
theorem par_small (n : Nat) : ∀ m x, x < 2 ^ n → par (n + m) x = par n x := by
  induction n with
  | zero => intro m x h; have : x = 0 := by simpa using h
            subst this; rw [par_zero, par_zero]
  | succ n ih => intro m x h; rw [Nat.succ_add]; simp only [par]; rw [ih m (x / 2) (by rw [Nat.pow_succ] at h; omega)]
theorem par_fstep {x : Nat} (h : x < 65536) : par 16 (fstep x) = par 16 x := by
  have e : par 16 x = (x + par 15 (x / 2)) % 2 := rfl
  have e2 : par 16 (x / 2) = par 15 (x / 2) := par_small 15 1 _ (by omega)
  unfold fstep; split
  · rw [par_xor, e, e2]
    have : par 16 33800 = 1 := by decide
    omega
  · rw [e, e2]
    have : par 15 (x / 2) < 2 := by unfold par; omega
    omega
theorem par_fit (n : Nat) : ∀ {x : Nat}, x < 65536 → par 16 (fit n x) = par 16 x := by
  induction n with
  | zero => intro x _; rfl
  | succ n ih => intro x h; rw [show fit (n + 1) x = fit n (fstep x) from rfl, ih (fstep_lt h), par_fstep h]
/-- no return to 1 within n steps -/
def noret : Nat → Nat → Bool
  | 0, _ => true
  | n + 1, x => (fstep x != 1) && noret n (fstep x)
theorem noret_spec (n : Nat) : ∀ x, noret n x = true → ∀ k, k < n → fit (k + 1) x ≠ 1 := by
  induction n with
  | zero => intro x _ k hk; omega
  | succ n ih =>
    intro x h k hk
    simp only [noret, Bool.and_eq_true, bne_iff_ne, ne_eq] at h
    cases k with
    | zero => exact h.1
    | succ k => exact ih _ h.2 k (by omega)

set_option maxRecDepth 100000 in
theorem ord : noret 12100 1 = true := by decide +kernel

/-! ### bytes -/
theorem crcB_lt {x b : Nat} (hx : x < 65536) (hb : b < 256) : crcB x b < 65536 :=
  fit_lt 8 (Nat.xor_lt_two_pow (n := 16) hx (by omega))
theorem fit8_high (h : Nat) : fit 8 (h * 256) = h := by
  have e : ∀ y : Nat, fstep (2 * y) = y := by intro y; unfold fstep; rw [if_neg (by omega)]; omega
  simp only [fit]
  rw [show h * 256 = 2 * (2 * (2 * (2 * (2 * (2 * (2 * (2 * h))))))) from by omega, e, e, e, e, e, e, e, e]
theorem split16 (x : Nat) : x = (x % 256) ^^^ (x / 256 * 256) := by
  apply Nat.eq_of_testBit_eq
  intro i
  rw [Nat.testBit_xor, show (256 : Nat) = 2 ^ 8 from rfl, Nat.testBit_mod_two_pow, Nat.testBit_mul_two_pow, Nat.testBit_div_two_pow]
  by_cases h : i < 8
  · simp [h, show ¬ 8 ≤ i from by omega]
  · simp [h, show 8 ≤ i from by omega]
theorem crcB_tab (x b : Nat) : crcB x b = (x / 256) ^^^ fit 8 ((x % 256) ^^^ b) := by
  unfold crcB f8
  have e : x ^^^ b = ((x % 256) ^^^ b) ^^^ (x / 256 * 256) := by
    rw [Nat.xor_assoc, Nat.xor_comm b, ← Nat.xor_assoc, ← split16]
  rw [e, fit_xor, fit8_high _, Nat.xor_comm]
def bn (l : List UInt8) : List Nat := l.map (·.toNat)
theorem crc_append (l m : List Nat) : ∀ x, crc x (l ++ m) = crc (crc x l) m := by
  induction l with
  | nil => intro x; rfl
  | cons b l ih => intro x; exact ih _
theorem crc_lt (l : List Nat) : ∀ {x}, x < 65536 → (∀ b ∈ l, b < 256) → crc x l < 65536 := by
  induction l with
  | nil => intro x h _; exact h
  | cons b l ih => intro x h hb; exact ih (crcB_lt h (hb b (by simp))) fun c hc => hb c (by simp [hc])
theorem bn_lt (l : List UInt8) : ∀ b ∈ bn l, b < 256 := by
  intro b hb
  obtain ⟨c, _, rfl⟩ := List.mem_map.1 hb
  exact c.toNat_lt
/-- the sum of a text -/
def raw (l : List UInt8) : Nat := crc 65535 (bn l)
def fcs (l : List UInt8) : Nat := raw l ^^^ 65535
theorem raw_lt (l : List UInt8) : raw l < 65536 := crc_lt _ (by omega) (bn_lt l)
theorem fcs_lt (l : List UInt8) : fcs l < 65536 := Nat.xor_lt_two_pow (n := 16) (raw_lt l) (by omega)
theorem fcs_nil : fcs [] = 0 := by decide
def put (l : List UInt8) : List UInt8 := l ++ [UInt8.ofNat (fcs l % 256), UInt8.ofNat (fcs l / 256)]
theorem put_length (l : List UInt8) : (put l).length = l.length + 2 := by simp [put]
theorem raw_append (l m : List UInt8) : raw (l ++ m) = crc (raw l) (bn m) := by
  unfold raw bn; rw [List.map_append, crc_append]
theorem raw_snoc (l : List UInt8) (b : UInt8) : raw (l ++ [b]) = crcB (raw l) b.toNat := raw_append l [b]
/-- two bytes behind a state: sixteen steps -/
theorem crc_two (c x y : Nat) : crc c [x, y] = fit 16 (c ^^^ (x ^^^ y * 256)) := by
  have e : crc c [x, y] = fit 8 (fit 8 (c ^^^ x) ^^^ y) := rfl
  rw [e, show (16 : Nat) = 8 + 8 from rfl, fit_add 8 8, ← Nat.xor_assoc, fit_xor 8 _ (y * 256), fit8_high y]
theorem lohi {f : Nat} : (f % 256) ^^^ (f / 256) * 256 = f := (split16 f).symm
theorem raw_put (l : List UInt8) : raw (put l) = fit 16 65535 := by
  have h := fcs_lt l
  have e : bn [UInt8.ofNat (fcs l % 256), UInt8.ofNat (fcs l / 256)] = [fcs l % 256, fcs l / 256] := by
    simp [bn, UInt8.toNat_ofNat']; omega
  unfold put
  rw [raw_append, e, crc_two, lohi]
  unfold fcs
  rw [← Nat.xor_assoc, Nat.xor_self, Nat.zero_xor]
/-- a text of two bytes and more bears its sum just where the state behind it is the good one -/
theorem put_iff (l : List UInt8) (a b : UInt8) : put l = l ++ [a, b] ↔ raw (l ++ [a, b]) = fit 16 65535 := by
  constructor
  · intro h; rw [← h]; exact raw_put l
  · intro h
    have ha := a.toNat_lt
    have hb := b.toNat_lt
    have e : raw (l ++ [a, b]) = fit 16 (raw l ^^^ (a.toNat ^^^ b.toNat * 256)) := by
      rw [raw_append]; exact crc_two _ _ _
    rw [e] at h
    have hm : a.toNat ^^^ b.toNat * 256 < 65536 := Nat.xor_lt_two_pow (n := 16) (by omega) (by omega)
    have h2 := fit_inj 16 (Nat.xor_lt_two_pow (n := 16) (raw_lt l) hm) (by omega) h
    have h3 : a.toNat ^^^ b.toNat * 256 = fcs l := by
      unfold fcs
      have := congrArg (raw l ^^^ ·) h2
      simpa [← Nat.xor_assoc] using this
    have h4 : fcs l = a.toNat + b.toNat * 256 := by
      have : a.toNat ^^^ b.toNat * 256 = a.toNat + b.toNat * 256 := by
        have := split16 (a.toNat + b.toNat * 256)
        rw [show (a.toNat + b.toNat * 256) % 256 = a.toNat from by omega, show (a.toNat + b.toNat * 256) / 256 = b.toNat from by omega] at this
        exact this.symm
      omega
    unfold put
    have e1 : UInt8.ofNat (fcs l % 256) = a := by
      apply UInt8.toNat_inj.1; rw [UInt8.toNat_ofNat', h4]; omega
    have e2 : UInt8.ofNat (fcs l / 256) = b := by
      apply UInt8.toNat_inj.1; rw [UInt8.toNat_ofNat', h4]; omega
    rw [e1, e2]
theorem list_two (t : List UInt8) (h : 2 ≤ t.length) : ∃ l a b, t = l ++ [a, b] ∧ l = t.take (t.length - 2) := by
  refine ⟨t.take (t.length - 2), t[t.length - 2], t[t.length - 1], ?_, rfl⟩
  have : t.drop (t.length - 2) = [t[t.length - 2], t[t.length - 1]] := by
    rw [List.drop_eq_getElem_cons (by omega), List.drop_eq_getElem_cons (by omega), List.drop_eq_nil_of_le (by omega)]
    simp [show t.length - 2 + 1 = t.length - 1 from by omega]
  rw [← this, List.take_append_drop]
theorem good_iff (t : List UInt8) (h : 2 ≤ t.length) : put (t.take (t.length - 2)) = t ↔ raw t = fit 16 65535 := by
  obtain ⟨l, a, b, e, e'⟩ := list_two t h
  have hl : t.length - 2 = l.length := by rw [e]; simp
  rw [hl]
  have e2 : t.take l.length = l := by rw [e]; simp
  rw [e2]
  subst e
  exact put_iff l a b
/-! ### turned bits -/
def turn (l : List UInt8) (k : Nat) : List UInt8 := l.set (k / 8) ((l.getD (k / 8) 0) ^^^ (1 <<< UInt8.ofNat (k % 8)))
theorem turn_length (l : List UInt8) (k : Nat) : (turn l k).length = l.length := by simp [turn]
theorem turn_turn (l : List UInt8) (k : Nat) : turn (turn l k) k = l := by
  unfold turn
  by_cases h : k / 8 < l.length
  · simp [h, UInt8.xor_assoc]
  · rw [List.set_eq_of_length_le (by simpa using h), List.set_eq_of_length_le (by omega)]
theorem fit8_pow (i : Nat) (h : i < 8) : fit 8 (2 ^ i) = fit (8 - i) 1 := by
  have : ∀ j, j < 8 → fit 8 (2 ^ j) = fit (8 - j) 1 := by decide
  exact this i h
theorem crc_xor (l : List Nat) : ∀ x y, crc (x ^^^ y) l = crc x l ^^^ fit (8 * l.length) y := by
  induction l with
  | nil => intro x y; rfl
  | cons b l ih =>
    intro x y
    show crc (crcB (x ^^^ y) b) l = _
    have e : crcB (x ^^^ y) b = crcB x b ^^^ fit 8 y := by
      unfold crcB f8
      rw [Nat.xor_assoc, Nat.xor_comm y, ← Nat.xor_assoc, fit_xor]
    rw [e, ih, List.length_cons, show 8 * (l.length + 1) = 8 + 8 * l.length from by omega, fit_add]
    rfl
theorem one_shl (i : Nat) (h : i < 8) : ((1 : UInt8) <<< UInt8.ofNat i).toNat = 2 ^ i := by
  have : ∀ j, j < 8 → ((1 : UInt8) <<< UInt8.ofNat j).toNat = 2 ^ j := by decide
  exact this i h
theorem crc_turn (i : Nat) (hi : i < 8) (l : List UInt8) : ∀ (j x : Nat), j < l.length →
    crc x (bn (l.set j (l.getD j 0 ^^^ (1 <<< UInt8.ofNat i)))) = crc x (bn l) ^^^ fit (8 * l.length - (8 * j + i)) 1 := by
  induction l with
  | nil => intro j x h; simp at h
  | cons b l ih =>
    intro j x h
    cases j with
    | zero =>
      show crc (crcB x (b ^^^ (1 <<< UInt8.ofNat i)).toNat) (bn l) = crc (crcB x b.toNat) (bn l) ^^^ _
      have e : crcB x (b ^^^ (1 <<< UInt8.ofNat i)).toNat = crcB x b.toNat ^^^ fit (8 - i) 1 := by
        unfold crcB f8
        rw [UInt8.toNat_xor, one_shl i hi, ← Nat.xor_assoc, fit_xor, fit8_pow i hi]
      rw [e, crc_xor, ← fit_add]
      congr 2
      simp only [bn, List.length_map, List.length_cons]; omega
    | succ j =>
      show crc (crcB x b.toNat) (bn (l.set j (l.getD j 0 ^^^ (1 <<< UInt8.ofNat i)))) = crc (crcB x b.toNat) (bn l) ^^^ _
      rw [ih j _ (by simpa using h)]
      congr 2
      simp only [List.length_cons]; omega
theorem raw_turn (l : List UInt8) (k : Nat) (h : k < 8 * l.length) : raw (turn l k) = raw l ^^^ fit (8 * l.length - k) 1 := by
  unfold raw turn
  rw [crc_turn (k % 8) (by omega) l (k / 8) _ (by omega)]
  congr 2
  omega
theorem fit1_ne_of_lt {a b : Nat} (hab : a < b) (hb : b ≤ 12016) : fit a 1 ≠ fit b 1 := by
  intro h
  rw [show b = (b - a) + a from by omega, fit_add] at h
  have h2 : 1 = fit (b - a) 1 := fit_inj a (by omega) (fit_lt _ (by omega)) h
  have h3 := noret_spec 12100 1 ord (b - a - 1) (by omega)
  rw [show b - a - 1 + 1 = b - a from by omega] at h3
  exact h3 h2.symm
theorem fit1_inj {a b : Nat} (ha : a ≤ 12016) (hb : b ≤ 12016) (h : fit a 1 = fit b 1) : a = b := by
  rcases Nat.lt_trichotomy a b with c | c | c
  · exact absurd h (fit1_ne_of_lt c hb)
  · exact c
  · exact absurd h.symm (fit1_ne_of_lt c ha)
theorem xor_ne {x y : Nat} (h : y ≠ 0) : x ^^^ y ≠ x := by
  intro e
  have := congrArg (x ^^^ ·) e
  simp [← Nat.xor_assoc] at this
  exact h this
/-- one, two or three bits turned are seen, or nothing was turned -/
theorem turn1 (l : List UInt8) (a : Nat) (ha : a < 8 * l.length) : raw (turn l a) ≠ raw l := by
  rw [raw_turn l a ha]
  exact xor_ne (fit_ne _ (by omega) (by omega))
theorem turn2 (l : List UInt8) (a b : Nat) (hl : l.length ≤ 1502) (ha : a < 8 * l.length) (hb : b < 8 * l.length) :
    raw (turn (turn l a) b) ≠ raw l ∨ turn (turn l a) b = l := by
  by_cases h : a = b
  · subst h; exact .inr (turn_turn l a)
  · left
    rw [raw_turn _ b (by rw [turn_length]; exact hb), raw_turn l a ha, turn_length, Nat.xor_assoc]
    refine xor_ne fun e => h ?_
    have := fit1_inj (by omega) (by omega) (xor_eq_zero.1 e)
    omega
theorem par_one (n : Nat) : par 16 (fit n 1) = 1 := by rw [par_fit n (by omega)]; decide
theorem turn3 (l : List UInt8) (a b c : Nat) (ha : a < 8 * l.length) (hb : b < 8 * l.length) (hc : c < 8 * l.length) :
    raw (turn (turn (turn l a) b) c) ≠ raw l := by
  rw [raw_turn _ c (by rw [turn_length, turn_length]; exact hc), raw_turn _ b (by rw [turn_length]; exact hb), raw_turn l a ha]
  rw [Nat.xor_assoc, Nat.xor_assoc]
  refine xor_ne fun e => ?_
  have := congrArg (par 16) e
  rw [par_xor, par_xor, par_one, par_one, par_one] at this
  revert this; decide
end Go.Crc
