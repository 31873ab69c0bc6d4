/- Contracts of package stuff: marked, Put, Get, Flag. -/
import Derived.Test.YteigigepmoicaaaGreatDoorMg1
namespace Go.Proofs.YteigigepmoicaaaGreatDoor
open Go.RowKit
/-! ### the plain side -/
def mbit (m : Int) (c : Nat) : Bool := (m / 2 ^ c) % 2 == 1
def markedB (c : UInt8) (m : Int) : Bool := c == 125 || c == 126 || (decide (c.toNat < 32) && mbit m c.toNat)
def stuffB (m : Int) (c : UInt8) : List UInt8 := if markedB c m then [125, c ^^^ 32] else [c]
def stuff (m : Int) (l : List UInt8) : List UInt8 := l.flatMap (stuffB m)
def un : List UInt8 → Option (List UInt8)
  | [] => some []
  | 125 :: r => match r with
    | [] => none
    | c :: r => (un r).map ((c ^^^ 32) :: ·)
  | c :: r => (un r).map (c :: ·)
def unstuff (l : List UInt8) : List UInt8 × Int :=
  if 126 ∈ l then ([], 201) else match un l with
    | none => ([], 200)
    | some r => (r, 0)
theorem stuff_append (m : Int) (a b : List UInt8) : stuff m (a ++ b) = stuff m a ++ stuff m b := by simp [stuff]
theorem stuffB_length (m : Int) (c : UInt8) : (stuffB m c).length ≤ 2 := by unfold stuffB; split <;> simp
theorem stuff_length (m : Int) (l : List UInt8) : (stuff m l).length ≤ 2 * l.length := by
  induction l with
  | nil => simp [stuff]
  | cons c l ih =>
    have e : stuff m (c :: l) = stuffB m c ++ stuff m l := by simp [stuff]
    rw [e, List.length_append, List.length_cons]
    have := stuffB_length m c
    omega
theorem stuff_take (m : Int) (s : ByteArray) (k : Nat) (h : k < s.size) : stuff m (s.data.toList.take (k + 1)) = stuff m (s.data.toList.take k) ++ stuffB m s[k] := by
  have e : s.data.toList.take (k + 1) = s.data.toList.take k ++ [s[k]] := by
    rw [List.take_succ_eq_append_getElem (by simpa using h)]; rfl
  rw [e, stuff_append]; simp [stuff]
set_option maxHeartbeats 400000 in
theorem marked_any (c : UInt8) (m : Int) (w : World) :
    Calls Tryz.prog 99 #[.int .u8 (c.toNat : Int), .int .i64 m] w fun e w' => e = .returned (.bool (markedB c m)) ∧ w = w' := by
  have hc := c.toNat_lt
  by_cases h1 : c = 125
  · have hr : markedB c m = true := by subst h1; rfl
    have e1 : ((c.toNat : Int) == 125) = true := by subst h1; rfl
    clear h1
    go_enter Tryz.func99, Tryz.ntmps99
    go_wp2
    go_ret
    exact ⟨by rw [hr]; rfl, rfl⟩
  by_cases h2 : c = 126
  · have hr : markedB c m = true := by subst h2; rfl
    have e1 : ((c.toNat : Int) == 125) = false := by subst h2; rfl
    have e2 : ((c.toNat : Int) == 126) = true := by subst h2; rfl
    clear h1 h2
    go_enter Tryz.func99, Tryz.ntmps99
    go_wp2
    go_ret
    exact ⟨by rw [hr]; rfl, rfl⟩
  have n1 : c.toNat ≠ 125 := fun e => h1 (UInt8.toNat_inj.1 e)
  have n2 : c.toNat ≠ 126 := fun e => h2 (UInt8.toNat_inj.1 e)
  have e1 : ((c.toNat : Int) == 125) = false := beq_eq_false_iff_ne.2 (by omega)
  have e2 : ((c.toNat : Int) == 126) = false := beq_eq_false_iff_ne.2 (by omega)
  by_cases h3 : c.toNat < 32
  · have hr : markedB c m = mbit m c.toNat := by simp [markedB, h1, h2, h3]
    clear h1 h2
    go_enter Tryz.func99, Tryz.ntmps99
    have Hr := Lib.hid hr
    clear hr
    have hb : bits BinOp.and IntKind.i64 (m / 2 ^ c.toNat) 1 = (m / 2 ^ c.toNat) % 2 := i64_low _ 1 (by omega)
    have Hb := Lib.hid hb
    clear hb
    go_wp2
    go_ret
    refine ⟨?_, rfl⟩
    show Ending.returned (Value.bool (bits BinOp.and IntKind.i64 (m / 2 ^ c.toNat) 1 == 1)) = _
    rw [Hr.out, Hb.out]; rfl
  · have hr : markedB c m = false := by simp [markedB, h1, h2, h3]
    clear h1 h2
    go_enter Tryz.func99, Tryz.ntmps99
    go_wp2
    go_ret
    exact ⟨rfl, rfl⟩
theorem u8_xor32 (c : UInt8) : bits BinOp.xor IntKind.u8 (c.toNat : Int) 32 = (((c ^^^ 32).toNat : Nat) : Int) := by
  have := u8_xor_nat c.toNat 32 c.toNat_lt (by omega)
  rw [UInt8.toNat_xor]
  simpa using this
theorem u8_bne {c d : UInt8} (h : c ≠ d) : ((c.toNat : Int) != (d.toNat : Int)) = true := by
  rw [bne_iff_ne]; intro e; exact h (UInt8.toNat_inj.1 (by omega))
theorem u8_beq {c d : UInt8} (h : c ≠ d) : ((c.toNat : Int) == (d.toNat : Int)) = false := by
  rw [beq_eq_false_iff_ne]; intro e; exact h (UInt8.toNat_inj.1 (by omega))
theorem byteCells_snoc (l : List UInt8) (c : UInt8) : Lib.byteCells l ++ [Value.int .u8 (c.toNat : Int)] = Lib.byteCells (l ++ [c]) := by simp [Lib.byteCells]
set_option maxHeartbeats 400000 in
theorem sput_any (s : ByteArray) (m : Int) (w : World) (hs : 2 * s.size ≤ 140737488355328) :
    Calls Tryz.prog 79 #[.string s, .int .i64 m] w fun e w' => e = .returned (.string (bytesOf (stuff m s.data.toList))) ∧ Below w.heap.size w w' := by
  have hfr : Lib.IsBuilder 52 5 w.heap.size w.heap.size (Lib.byteCells []) (w.alloc (.cells #[.pointer none, .slice none 0 0] 52)) := Lib.fresh_isBuilder _ _ w
  have hbl : Below w.heap.size w (w.alloc (.cells #[.pointer none, .slice none 0 0] 52)) := allocB (Below.refl _ _) _
  go_enter Tryz.func79, Tryz.ntmps79
  go_wp2_with fail
  go_loopw [9] (fun i wr => ∃ k : Nat, k ≤ s.size ∧ i = .int .i64 k ∧ Lib.IsBuilder 52 5 w.heap.size w.heap.size (Lib.byteCells (stuff m (s.data.toList.take k))) wr ∧ Below w.heap.size w wr) (fun i _ => s.size - (intOf i).toNat)
  case atStart => exact ⟨0, Nat.zero_le _, rfl, hfr, hbl⟩
  case round =>
    clear hfr hbl
    obtain ⟨k, hk, rfl, hib, hbl⟩ := hrel
    have hlen : (Lib.byteCells (stuff m (s.data.toList.take k))).length ≤ 2 * k := by
      rw [Lib.byteCells_length]
      have := stuff_length m (s.data.toList.take k)
      rw [List.length_take] at this
      omega
    by_cases hlt : k < s.size
    · have hst := stuff_take m s k hlt
      have Hst := Lib.hid hst
      clear hst
      have hsz := hbl.size
      by_cases hmk : markedB s[k] m = true
      · have hsb : stuffB m s[k] = [125, s[k] ^^^ 32] := by unfold stuffB; rw [if_pos hmk]
        have Hsb := Lib.hid hsb
        have Hmk := Lib.hid hmk
        clear hsb hmk
        have hx := u8_xor32 s[k]
        go_wp2_with fail
        refine (marked_any s[k] m _).mono ?_
        rintro e w1 ⟨rfl, rfl⟩
        rw [Hmk.out]
        go_wp2_with fail
        refine (writeByte w.heap.size w.heap.size _ 125 _ hib (by omega) hsz).mono ?_
        rintro e w2 ⟨rfl, hib2, hbl2⟩
        have hsz2 := hbl2.size
        go_wp2_with fail
        refine (writeByte w.heap.size w.heap.size _ _ _ (.inr hib2) (by rw [List.length_append]; simp; omega) (by omega)).mono ?_
        rintro e w3 ⟨rfl, hib3, hbl3⟩
        go_wp2_with fail
        go_roundw
        case rel =>
          refine ⟨k + 1, by omega, by go_num, .inr ?_, (hbl.trans hbl2).trans hbl3⟩
          rw [Hst.out, Hsb.out]
          have e : Lib.byteCells (stuff m (s.data.toList.take k) ++ [125, s[k] ^^^ 32]) = Lib.byteCells (stuff m (s.data.toList.take k)) ++ [Value.int .u8 125] ++ [Value.int .u8 ((s[k] ^^^ 32).toNat : Int)] := by simp [Lib.byteCells]
          rw [e]; exact hib3
        case measure => simp [intOf]; omega
      · have hmk' : markedB s[k] m = false := by simpa using hmk
        have hsb : stuffB m s[k] = [s[k]] := by unfold stuffB; rw [if_neg hmk]
        have Hsb := Lib.hid hsb
        have Hmk := Lib.hid hmk'
        clear hsb hmk hmk'
        go_wp2_with fail
        refine (marked_any s[k] m _).mono ?_
        rintro e w1 ⟨rfl, rfl⟩
        rw [Hmk.out]
        go_wp2_with fail
        refine (writeByte w.heap.size w.heap.size _ _ _ hib (by omega) hsz).mono ?_
        rintro e w2 ⟨rfl, hib2, hbl2⟩
        go_wp2_with fail
        go_roundw
        case rel =>
          refine ⟨k + 1, by omega, by go_num, .inr ?_, hbl.trans hbl2⟩
          rw [Hst.out, Hsb.out, ← byteCells_snoc]; exact hib2
        case measure => simp [intOf]; omega
    · obtain rfl : k = s.size := by omega
      have hsz := hbl.size
      have e : s.data.toList.take s.size = s.data.toList := List.take_of_length_le (by simp)
      rw [e] at hib
      clear e
      go_wp2_with fail
      refine (builderString w.heap.size w.heap.size _ _ hib hsz).mono ?_
      rintro e w1 ⟨rfl, hb1⟩
      go_wp2_with fail
      go_ret
      exact ⟨rfl, hbl.trans hb1⟩
/-! ### Flag, Get -/
theorem flag_any (w : World) : Calls Tryz.prog 78 #[] w fun e w' => e = .returned (.string (bytesOf [126])) ∧ Below w.heap.size w w' := by
  have hcv : ∀ (w : World) (a : Int), (convert 27 9 (.slice (some ⟨w.heap.size, 0, none⟩) 1 1)).run Tryz.prog (w.alloc (.cells #[.int .u8 a] 5)) = .ok (.string (strOfNums [a])) (w.alloc (.cells #[.int .u8 a] 5)) :=
    fun w a => conv_row w _ _ _ Tryz.underlying27 Tryz.underlying5 Tryz.underlying9 [a] 1 rfl
  go_enter Tryz.func78, Tryz.ntmps78
  go_wp2
  go_ret
  exact ⟨rfl, allocB (Below.refl _ _) _⟩
theorem index_mem (l : List UInt8) : (126 ∈ l ∧ 0 ≤ Lib.indexByte l 126) ∨ (126 ∉ l ∧ Lib.indexByte l 126 = -1) := by
  induction l with
  | nil => right; simp [Lib.indexByte]
  | cons c l ih =>
    by_cases h : c = 126
    · left; subst h; simp [Lib.indexByte]
    · have h' : (c == (126 : UInt8)) = false := beq_eq_false_iff_ne.2 h
      rcases ih with ⟨a, b⟩ | ⟨a, b⟩
      · left
        refine ⟨by simp [a], ?_⟩
        simp only [Lib.indexByte, h', Bool.false_eq_true, if_false]
        rw [if_neg (by simp; omega)]; omega
      · right
        refine ⟨by simp [a]; exact fun e => h e.symm, ?_⟩
        simp [Lib.indexByte, h', b]
/-- what the rest gives, put behind what was got -/
def after (acc : List UInt8) (r : Option (List UInt8)) : Option (List UInt8) := r.map (acc ++ ·)
theorem after_nil (r : Option (List UInt8)) : after [] r = r := by cases r <;> rfl
theorem after_cons (acc : List UInt8) (c : UInt8) (r : Option (List UInt8)) : after acc (r.map (c :: ·)) = after (acc ++ [c]) r := by cases r <;> simp [after]
theorem drop_at (l : List UInt8) (k : Nat) (h : k < l.length) : l.drop k = l[k] :: l.drop (k + 1) := List.drop_eq_getElem_cons h
theorem un_plain {c : UInt8} (h : c ≠ 125) (r : List UInt8) : un (c :: r) = (un r).map (c :: ·) := by
  conv => lhs; unfold un
  split
  · rename_i heq; simp at heq
  · rename_i heq; exact absurd (List.cons.inj heq).1 h
  · rename_i heq; obtain ⟨rfl, rfl⟩ := List.cons.inj heq; rfl
theorem un_mark (c : UInt8) (r : List UInt8) : un (125 :: c :: r) = (un r).map ((c ^^^ 32) :: ·) := by simp [un]
theorem un_end : un [125] = none := by simp [un]
theorem un_step1 {l acc : List UInt8} {k : Nat} (h : k < l.length) (hc : l[k] ≠ 125) (hu : un l = after acc (un (l.drop k))) : un l = after (acc ++ [l[k]]) (un (l.drop (k + 1))) := by
  rw [hu, drop_at l k h, un_plain hc, after_cons]
theorem un_step2 {l acc : List UInt8} {k : Nat} (h : k + 1 < l.length) (hc : l[k] = 125) (hu : un l = after acc (un (l.drop k))) : un l = after (acc ++ [l[k + 1] ^^^ 32]) (un (l.drop (k + 2))) := by
  rw [hu, drop_at l k (by omega), drop_at l (k + 1) h, hc, un_mark, after_cons]
theorem un_stop {l acc : List UInt8} {k : Nat} (h : k + 1 = l.length) (hc : l[k] = 125) (hu : un l = after acc (un (l.drop k))) : un l = none := by
  rw [hu, drop_at l k (by omega), hc, List.drop_eq_nil_of_le (by omega), un_end]; rfl
theorem un_done {l acc : List UInt8} (hu : un l = after acc (un (l.drop l.length))) : un l = some acc := by
  rw [hu, List.drop_length]; simp [un, after]
set_option maxHeartbeats 1000000 in
theorem sget_any (s : ByteArray) (w : World) (hs : s.size ≤ 140737488355328) :
    Calls Tryz.prog 82 #[.string s] w fun e w' => e = .returned (.tuple #[.string (bytesOf (unstuff s.data.toList).1), .int .i64 (unstuff s.data.toList).2]) ∧ Below w.heap.size w w' := by
  rcases index_mem s.data.toList with ⟨hm, hi⟩ | ⟨hm, hi⟩
  · have hr : unstuff s.data.toList = ([], 201) := by unfold unstuff; rw [if_pos hm]
    have Hr := Lib.hid hr
    clear hr hm
    have hge : (0 : Int) ≤ Lib.indexByte s.data.toList (126 : Int).toNat.toUInt8 := hi
    clear hi
    go_enter Tryz.func82, Tryz.ntmps82
    go_wp2_with fail
    refine (indexByte _ _ _).mono ?_
    rintro e w1 ⟨rfl, rfl⟩
    generalize Lib.indexByte s.data.toList (126 : Int).toNat.toUInt8 = ix at hge ⊢
    go_wp2_with fail
    go_ret2
    exact ⟨by rw [Hr.out]; rfl, Below.refl _ _⟩
  · have hfr : Lib.IsBuilder 52 5 w.heap.size w.heap.size (Lib.byteCells []) (w.alloc (.cells #[.pointer none, .slice none 0 0] 52)) := Lib.fresh_isBuilder _ _ w
    have hbl : Below w.heap.size w (w.alloc (.cells #[.pointer none, .slice none 0 0] 52)) := allocB (Below.refl _ _) _
    have hlt : Lib.indexByte s.data.toList (126 : Int).toNat.toUInt8 = -1 := hi
    clear hi
    have hls : s.data.toList.length = s.size := len_toList s
    have Hls := Lib.hid hls
    clear hls
    have hr : ∀ r, un s.data.toList = r → unstuff s.data.toList = match r with | none => ([], 200) | some r => (r, 0) := by
      intro r h; unfold unstuff; rw [if_neg hm, h]
    have Hr := Lib.hid hr
    clear hr hm
    go_enter Tryz.func82, Tryz.ntmps82
    go_wp2_with fail
    refine (indexByte _ _ _).mono ?_
    rintro e w1 ⟨rfl, rfl⟩
    rw [hlt]
    clear hlt
    go_wp2_with fail
    go_loopw [5] (fun i wr => ∃ (k : Nat) (acc : List UInt8), k ≤ s.size ∧ i = .int .i64 k ∧ acc.length ≤ k ∧ Hid (un s.data.toList = after acc (un (s.data.toList.drop k))) ∧ Lib.IsBuilder 52 5 w1.heap.size w1.heap.size (Lib.byteCells acc) wr ∧ Below w1.heap.size w1 wr) (fun i _ => s.size - (intOf i).toNat)
    case atStart => exact ⟨0, [], Nat.zero_le _, rfl, Nat.le_refl _, by rw [after_nil]; rfl, hfr, hbl⟩
    case round =>
      clear hfr hbl
      obtain ⟨k, acc, hk, rfl, hal, hu, hib, hbl⟩ := hrel
      have hsz := hbl.size
      have hlen : (Lib.byteCells acc).length ≤ k := by rw [Lib.byteCells_length]; exact hal
      by_cases hlt : k < s.size
      · by_cases hc : s[k] = 125
        · have e1 : ((s[k].toNat : Int) != 125) = false := by rw [hc]; rfl
          by_cases hend : k + 1 = s.size
          · have e2 : ((k : Int) + 1 == (s.size : Int)) = true := beq_iff_eq.2 (by omega)
            have hn : un s.data.toList = none := un_stop (by rw [Hls.out]; exact hend) hc hu.out
            have Hn := Lib.hid hn
            clear hn hc
            go_wp2_with fail
            go_ret2
            exact ⟨by rw [Hr.out _ Hn.out]; rfl, hbl⟩
          · have e2 : ((k : Int) + 1 == (s.size : Int)) = false := beq_eq_false_iff_ne.2 (by omega)
            have hlt2 : k + 1 < s.size := by omega
            have hn := un_step2 (by rw [Hls.out]; exact hlt2) hc hu.out
            have Hn := Lib.hid hn
            have hx := u8_xor32 s[k + 1]
            clear hn hc
            go_wp2_with fail
            refine (writeByte w1.heap.size w1.heap.size _ _ _ hib (by omega) hsz).mono ?_
            rintro e w2 ⟨rfl, hib2, hbl2⟩
            have hib3 : Lib.BuilderAt 52 5 w1.heap.size w1.heap.size (.pointer (some ⟨w1.heap.size, 0, none⟩)) (Lib.byteCells (acc ++ [s[k + 1] ^^^ 32])) w2 := by
              rw [← byteCells_snoc, UInt8.toNat_xor]; exact hib2
            go_wp2_with fail
            go_roundw
            case rel => exact ⟨k + 2, _, by omega, by go_num, by rw [List.length_append]; simp; omega, Hn.out, .inr hib3, hbl.trans hbl2⟩
            case measure => simp [intOf]; omega
        · have e1 : ((s[k].toNat : Int) != 125) = true := by
            exact u8_bne hc
          have hn := un_step1 (by rw [Hls.out]; exact hlt) hc hu.out
          have Hn := Lib.hid hn
          clear hn hc
          go_wp2_with fail
          refine (writeByte w1.heap.size w1.heap.size _ _ _ hib (by omega) hsz).mono ?_
          rintro e w2 ⟨rfl, hib2, hbl2⟩
          rw [byteCells_snoc] at hib2
          go_wp2_with fail
          go_roundw
          case rel => exact ⟨k + 1, _, by omega, by go_num, by rw [List.length_append]; simp; omega, Hn.out, .inr hib2, hbl.trans hbl2⟩
          case measure => simp [intOf]; omega
      · obtain rfl : k = s.size := by omega
        have hn : un s.data.toList = some acc := un_done (by rw [Hls.out]; exact hu.out)
        have Hn := Lib.hid hn
        clear hn
        go_wp2_with fail
        refine (builderString w1.heap.size w1.heap.size _ _ hib hsz).mono ?_
        rintro e w2 ⟨rfl, hb2⟩
        go_wp2_with fail
        go_ret2
        exact ⟨by rw [Hr.out _ Hn.out]; rfl, hbl.trans hb2⟩
end Go.Proofs.YteigigepmoicaaaGreatDoor
