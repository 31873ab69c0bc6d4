/- withyref0.Decimal: walked. -/
import Derived.Test.YteigigepmoicaaaGreatDoorMg1
import Derived.Test.YteigigepmoicaaaGreatDoorMg2
import Derived.Laws.AppendOwnNone
namespace Go.Proofs.YteigigepmoicaaaGreatDoor
open Go.RowKit
set_option linter.unusedVariables false
set_option linter.unusedSimpArgs false
/-- append([]byte{c}, out...) -/
theorem wpList_appFront {ops : Array Oper} {rest : List Oper} {o : Oper} {a : Act} {w : World} {Q : Exit → Act → World → Prop} (hgd : o.guard = none) (s x : Operand)
    (ho : o.op = .call { callee := .builtin .append, args := #[s, x], argTypes := #[27, 27] })
    (W0 : World) (v2 : Value) (c : UInt8) (l2 : List UInt8) (n : Int) (k : Nat) (hn : n = c.toNat) (hv2 : Own w W0.heap.size v2 l2) (hs : a.eval s = .slice (some ⟨w.heap.size, 0, none⟩) 1 k) (hk : k = 1) (hx : a.eval x = v2)
    (hlen : l2.length + 1 ≤ 140737488355328) (hbel : Below W0.heap.size W0 w)
    (h : ∀ v' w', Own w' W0.heap.size v' (c :: l2) → Below W0.heap.size W0 w' → wpList Tryz.prog ops Q rest (a.put o.dst v') w') :
    wpList Tryz.prog ops Q (o :: rest) a (w.alloc (.cells #[.int .u8 n] 5)) := by
  subst hn hk
  obtain ⟨i0, hi, hz0, hz1, hz2⟩ := info_parts infoU8
  have hb2 : Below W0.heap.size W0 (w.alloc (.cells #[.int .u8 c.toNat] 5)) := allocB hbel _
  have hrow : (w.alloc (.cells #[.int .u8 c.toNat] 5)).ownsRow W0.heap.size 5 1 (.slice (some ⟨w.heap.size, 0, none⟩) 1 1) 1 (Lib.byteCells [c]) :=
    ⟨rfl, .inr ⟨w.heap.size, 1, #[.int .u8 c.toNat], rfl, hbel.size, (MapKept.heap_alloc w _).1, by decide, by decide, rfl, rfl⟩⟩
  have hv3 := hv2.below ((Below.refl _ w).alloc (Nat.le_refl _) (.cells #[.int .u8 c.toNat] 5))
  rcases hv3.2 with ⟨rfl, h0⟩ | ⟨g, cap, cur, rfl, hg, hh, hn, hm, hcs, htk⟩
  · obtain rfl : l2 = [] := List.eq_nil_of_length_eq_zero h0
    exact wpList_append_own_none hgd s x _ ho W0.heap.size 5 i0 1 Tryz.underlying27 hi _ 1 _ hs hrow hx (h _ _ hrow hb2)
  · refine wpList_append_own_at _ hgd s x _ ho W0.heap.size 5 i0 (.int .u8 0) 1 1 Tryz.underlying27 hi hz0 hz1 hz2 rfl (by decide) _ 1 (Lib.byteCells [c]) hs hrow ⟨g, 0, none⟩ l2.length cap (Lib.byteCells l2) hx (by rw [Lib.byteCells_length, Nat.mul_one]) ?_ ?_ ?_ ?_ hb2.size ?_
    · intro j u hu
      have hadd : (⟨g, 0, none⟩ : Addr).add j = ⟨g, j, none⟩ := by unfold Addr.add; split <;> simp_all
      rw [hadd]
      have hj : j < l2.length := by have := (List.getElem?_eq_some_iff.1 hu).1; rwa [Lib.byteCells_length] at this
      have e : cur[j]? = (Lib.byteCells l2)[j]? := by
        rw [← htk, List.getElem?_take, if_pos (by omega)]; simp
      simp [World.cell?, hh, e, hu]
    · intro u hu
      obtain ⟨b, _, rfl⟩ := List.mem_map.1 hu
      rfl
    · simp only [maxLen]; omega
    · omega
    · intro v' w' hown' hgr _ _
      refine h v' w' ?_ (hb2.grown hgr hb2.size (fun k hk => by cases hk; exact hbel.size))
      have e : Lib.byteCells (c :: l2) = Lib.byteCells [c] ++ Lib.byteCells l2 := by simp [Lib.byteCells]
      unfold Own
      rw [e, List.length_cons, Nat.add_comm]
      exact hown'
theorem decF_len' : ∀ (f u : Nat), (decF f u).length ≤ f
  | 0, u => by simp [decF]
  | f + 1, u => by
    unfold decF
    split
    · simp
    · have := decF_len' f (u / 10); simp; omega
def decU (u : Nat) : List UInt8 := if u = 0 then [] else decF 20 u
theorem dec_step (u : Nat) (h : u < 10 ^ 20) : decF 20 u = decU (u / 10) ++ [UInt8.ofNat (48 + u % 10)] := by
  rw [decF_eq 20 u h (by omega), Lib.decDigits]
  unfold decU
  by_cases h10 : u < 10
  · rw [dif_pos h10, if_pos (by omega), Nat.mod_eq_of_lt h10]; rfl
  · rw [dif_neg h10, if_neg (by omega), decF_eq 20 (u / 10) (by omega) (by omega)]
theorem dig_wrap (u : Nat) : (48 + ((u : Int) % 10)) = ((UInt8.ofNat (48 + u % 10)).toNat : Int) := by
  have h : ∀ k : Fin 10, (UInt8.ofNat (48 + k.val)).toNat = 48 + k.val := by decide +kernel
  have := h ⟨u % 10, by omega⟩
  dsimp only at this
  rw [this]
  omega
def decMs (v u : Value) : Nat := 2 * (intOf u).toNat + (match v with | .slice _ n _ => if n = 0 then 1 else 0 | _ => 0)
def DecRel (w : World) (U : Nat) (u v : Value) (wr : World) : Prop := ∃ (x : Nat) (acc : List UInt8), u = .int .u64 (x : Nat) ∧ x ≤ U ∧ Own wr w.heap.size v acc ∧ acc.length ≤ 20 ∧ Hid ((acc = [] ∧ x = U) ∨ (acc ≠ [] ∧ decF 20 U = decU x ++ acc)) ∧ Below w.heap.size w wr
set_option maxRecDepth 100000 in
set_option maxHeartbeats 4000000 in
theorem decimal_any (n : Int) (h0 : 0 ≤ n) (h1 : n ≤ 9223372036854775807) (w : World) :
    Calls Tryz.prog 15 #[.int .i64 n] w fun e w' => e = .returned (.string (bytesOf (itoaM n))) ∧ Below w.heap.size w w' := by
  obtain ⟨U, rfl⟩ : ∃ U : Nat, n = U := ⟨n.toNat, by omega⟩
  have hD : itoaM (U : Int) = decF 20 U := by unfold itoaM; rw [if_neg (by omega)]; rfl
  have HD := Lib.hid hD
  have hneg : ¬ (U : Int) < 0 := by omega
  have hwr : IntKind.u64.wrap (U : Int) = U := by rw [IntKind.wrap_u64]; omega
  clear hD
  go_enter Tryz.func15, Tryz.ntmps15
  go_wp2_with fail
  go_loopw [3, 4] (fun u v wr => DecRel w U u v wr) (fun u v _ => decMs v u)
  case atStart => exact ⟨U, [], rfl, Nat.le_refl _, Own.nil _ _, by simp, Lib.hid (.inl ⟨rfl, rfl⟩), Below.refl _ _⟩
  case round =>
    obtain ⟨x, acc, rfl, hxU, hown, hal, HA, hbl⟩ := hrel
    obtain ⟨va, vc, rfl⟩ := hown.form
    by_cases hx : 0 < x
    · have hxi : (0 : Int) < (x : Int) := by omega
      have hu20 : U < 10 ^ 20 := by omega
      have HS : Hid ((decF 20 U = decU (x / 10) ++ UInt8.ofNat (48 + x % 10) :: acc) ∧ acc.length + 1 ≤ 20) := Lib.hid (by
        rcases HA.out with ⟨rfl, rfl⟩ | ⟨hne, he⟩
        · exact ⟨dec_step x hu20, by simp⟩
        · have e2 : decF 20 U = decU (x / 10) ++ UInt8.ofNat (48 + x % 10) :: acc := by
            rw [he]
            unfold decU
            rw [if_neg (by omega), dec_step x (by omega)]
            unfold decU
            simp
          refine ⟨e2, ?_⟩
          have h3 := decF_len' 20 U
          rw [e2, List.length_append, List.length_cons] at h3
          omega)
      go_wp2_with (at_builtin; refine wpList_appFront rfl _ _ rfl w _ (UInt8.ofNat (48 + x % 10)) acc _ _ (dig_wrap x) hown rfl rfl rfl (by omega) hbl ?_; intro v' w1 hown1 hbl1)
      go_roundw
      case rel => exact ⟨x / 10, _, by go_num, by omega, hown1, by have := HS.out.2; simpa using this, Lib.hid (.inr ⟨by simp, HS.out.1⟩), hbl1⟩
      case measure =>
        obtain ⟨a', c', rfl⟩ := hown1.form
        simp [intOf, decMs]
        split <;> omega
    · obtain rfl : x = 0 := by omega
      by_cases ha : acc = []
      · subst ha
        obtain rfl : U = 0 := by
          rcases HA.out with ⟨_, h⟩ | ⟨h, _⟩
          · exact h.symm
          · exact absurd rfl h
        have HS : Hid (decF 20 0 = [UInt8.ofNat (48 + 0 % 10)]) := Lib.hid (by decide)
        have hdw := dig_wrap 0
        go_wp2_with (at_builtin; refine wpList_appFront rfl _ _ rfl w _ (UInt8.ofNat (48 + 0 % 10)) [] _ _ rfl hown rfl rfl rfl (by simp) hbl ?_; intro v' w1 hown1 hbl1)
        go_roundw
        case rel => exact ⟨0, [UInt8.ofNat (48 + 0 % 10)], rfl, Nat.le_refl _, hown1, by decide, Lib.hid (.inr ⟨by decide, HS.out⟩), hbl1⟩
        case measure =>
          obtain ⟨a', c', rfl⟩ := hown1.form
          simp [intOf, decMs]
      · have HE : Hid (decF 20 U = acc) := Lib.hid (by
          rcases HA.out with ⟨h, _⟩ | ⟨_, h⟩
          · exact absurd h ha
          · rw [h]; rfl)
        have hl1 : acc.length ≠ 0 := fun h => ha (List.eq_nil_of_length_eq_zero h)
        have hl0 : ((acc.length : Int) == 0) = false := by rw [beq_eq_false_iff_ne]; omega
        have hcv := hown.conv
        clear ha
        go_wp2_with fail
        go_ret
        exact ⟨by rw [HD.out, HE.out]; rfl, hbl⟩
end Go.Proofs.YteigigepmoicaaaGreatDoor
