/- Odd protocol numbers; rows of frames. -/
import Derived.Test.YthijchjdkicbdaaDoorLawFrame
import Derived.Test.YthijchjdkicbdaaDoorFramePlain
import Derived.Test.YthijchjdkicbdaaDoorLawStuff3
namespace Go.Proofs.YthijchjdkicbdaaDoor
open Go.RowKit Go.Crc
theorem i64_and_any (n : Int) (m : Nat) (hm : m < 9223372036854775808) : bits .and .i64 n (m : Int) = (((n % 18446744073709551616).toNat &&& m : Nat) : Int) := by
  have hx : (n % 18446744073709551616).toNat &&& m < 2 ^ 63 := Nat.and_lt_two_pow _ (by omega)
  show IntKind.i64.wrap ((BitVec.ofInt 64 n &&& BitVec.ofInt 64 (m : Int)).toNat : Int) = _
  rw [BitVec.toNat_and, ofInt_i64 m hm, BitVec.toNat_ofInt, IntKind.wrap_i64]
  have e : (n % ((2 ^ 64 : Nat) : Int)) = n % 18446744073709551616 := rfl
  rw [e]
  omega
def oddP (p : Int) : Nat := ((p % 18446744073709551616).toNat &&& 65278) ||| 1
theorem oddP_ok (p : Int) : protoOk (oddP p : Int) = true ∧ oddP p < 65536 := by
  have hlt : oddP p < 2 ^ 16 := Nat.or_lt_two_pow (Nat.and_lt_two_pow _ (by decide)) (by decide)
  have h0 : oddP p % 2 = 1 := by
    have : (oddP p).testBit 0 = true := by unfold oddP; rw [Nat.testBit_or]; simp
    simpa [Nat.testBit_zero] using this
  have h8 : oddP p / 256 % 2 = 0 := by
    have : (oddP p).testBit 8 = false := by
      unfold oddP; rw [Nat.testBit_or, Nat.testBit_and]
      have e1 : Nat.testBit 65278 8 = false := by decide
      have e2 : Nat.testBit 1 8 = false := by decide
      rw [e1, e2]; simp
    rw [Nat.testBit_eq_decide_div_mod_eq] at this
    have := of_decide_eq_false this
    have : oddP p / 2 ^ 8 % 2 ≠ 1 := this
    omega
  refine ⟨?_, hlt⟩
  simp only [protoOk, Bool.and_eq_true, decide_eq_true_eq, beq_iff_eq]
  omega

theorem infoFrame : (Tryd.prog.info? 42).map (fun i => (i.zero, i.size, i.bytes)) = some (some (.agg #[.int .i64 0, .string ByteArray.empty]), 2, 24) := by kernel_rfl
def frameCells (fs : List (Int × ByteArray)) : List Value := fs.flatMap fun f => [.int .i64 f.1, .string f.2]
theorem frameCells_length (fs : List (Int × ByteArray)) : (frameCells fs).length = fs.length * 2 := by
  induction fs with
  | nil => rfl
  | cons f fs ih => simp only [frameCells, List.flatMap_cons, List.length_append, List.length_cons, List.length_nil] at ih ⊢; omega
theorem frameCells_at (fs : List (Int × ByteArray)) : ∀ j (h : j < fs.length), (frameCells fs)[j * 2]? = some (.int .i64 fs[j].1) ∧ (frameCells fs)[j * 2 + 1]? = some (.string fs[j].2) := by
  induction fs with
  | nil => intro j h; simp at h
  | cons f fs ih =>
    intro j h
    have e : frameCells (f :: fs) = .int .i64 f.1 :: .string f.2 :: frameCells fs := rfl
    cases j with
    | zero => rw [e]; exact ⟨rfl, rfl⟩
    | succ j =>
      have h' := ih j (by simpa using h)
      have e1 : (j + 1) * 2 = j * 2 + 1 + 1 := by omega
      rw [e, e1]
      exact h'
def OwnF (w : World) (base : Nat) (v : Value) (fs : List (Int × ByteArray)) : Prop := w.ownsRow base 42 2 v fs.length (frameCells fs)
theorem OwnF.nil (w : World) (base : Nat) : OwnF w base (.slice none 0 0) [] := ⟨rfl, .inl ⟨rfl, rfl⟩⟩
theorem OwnF.block {w : World} {base : Nat} {v : Value} {l : List (Int × ByteArray)} (h : OwnF w base v l) : ∀ k, v.ownBlock = some k → base ≤ k := by
  intro k hk
  rcases h.2 with ⟨rfl, _⟩ | ⟨g, cap, cur, rfl, hg, _⟩
  · cases hk
  · cases hk; exact hg
theorem OwnF.below {w w' : World} {base : Nat} {v : Value} {l : List (Int × ByteArray)} (h : OwnF w base v l) (hb : Below w.heap.size w w') : OwnF w' base v l := by
  refine ⟨h.1, ?_⟩
  rcases h.2 with h2 | ⟨g, cap, cur, hv, hg, hh, r⟩
  · exact .inl h2
  · exact .inr ⟨g, cap, cur, hv, hg, (hb.block g (Array.getElem?_eq_some_iff.1 hh).1).trans hh, r⟩
theorem OwnF.form {w : World} {base : Nat} {v : Value} {l : List (Int × ByteArray)} (h : OwnF w base v l) : ∃ a c, v = .slice a l.length c := by
  rcases h.2 with ⟨rfl, h0⟩ | ⟨g, cap, cur, rfl, _⟩
  · exact ⟨none, 0, by rw [h0]⟩
  · exact ⟨_, _, rfl⟩
theorem OwnF.cell {w : World} {base : Nat} {a : Option Addr} {n c : Nat} {l : List (Int × ByteArray)} (h : OwnF w base (.slice a n c) l) (j : Nat) (hj : j < l.length) :
    ∃ g, a = some ⟨g, 0, none⟩ ∧ w.cell? ⟨g, j * 2, none⟩ = some (.int .i64 l[j].1) ∧ w.cell? ⟨g, j * 2 + 1, none⟩ = some (.string l[j].2) := by
  rcases h.2 with ⟨_, h0⟩ | ⟨g, cap, cur, hv, hg, hh, hn, hm, hs, ht⟩
  · omega
  · cases hv
    obtain ⟨c1, c2⟩ := frameCells_at l j hj
    have e : ∀ i, i < l.length * 2 → cur[i]? = (frameCells l)[i]? := by
      intro i hi
      rw [← ht, List.getElem?_take, if_pos hi]; simp
    exact ⟨g, rfl, by simp [World.cell?, hh, e (j * 2) (by omega), c1], by simp [World.cell?, hh, e (j * 2 + 1) (by omega), c2]⟩
/-- append of one frame that was just laid in a row of its own -/
theorem wpList_appF {ops : Array Oper} {rest : List Oper} {o : Oper} {a : Act} {w : World} {Q : Exit → Act → World → Prop} (hgd : o.guard = none) (s x : Operand)
    (ho : o.op = .call { callee := .builtin .append, args := #[s, x], argTypes := #[40, 40] })
    (W0 : World) (v : Value) (l : List (Int × ByteArray)) (p : Int) (d : ByteArray) (c : Nat) (hown : OwnF w W0.heap.size v l) (hs : a.eval s = v) (hx : a.eval x = .slice (some ⟨w.heap.size, 0, none⟩) 1 c)
    (hlen : (l.length + 1) * 24 ≤ 140737488355328) (hbel : Below W0.heap.size W0 w)
    (h : ∀ v' w', OwnF w' W0.heap.size v' (l ++ [(p, d)]) → Below W0.heap.size W0 w' → wpList Tryd.prog ops Q rest (a.put o.dst v') w') :
    wpList Tryd.prog ops Q (o :: rest) a (w.alloc (.cells #[.int .i64 p, .string d] 42)) := by
  obtain ⟨i0, hi, hz0, hz1, hz2⟩ := info_parts infoFrame
  have hb2 : Below W0.heap.size W0 (w.alloc (.cells #[.int .i64 p, .string d] 42)) := allocB hbel _
  refine wpList_append_own _ hgd s x _ ho W0.heap.size 42 i0 (.agg #[.int .i64 0, .string ByteArray.empty]) 2 24 Tryd.underlying40 hi hz0 hz1 hz2 rfl (by decide) v l.length (frameCells l) hs (hown.below ((Below.refl _ _).alloc (Nat.le_refl _) _)) ⟨w.heap.size, 0, none⟩ 1 c [.int .i64 p, .string d] hx rfl ?_ ?_ ?_ ?_ ?_ ?_
  · intro j u hu
    have hadd : (⟨w.heap.size, 0, none⟩ : Addr).add j = ⟨w.heap.size, j, none⟩ := by unfold Addr.add; split <;> simp_all
    rw [hadd, World.cell?_alloc_new]
    simpa using hu
  · intro u hu
    simp only [List.mem_cons, List.not_mem_nil, or_false] at hu
    rcases hu with rfl | rfl <;> rfl
  · simp only [maxLen]; omega
  · exact hlen
  · exact hb2.size
  · intro v' w' hown' hg _
    refine h v' w' ?_ (hb2.grown hg hb2.size hown.block)
    have e : frameCells (l ++ [(p, d)]) = frameCells l ++ [.int .i64 p, .string d] := by simp [frameCells]
    unfold OwnF
    rw [e, List.length_append]
    exact hown'
/-! ### the text of many frames -/
def frameText (m : Int) (f : Int × ByteArray) : List UInt8 := stuff m (put (headB f.1 ++ f.2.data.toList))
def frames (m : Int) (fs : List (Int × ByteArray)) : List UInt8 := fs.flatMap fun f => flagged (frameText m f)
theorem frames_snoc (m : Int) (fs : List (Int × ByteArray)) (f : Int × ByteArray) : frames m (fs ++ [f]) = frames m fs ++ flagged (frameText m f) := by simp [frames]
theorem frameText_ne (m : Int) (f : Int × ByteArray) : frameText m f ≠ [] := by
  intro e
  have := stuff_count m (put (headB f.1 ++ f.2.data.toList))
  unfold frameText at e
  rw [e, put_length, List.length_nil] at this
  omega
theorem got_frames (m : Int) (fs : List (Int × ByteArray)) : gotOf (frames m fs) = fs.map (frameText m) ∧ restOf (frames m fs) = [] ∧ (cut (frames m fs)).dropLast.filter (fun p => !p.isEmpty) = fs.map (frameText m) := by
  induction fs with
  | nil => exact ⟨rfl, rfl, rfl⟩
  | cons f fs ih =>
    obtain ⟨i1, i2, i3⟩ := ih
    have e : cut (frames m (f :: fs)) = [] :: frameText m f :: cut (frames m fs) := by
      have : frames m (f :: fs) = 126 :: (frameText m f ++ 126 :: frames m fs) := by simp [frames, flagged]
      rw [this, cut, if_pos rfl, cut_append (frameText m f) _ (stuff_noflag _ _)]
    have hne := cut_ne (frames m fs)
    have hT : (frameText m f).isEmpty = false := by
      cases h : frameText m f with
      | nil => exact absurd h (frameText_ne m f)
      | cons _ _ => rfl
    unfold gotOf restOf
    simp only [e]
    have e2 : (frameText m f :: cut (frames m fs)).dropLast = frameText m f :: (cut (frames m fs)).dropLast := List.dropLast_cons_of_ne_nil hne
    refine ⟨?_, ?_, ?_⟩
    · rw [List.tail_cons, e2, List.filter_cons]; simp only [hT, Bool.not_false, if_true]; rw [i3]; rfl
    · rw [List.getLast_cons (by simp), List.getLast_cons hne]; exact i2
    · rw [List.dropLast_cons_of_ne_nil (by simp), e2, List.filter_cons, List.filter_cons]; simp only [hT, Bool.not_false, if_true, List.isEmpty_nil, Bool.not_true]; rw [i3]; rfl
end Go.Proofs.YthijchjdkicbdaaDoor
