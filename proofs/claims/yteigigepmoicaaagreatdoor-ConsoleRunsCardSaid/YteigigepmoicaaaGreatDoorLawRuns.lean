/- ConsoleRuns walked. -/
import Derived.Test.YteigigepmoicaaaGreatDoorCon29
import Derived.Test.YteigigepmoicaaaGreatDoorCon19
import Derived.Lib.AppendStr
namespace Go.Proofs.YteigigepmoicaaaGreatDoor
open Go.RowKit Go.Crc
set_option linter.unusedVariables false
set_option linter.unusedSimpArgs false
/-- append of all of a text -/
theorem wpList_appS {ops : Array Oper} {rest : List Oper} {o : Oper} {a : Act} {w : World} {Q : Exit → Act → World → Prop} (hgd : o.guard = none) (s x : Operand)
    (ho : o.op = .call { callee := .builtin .append, args := #[s, x], argTypes := #[27, 9] })
    (W0 : World) (v : Value) (l news : List UInt8) (hown : Own w W0.heap.size v l) (hs : a.eval s = v) (hx : a.eval x = .string (bytesOf news))
    (hlen : l.length + news.length ≤ 140737488355328) (hbel : Below W0.heap.size W0 w)
    (h : ∀ v' w', Own w' W0.heap.size v' (l ++ news) → Below W0.heap.size W0 w' → wpList Tryz.prog ops Q rest (a.put o.dst v') w') :
    wpList Tryz.prog ops Q (o :: rest) a w := by
  obtain ⟨i0, hi, hz0, hz1, hz2⟩ := info_parts infoU8
  have hns : (bytesOf news).size = news.length := bytesOf_size news
  refine Lib.wpList_append_own_string _ hgd s x _ _ ho W0.heap.size 5 i0 Tryz.underlying27 Tryz.underlying9 hi hz0 hz1 hz2 v l.length (Lib.byteCells l) hs hown (bytesOf news) hx (by unfold maxLen; omega) (by omega) hbel.size ?_
  intro v' w' hown' hg _
  refine h v' w' ?_ (hbel.grown hg hbel.size hown.block)
  have e : Lib.byteCells (l ++ news) = Lib.byteCells l ++ Lib.strCells (bytesOf news) := by rw [strCells_eq]; simp [Lib.byteCells, bytesOf]
  unfold Own
  rw [e, List.length_append, ← hns]
  exact hown'
theorem one_tell (x : List UInt8) : oneM x = if skipB (wordsM x) then [] else tellT (wordsM x) ++ [10] := by
  unfold oneM tellT
  cases h : skipB (wordsM x) with
  | true => rfl
  | false =>
    have hne : wordsM x ≠ [] := fun e => by rw [e] at h; cases h
    rw [if_neg (by decide), if_neg (by decide), if_neg (by decide), tells_line _ hne]
def RunsInv (L : List UInt8) (k f : Nat) (acc : List UInt8) : Prop := (f ≤ k ∧ k ≤ L.length ∧ runM L = acc ++ runM (L.drop f) ∧ ∀ c ∈ (L.drop f).take (k - f), c ≠ 10) ∨ (k = L.length + 1 ∧ runM L = acc)
theorem runs_start (L : List UInt8) : RunsInv L 0 0 [] := .inl ⟨Nat.le_refl _, Nat.zero_le _, rfl, by simp⟩
theorem line_split (L : List UInt8) (f k : Nat) (hf : f ≤ k) (hk : k < L.length) : L.drop f = (L.drop f).take (k - f) ++ L[k] :: L.drop (k + 1) := by
  have h1 := (List.take_append_drop (k - f) (L.drop f)).symm
  rw [List.drop_drop, show f + (k - f) = k by omega, List.drop_eq_getElem_cons hk] at h1
  exact h1
theorem runs_more {L : List UInt8} {k f : Nat} {acc : List UInt8} (h : RunsInv L k f acc) (hk : k < L.length) (hc : L[k] ≠ 10) : RunsInv L (k + 1) f acc := by
  rcases h with ⟨h1, h2, h3, h4⟩ | ⟨h1, _⟩
  · refine .inl ⟨by omega, hk, h3, fun c hcc => ?_⟩
    rw [show k + 1 - f = (k - f) + 1 by omega, List.take_succ_eq_append_getElem (by rw [List.length_drop]; omega), List.mem_append] at hcc
    rcases hcc with hcc | hcc
    · exact h4 c hcc
    · rw [List.mem_singleton, List.getElem_drop] at hcc
      simp only [show f + (k - f) = k by omega] at hcc
      rw [hcc]; exact hc
  · omega
theorem runs_line {L : List UInt8} {k f : Nat} {acc : List UInt8} (h : RunsInv L k f acc) (hk : k < L.length) (hc : L[k] = 10) : RunsInv L (k + 1) (k + 1) (acc ++ oneM ((L.drop f).take (k - f))) := by
  rcases h with ⟨h1, h2, h3, h4⟩ | ⟨h1, _⟩
  · refine .inl ⟨Nat.le_refl _, hk, ?_, by simp⟩
    rw [h3, List.append_assoc]
    congr 1
    have h5 := line_split L f k h1 hk
    rw [hc] at h5
    conv => lhs; rw [h5]
    rw [run_more, run_line _ h4]
  · omega
theorem runs_last {L : List UInt8} {f : Nat} {acc : List UInt8} (h : RunsInv L L.length f acc) : RunsInv L (L.length + 1) (L.length + 1) (acc ++ oneM ((L.drop f).take (L.length - f))) := by
  rcases h with ⟨h1, h2, h3, h4⟩ | ⟨h1, _⟩
  · refine .inr ⟨rfl, ?_⟩
    rw [List.take_of_length_le (by rw [List.length_drop]; exact Nat.le_refl _)] at h4 ⊢
    rw [h3, run_line _ h4]
  · omega
theorem runs_none {L : List UInt8} {acc : List UInt8} {g : Nat} (h : RunsInv L L.length L.length acc) : RunsInv L (L.length + 1) g acc := by
  rcases h with ⟨h1, h2, h3, h4⟩ | ⟨h1, _⟩
  · refine .inr ⟨rfl, ?_⟩
    rw [h3, List.drop_length, run_nil, List.append_nil]
  · omega
theorem runs_form {L : List UInt8} {k f : Nat} {acc : List UInt8} (h : RunsInv L k f acc) (hk : k ≤ L.length) : f ≤ k := by
  rcases h with ⟨h1, _⟩ | ⟨h1, _⟩
  · exact h1
  · omega
theorem runs_end {L : List UInt8} {f : Nat} {acc : List UInt8} (h : RunsInv L (L.length + 1) f acc) : runM L = acc := by
  rcases h with ⟨_, h2, _⟩ | ⟨_, h2⟩
  · omega
  · exact h2
theorem runs_len {L : List UInt8} {k f : Nat} {acc : List UInt8} (h : RunsInv L k f acc) (hs : L.length ≤ 65536) : acc.length ≤ 1000001 * 65537 := by
  have h1 := run_len L hs
  rcases h with ⟨_, _, h3, _⟩ | ⟨_, h3⟩
  · rw [h3, List.length_append] at h1; omega
  · rw [h3] at h1; exact h1
set_option maxRecDepth 100000 in
set_option maxHeartbeats 4000000 in
theorem lruns_long (a0 : ByteArray) (ml : Int) (w : World) (h : 65536 < a0.size) (ht : TabW w) (hm : MaxLenIs w ml) :
    Calls Tryz.prog 3 #[.string a0] w fun e w' => e = .returned (.bool true) ∧ Below w.heap.size w w' := by
  have haw := fun w ht hm => awake28_any ml w ht hm
  have hrl := fun w => runlong_any a0 w h
  have h1 : (65536 : Int) < a0.size := by omega
  go_enter Tryz.func3, Tryz.ntmps3
  go_wp2_with fail
  refine (hrl _).mono ?_
  rintro e w1 ⟨rfl, hb1⟩
  go_wp2_with (first
    | (go_at_call 12; refine (num_any _ _).mono ?_; rintro e w' ⟨rfl, rfl⟩)
    | (go_at_call 13; refine (haw _ (ht.below hb1) (hm.below hb1)).mono ?_; rintro e w2 ⟨rfl, hb2⟩))
  go_ret
  exact ⟨rfl, seqB hb1 hb2⟩
set_option maxRecDepth 100000 in
set_option maxHeartbeats 4000000 in
theorem lruns_short (a0 : ByteArray) (ml : Int) (w : World) (h : a0.size ≤ 65536) (ht : TabW w) (hm : MaxLenIs w ml) :
    Calls Tryz.prog 3 #[.string a0] w fun e w' => e = .returned (.bool true) ∧ Below w.heap.size w w' := by
  have haw := fun w ht hm => awake28_any ml w ht hm
  have hrs := fun w ht hm => run_any a0 ml w h ht hm
  have h1 : ¬ (65536 : Int) < a0.size := by omega
  have htl := fun (f k : Nat) (hk : k ≤ a0.size) w => ltells_any (a0.extract f k) w (by rw [← len_toList, extract_toList, List.length_take, List.length_drop, len_toList]; omega)
  obtain ⟨L, hL⟩ : ∃ L, a0.data.toList = L := ⟨_, rfl⟩
  have hLs : L.length = a0.size := by rw [← hL]; exact len_toList a0
  have HTL : Hid (∀ f k, k ≤ a0.size → ∀ w, Calls Tryz.prog 14 #[.string (a0.extract f k)] w fun e w' => e = .returned (.tuple #[.string (bytesOf (tellT (wordsM ((L.drop f).take (k - f))))), .bool (!(skipB (wordsM ((L.drop f).take (k - f)))))]) ∧ Below w.heap.size w w') := Lib.hid (fun f k hk w => by
    have := htl f k hk w
    rw [extract_toList, hL] at this
    exact this)
  have hxk : ∀ k (h : k < a0.size), ∃ h' : k < L.length, L[k] = a0[k] := fun k h => ⟨by omega, by subst hL; rfl⟩
  have HXK := Lib.hid hxk
  have HLS := Lib.hid hLs
  rw [hL] at hrs
  obtain ⟨R, hR⟩ : ∃ R, runM L = R := ⟨_, rfl⟩
  have HR := Lib.hid hR
  rw [hR] at hrs
  clear htl hxk hLs hL hR
  go_enter Tryz.func3, Tryz.ntmps3
  go_wp2_with fail
  refine (hrs _ ht hm).mono ?_
  rintro e w1 ⟨rfl, hb1⟩
  go_wp2_with fail
  go_loopw [5, 6, 7] (fun v fv i wr => ∃ (k f : Nat) (acc : List UInt8), i = .int .i64 k ∧ fv = .int .i64 f ∧ k ≤ a0.size + 1 ∧ Hid (RunsInv L k f acc) ∧ Own wr w1.heap.size v acc ∧ Below w1.heap.size w1 wr) (fun _ _ i _ => a0.size + 1 - (intOf i).toNat)
  case atStart => exact ⟨0, 0, [], rfl, rfl, by omega, Lib.hid (runs_start L), Own.nil _ _, Below.refl _ _⟩
  case round =>
    obtain ⟨k, f, acc, rfl, rfl, hk, HI, hown, hbl⟩ := hrel
    have hal := runs_len HI.out (by rw [HLS.out]; exact h)
    obtain ⟨va, vc, rfl⟩ := hown.form
    by_cases hlast : k = a0.size + 1
    · subst hlast
      have hki : ¬ ((a0.size + 1 : Nat) : Int) ≤ (a0.size : Int) := by omega
      have HE : Hid (R = acc) := Lib.hid (by
        rw [← HR.out]
        exact runs_end (f := f) (by rw [HLS.out]; exact HI.out))
      have hcv := hown.conv
      have hself : ((bytesOf R).toList == (bytesOf acc).toList) = true := by rw [HE.out]; exact beq_self_eq_true _
      obtain ⟨X, hX⟩ : ∃ X, bytesOf R = X := ⟨_, rfl⟩
      obtain ⟨Y, hY⟩ : ∃ Y, bytesOf acc = Y := ⟨_, rfl⟩
      rw [hX, hY] at hself
      rw [hY] at hcv
      rw [hX]
      have hbw := seqB hb1 hbl
      clear hX hY hal HI HTL HXK
      go_wp2_with (first
        | (go_at_call 12; refine (num_any _ _).mono ?_; rintro e w' ⟨rfl, rfl⟩)
        | (go_at_call 13; refine (haw _ (ht.below hbw) (hm.below hbw)).mono ?_; rintro e w2 ⟨rfl, hb2⟩))
      go_ret
      exact ⟨rfl, seqB hbw hb2⟩
    · have hki : (k : Int) ≤ (a0.size : Int) := by omega
      have hfk := runs_form HI.out (by rw [HLS.out]; omega)
      by_cases hlt : k < a0.size
      · have hlti : (k : Int) < (a0.size : Int) := by omega
        obtain ⟨hkl, hx⟩ := HXK.out k hlt
        by_cases h10 : a0[k] = 10
        · have hc10 : a0[k].toNat = 10 := by rw [h10]; rfl
          have z1 : ((a0[k].toNat : Int) != 10) = false := by rw [hc10]; rfl
          have hne : ((k : Int) == (a0.size : Int)) = false := by rw [beq_eq_false_iff_ne]; omega
          have HN := Lib.hid (runs_line HI.out hkl (by rw [hx]; exact h10))
          have hal2 := runs_len HN.out (by rw [HLS.out]; exact h)
          have htl := HTL.out f k (by omega)
          have HOT := Lib.hid (one_tell ((L.drop f).take (k - f)))
          obtain ⟨x, hxx⟩ : ∃ x, (L.drop f).take (k - f) = x := ⟨_, rfl⟩
          rw [hxx] at HN htl HOT hal2
          have hfki : (f : Int) ≤ (k : Int) := by omega
          obtain ⟨P, hP⟩ : ∃ P, tellT (wordsM x) = P := ⟨_, rfl⟩
          rw [hP] at htl HOT
          obtain ⟨sk, hsk⟩ : ∃ sk, skipB (wordsM x) = sk := ⟨_, rfl⟩
          rw [hsk] at htl HOT
          clear hxx hP hsk hx h10 hc10
          cases sk with
          | true =>
            have HO : Hid (oneM x = []) := Lib.hid (by rw [HOT.out]; rfl)
            go_wp2_with fail
            refine (htl _).mono ?_
            rintro e w2 ⟨rfl, hb2⟩
            go_wp2_with fail
            go_roundw
            case rel => exact ⟨k + 1, k + 1, acc, by go_num, by go_num, by omega, Lib.hid (by have := HN.out; rw [HO.out, List.append_nil] at this; exact this), hown.below hb2, seqB hbl hb2⟩
            case measure => simp [intOf] <;> omega
          | false =>
            have HO : Hid (oneM x = P ++ [10]) := Lib.hid (by rw [HOT.out]; rfl)
            rw [HO.out, List.length_append, List.length_append] at hal2
            have hal3 : acc.length + P.length + 1 ≤ 1000001 * 65537 := by simpa [Nat.add_assoc] using hal2
            have HL3 := Lib.hid hal3
            clear hal2 hal3 hal
            go_wp2_with fail
            refine (htl _).mono ?_
            rintro e w2 ⟨rfl, hb2⟩
            have hown2 := hown.below hb2
            have hbl2 := seqB hbl hb2
            go_wp2_with (first
              | (at_builtin; refine wpList_appS rfl _ _ rfl w1 _ acc P hown2 rfl rfl (by have := HL3.out; omega) hbl2 ?_; intro v3 w3 hown3 hbl3)
              | (at_builtin; refine wpList_app rfl _ _ rfl w1 _ _ [10] 1 _ _ hown3 rfl rfl rfl rfl (by have := HL3.out; simp; omega) hbl3 ?_; intro v4 w4 hown4 hbl4))
            go_roundw
            case rel => exact ⟨k + 1, k + 1, _, by go_num, by go_num, by omega, Lib.hid (by have := HN.out; rw [HO.out, ← List.append_assoc] at this; exact this), hown4, hbl4⟩
            case measure => simp [intOf] <;> omega
        · have z1 : ((a0[k].toNat : Int) != 10) = true := by
            rw [bne_iff_ne]
            intro e
            exact h10 (UInt8.toNat_inj.1 (by rw [show (10 : UInt8).toNat = 10 from rfl]; omega))
          have HN := Lib.hid (runs_more HI.out hkl (by rw [hx]; exact h10))
          clear hx h10
          go_wp2_with fail
          go_roundw
          case rel => exact ⟨k + 1, f, acc, by go_num, rfl, by omega, HN, hown, hbl⟩
          case measure => simp [intOf] <;> omega
      · obtain rfl : k = a0.size := by omega
        have hlti : ¬ (a0.size : Int) < (a0.size : Int) := by omega
        by_cases hfn : f = a0.size
        · subst hfn
          have HN : Hid (RunsInv L (a0.size + 1) (a0.size) acc) := Lib.hid (by
            rw [← HLS.out]
            exact runs_none (by rw [HLS.out]; exact HI.out))
          go_wp2_with fail
          go_roundw
          case rel => exact ⟨a0.size + 1, a0.size, acc, by go_num, rfl, by omega, HN, hown, hbl⟩
          case measure => simp [intOf] <;> omega
        · have hne : ((f : Int) == (a0.size : Int)) = false := by rw [beq_eq_false_iff_ne]; omega
          have HN : Hid (RunsInv L (a0.size + 1) (a0.size + 1) (acc ++ oneM ((L.drop f).take (a0.size - f)))) := Lib.hid (by
            rw [← HLS.out]
            exact runs_last (by rw [HLS.out]; exact HI.out))
          have hal2 := runs_len HN.out (by rw [HLS.out]; exact h)
          have htl := HTL.out f a0.size (Nat.le_refl _)
          have HOT := Lib.hid (one_tell ((L.drop f).take (a0.size - f)))
          obtain ⟨x, hxx⟩ : ∃ x, (L.drop f).take (a0.size - f) = x := ⟨_, rfl⟩
          rw [hxx] at HN htl HOT hal2
          have hfki : (f : Int) ≤ (a0.size : Int) := by omega
          obtain ⟨P, hP⟩ : ∃ P, tellT (wordsM x) = P := ⟨_, rfl⟩
          rw [hP] at htl HOT
          obtain ⟨sk, hsk⟩ : ∃ sk, skipB (wordsM x) = sk := ⟨_, rfl⟩
          rw [hsk] at htl HOT
          clear hxx hP hsk hfn
          cases sk with
          | true =>
            have HO : Hid (oneM x = []) := Lib.hid (by rw [HOT.out]; rfl)
            go_wp2_with fail
            refine (htl _).mono ?_
            rintro e w2 ⟨rfl, hb2⟩
            go_wp2_with fail
            go_roundw
            case rel => exact ⟨a0.size + 1, a0.size + 1, acc, by go_num, by go_num, by omega, Lib.hid (by have := HN.out; rw [HO.out, List.append_nil] at this; exact this), hown.below hb2, seqB hbl hb2⟩
            case measure => simp [intOf]
          | false =>
            have HO : Hid (oneM x = P ++ [10]) := Lib.hid (by rw [HOT.out]; rfl)
            rw [HO.out, List.length_append, List.length_append] at hal2
            have hal3 : acc.length + P.length + 1 ≤ 1000001 * 65537 := by simpa [Nat.add_assoc] using hal2
            have HL3 := Lib.hid hal3
            clear hal2 hal3 hal
            go_wp2_with fail
            refine (htl _).mono ?_
            rintro e w2 ⟨rfl, hb2⟩
            have hown2 := hown.below hb2
            have hbl2 := seqB hbl hb2
            go_wp2_with (first
              | (at_builtin; refine wpList_appS rfl _ _ rfl w1 _ acc P hown2 rfl rfl (by have := HL3.out; omega) hbl2 ?_; intro v3 w3 hown3 hbl3)
              | (at_builtin; refine wpList_app rfl _ _ rfl w1 _ _ [10] 1 _ _ hown3 rfl rfl rfl rfl (by have := HL3.out; simp; omega) hbl3 ?_; intro v4 w4 hown4 hbl4))
            go_roundw
            case rel => exact ⟨a0.size + 1, a0.size + 1, _, by go_num, by go_num, by omega, Lib.hid (by have := HN.out; rw [HO.out, ← List.append_assoc] at this; exact this), hown4, hbl4⟩
            case measure => simp [intOf]
theorem lruns_walk (a0 : ByteArray) (ml : Int) (w : World) (ht : TabW w) (hm : MaxLenIs w ml) :
    Calls Tryz.prog 3 #[.string a0] w fun e w' => e = .returned (.bool true) ∧ Below w.heap.size w w' := by
  by_cases h : a0.size ≤ 65536
  · exact lruns_short a0 ml w h ht hm
  · exact lruns_long a0 ml w (by omega) ht hm
end Go.Proofs.YteigigepmoicaaaGreatDoor
