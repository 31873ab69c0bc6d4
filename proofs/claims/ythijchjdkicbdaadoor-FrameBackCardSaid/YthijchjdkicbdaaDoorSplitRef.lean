/- The reference's Split; what a cut text is. -/
import Derived.Test.YthijchjdkicbdaaDoorSplit
namespace Go.Proofs.YthijchjdkicbdaaDoor
open Go.RowKit
theorem cut_snoc_flag (l : List UInt8) : cut (l ++ [126]) = cut l ++ [[]] := by
  induction l with
  | nil => rfl
  | cons c l ih =>
    by_cases h : c = 126
    · subst h; simp only [List.cons_append, cut, if_true, ih]
    · have hne := cut_ne l
      simp only [List.cons_append, cut, if_neg h, ih]
      match hc : cut l with
      | [] => exact absurd hc hne
      | p :: ps => rfl
theorem cut_snoc_ne (l : List UInt8) (c : UInt8) (hc : c ≠ 126) : cut (l ++ [c]) = (cut l).dropLast ++ [(cut l).getLast (cut_ne l) ++ [c]] := by
  induction l with
  | nil => simp [cut, hc]
  | cons d l ih =>
    have hne := cut_ne l
    by_cases h : d = 126
    · subst h
      simp only [List.cons_append, cut, if_true, ih]
      rw [List.dropLast_cons_of_ne_nil hne, List.getLast_cons hne]; rfl
    · obtain ⟨p, ps, e⟩ : ∃ p ps, cut l = p :: ps := by
        match hq : cut l, hne with
        | p :: ps, _ => exact ⟨p, ps, rfl⟩
      simp only [e] at ih
      simp only [List.cons_append, cut, if_neg h, e, ih]
      cases ps with
      | nil => simp
      | cons q qs => simp
theorem cut_none (l : List UInt8) (h : 126 ∉ l) : cut l = [l] := by
  induction l with
  | nil => rfl
  | cons c l ih =>
    have h1 : c ≠ 126 := fun e => h (by simp [e])
    have h2 : 126 ∉ l := fun e => h (by simp [e])
    simp [cut, h1, ih h2]
theorem cut_append (a l : List UInt8) (h : 126 ∉ a) : cut (a ++ 126 :: l) = a :: cut l := by
  induction a with
  | nil => simp [cut]
  | cons c a ih =>
    have h1 : c ≠ 126 := fun e => h (by simp [e])
    have h2 : 126 ∉ a := fun e => h (by simp [e])
    simp [cut, h1, ih h2]
theorem split_first (l : List UInt8) (h : 126 ∈ l) : ∃ a b, l = a ++ 126 :: b ∧ 126 ∉ a := by
  induction l with
  | nil => cases h
  | cons c l ih =>
    by_cases hc : c = 126
    · exact ⟨[], l, by simp [hc], by simp⟩
    · have : 126 ∈ l := by
        rcases List.mem_cons.1 h with e | e
        · exact absurd e.symm hc
        · exact e
      obtain ⟨a, b, e, ha⟩ := ih this
      exact ⟨c :: a, b, by simp [e], by simp [ha, Ne.symm hc]⟩
theorem cut_mem (l : List UInt8) (h : 126 ∈ l) : ∃ p q qs, cut l = p :: q :: qs := by
  obtain ⟨a, b, e, ha⟩ := split_first l h
  subst e
  rw [cut_append a b ha]
  match hq : cut b, cut_ne b with
  | q :: qs, _ => exact ⟨_, _, _, rfl⟩
theorem got_none (l : List UInt8) (h : 126 ∉ l) : gotOf l = [] ∧ restOf l = l := by
  unfold gotOf restOf; simp [cut_none l h]
theorem got_snoc_ne (l : List UInt8) (c : UInt8) (hc : c ≠ 126) : gotOf (l ++ [c]) = gotOf l ∧ restOf (l ++ [c]) = restOf l ++ [c] := by
  unfold gotOf restOf
  simp only [cut_snoc_ne l c hc]
  refine ⟨?_, by simp⟩
  match hq : cut l, cut_ne l with
  | [p], _ => simp
  | p :: q :: qs, _ => simp
theorem got_first (l : List UInt8) (h : 126 ∉ l) : gotOf (l ++ [126]) = [] ∧ restOf (l ++ [126]) = [] := by
  unfold gotOf restOf; simp [cut_snoc_flag, cut_none l h]
theorem got_flag (l : List UInt8) (h : 126 ∈ l) : gotOf (l ++ [126]) = gotOf l ++ (if (restOf l).isEmpty then [] else [restOf l]) ∧ restOf (l ++ [126]) = [] := by
  obtain ⟨p, q, qs, e⟩ := cut_mem l h
  unfold gotOf restOf
  simp only [cut_snoc_flag, e]
  have e1 : p :: q :: qs ++ [[]] = (p :: q :: qs) ++ [[]] := rfl
  refine ⟨?_, by simp only [List.getLast_concat]⟩
  have e2 : (p :: q :: qs ++ [[]]).tail.dropLast = q :: qs := by
    show ((q :: qs) ++ [[]]).dropLast = _
    exact List.dropLast_concat
  have e3 : (p :: q :: qs).tail.dropLast = (q :: qs).dropLast := rfl
  have e4 : (p :: q :: qs).getLast (by simp) = (q :: qs).getLast (by simp) := by simp
  rw [e2, e3, e4]
  conv => lhs; rw [← List.dropLast_concat_getLast (l := q :: qs) (by simp)]
  rw [List.filter_append]
  congr 1
  cases (q :: qs).getLast (by simp) <;> simp
theorem cut_len (l : List UInt8) : (cut l).length ≤ l.length + 1 := by
  induction l with
  | nil => simp [cut]
  | cons c l ih =>
    unfold cut
    split
    · simpa using ih
    · split
      · simp
      · rename_i e; rw [e] at ih; simp at ih ⊢; omega
theorem got_len (l : List UInt8) : (gotOf l).length ≤ l.length := by
  unfold gotOf
  refine Nat.le_trans (List.length_filter_le _ _) ?_
  have := cut_len l
  simp; omega
theorem take_snoc (s : ByteArray) (k : Nat) (h : k < s.size) : s.data.toList.take (k + 1) = s.data.toList.take k ++ [s[k]] := by
  rw [List.take_succ_eq_append_getElem (by simpa using h)]; rfl
theorem slice_bytes (s : ByteArray) (a b : Nat) : s.extract a b = bytesOf ((s.data.toList.take b).drop a) := by
  apply ba_ext
  rw [extract_toList, bytesOf_toList, List.drop_take]
/-- how far the reference has come -/
def SplitAt (s : ByteArray) (k : Nat) (f : Int) : Prop :=
  (f = -1 ∧ 126 ∉ s.data.toList.take k) ∨ ∃ fr : Nat, f = fr ∧ fr ≤ k ∧ 126 ∈ s.data.toList.take k ∧ restOf (s.data.toList.take k) = (s.data.toList.take k).drop fr
set_option maxHeartbeats 1000000 in
theorem rsplit_any (s : ByteArray) (w : World) (hs : s.size < 4294967281) :
    Calls Tryd.prog 13 #[.string s] w fun e w' => ∃ v, e = .returned (.tuple #[v, .string (bytesOf (restOf s.data.toList))]) ∧ OwnT w' w.heap.size v ((gotOf s.data.toList).map bytesOf) ∧ Below w.heap.size w w' := by
  go_enter Tryd.func13, Tryd.ntmps13
  go_wp2_with fail
  go_loopw [4, 5, 6] (fun v f i wr => ∃ (k : Nat) (x : Int), k ≤ s.size ∧ i = .int .i64 k ∧ f = .int .i64 x ∧ Hid (SplitAt s k x) ∧ OwnT wr w.heap.size v ((gotOf (s.data.toList.take k)).map bytesOf) ∧ Below w.heap.size w wr) (fun _ _ i _ => s.size - (intOf i).toNat)
  case atStart => exact ⟨0, -1, Nat.zero_le _, rfl, rfl, Lib.hid (.inl ⟨rfl, by simp⟩), OwnT.nil _ _, Below.refl _ _⟩
  case round =>
    obtain ⟨k, x, hk, rfl, rfl, hat, hown, hbl⟩ := hrel
    have hgl : (gotOf (s.data.toList.take k)).length ≤ k := Nat.le_trans (got_len _) (by simp; omega)
    by_cases hlt : k < s.size
    · have hts := take_snoc s k hlt
      have Hts := Lib.hid hts
      clear hts
      have hc8 := s[k].toNat_lt
      by_cases hc : s[k] = 126
      · have e1 : ((s[k].toNat : Int) != 126) = false := by rw [hc]; rfl
        have Hc := Lib.hid hc
        clear hc
        rcases hat.out with ⟨rfl, hno⟩ | ⟨fr, rfl, hfr, hyes, hrest⟩
        · obtain ⟨g1, g2⟩ := got_first _ hno
          obtain ⟨g3, g4⟩ := got_none _ hno
          have hnew : Hid (SplitAt s (k + 1) ((k : Int) + 1)) := Lib.hid (.inr ⟨k + 1, rfl, Nat.le_refl _, by rw [Hts.out, Hc.out]; simp, by rw [Hts.out, Hc.out, g2]; rw [List.drop_of_length_le]; simp; omega⟩)
          have hgot : Hid (gotOf (s.data.toList.take (k + 1)) = gotOf (s.data.toList.take k)) := Lib.hid (by rw [Hts.out, Hc.out, g1, g3])
          clear g1 g2 g3 g4 hno hat
          go_wp2_with fail
          go_roundw
          case rel => exact ⟨k + 1, _, by omega, by go_num, rfl, hnew, by rw [hgot.out]; exact hown, hbl⟩
          case measure => simp [intOf]; omega
        · obtain ⟨g1, g2⟩ := got_flag _ hyes
          have hnew : Hid (SplitAt s (k + 1) ((k : Int) + 1)) := Lib.hid (.inr ⟨k + 1, rfl, Nat.le_refl _, by rw [Hts.out, Hc.out]; simp, by rw [Hts.out, Hc.out, g2]; rw [List.drop_of_length_le]; simp; omega⟩)
          have hlr : (restOf (s.data.toList.take k)).length = k - fr := by rw [hrest]; simp; omega
          by_cases hlt2 : fr < k
          · have hgot : Hid (gotOf (s.data.toList.take (k + 1)) = gotOf (s.data.toList.take k) ++ [(s.data.toList.take k).drop fr]) := Lib.hid (by
              rw [Hts.out, Hc.out, g1, if_neg, hrest]
              rw [List.isEmpty_iff]; intro e; rw [e] at hlr; simp at hlr; omega)
            have hsl := slice_bytes s fr k
            clear g1 g2 hyes hat hrest hlr
            obtain ⟨p, hp⟩ : ∃ p, (s.data.toList.take k).drop fr = p := ⟨_, rfl⟩
            rw [hp] at hgot hsl
            clear hp
            go_wp2_with (at_builtin; refine wpList_appT rfl _ _ rfl w _ _ (bytesOf p) 1 hown rfl rfl (by rw [List.length_map]; omega) hbl ?_; intro v' w3 hown1 hbl1)
            go_roundw
            case rel => exact ⟨k + 1, _, by omega, by go_num, rfl, hnew, by rw [hgot.out]; simpa using hown1, hbl1⟩
            case measure => simp [intOf]; omega
          · have hgot : Hid (gotOf (s.data.toList.take (k + 1)) = gotOf (s.data.toList.take k)) := Lib.hid (by
              rw [Hts.out, Hc.out, g1, if_pos, List.append_nil]
              rw [List.isEmpty_iff]; exact List.eq_nil_of_length_eq_zero (by omega))
            clear g1 g2 hyes hat hrest hlr
            have hge : ¬ ((fr : Int) < (k : Int)) := by omega
            go_wp2_with fail
            go_roundw
            case rel => exact ⟨k + 1, _, by omega, by go_num, rfl, hnew, by rw [hgot.out]; exact hown, hbl⟩
            case measure => simp [intOf]; omega
      · have e1 : ((s[k].toNat : Int) != 126) = true := u8_bne hc
        obtain ⟨g1, g2⟩ := got_snoc_ne (s.data.toList.take k) s[k] hc
        have hgot : Hid (gotOf (s.data.toList.take (k + 1)) = gotOf (s.data.toList.take k)) := Lib.hid (by rw [Hts.out, g1])
        have hnew : Hid (SplitAt s (k + 1) x) := Lib.hid (by
          rcases hat.out with ⟨rfl, hno⟩ | ⟨fr, rfl, hfr, hyes, hrest⟩
          · exact .inl ⟨rfl, by rw [Hts.out]; simp [hno, Ne.symm hc]⟩
          · refine .inr ⟨fr, rfl, by omega, by rw [Hts.out]; simp [hyes], ?_⟩
            rw [Hts.out, g2, hrest, List.drop_append_of_le_length (by simp; omega)])
        clear g1 g2 hc hat
        go_wp2_with fail
        go_roundw
        case rel => exact ⟨k + 1, _, by omega, by go_num, rfl, hnew, by rw [hgot.out]; exact hown, hbl⟩
        case measure => simp [intOf]; omega
    · obtain rfl : k = s.size := by omega
      have hall : s.data.toList.take s.size = s.data.toList := List.take_of_length_le (by simp)
      rw [hall] at hown
      rcases hat.out with ⟨rfl, hno⟩ | ⟨fr, rfl, hfr, hyes, hrest⟩
      · rw [hall] at hno
        obtain ⟨g3, g4⟩ := got_none _ hno
        have G4 := Lib.hid g4
        have G3 := Lib.hid g3
        clear g3 g4 hno hall
        go_wp2_with fail
        go_ret2
        exact ⟨.slice none 0 0, by rw [G4.out, bytesOf_of]; rfl, by rw [G3.out]; exact OwnT.nil _ _, hbl⟩
      · have hsl := slice_bytes s fr s.size
        rw [← hrest, hall] at hsl
        have hrl : restOf s.data.toList = restOf s.data.toList := rfl
        obtain ⟨l, hl⟩ : ∃ l, (gotOf s.data.toList).map bytesOf = l := ⟨_, rfl⟩
        rw [hl] at hown
        have Hl := Lib.hid hl
        clear hl hrest hyes hall hat hrl
        obtain ⟨a, c, rfl⟩ := hown.form
        go_wp2_with fail
        go_region
        go_wp2_with fail
        go_ret2
        exact ⟨.slice a l.length c, rfl, by rw [Hl.out]; exact hown.below (by repeat (first | exact Below.refl _ _ | apply drewB)), by repeat (first | exact hbl | apply drewB)⟩
end Go.Proofs.YthijchjdkicbdaaDoor
