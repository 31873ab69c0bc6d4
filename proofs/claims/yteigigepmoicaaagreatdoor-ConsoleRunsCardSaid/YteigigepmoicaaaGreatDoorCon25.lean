/- The law's words, numbers: walked. -/
import Derived.Test.YteigigepmoicaaaGreatDoorMg1
import Derived.Test.YteigigepmoicaaaGreatDoorMg2
import Derived.Test.YteigigepmoicaaaGreatDoorMg4
namespace Go.Proofs.YteigigepmoicaaaGreatDoor
open Go.RowKit
set_option linter.unusedVariables false
set_option linter.unusedSimpArgs false
theorem blank_of (c : UInt8) : blankB c = (decide (c.toNat = 32) || decide (c.toNat = 9)) := by
  have : ∀ c : Fin 256, blankB (UInt8.ofNat c.val) = (decide ((UInt8.ofNat c.val).toNat = 32) || decide ((UInt8.ofNat c.val).toNat = 9)) := by decide +kernel
  have h := this ⟨c.toNat, c.toNat_lt⟩
  simpa using h
/-- what the loop holds at i = k: the words that are done, from where the next begins (none: at k) -/
def WordsInv (x : List UInt8) (k : Nat) (from_ : Int) (done : List (List UInt8)) : Prop :=
  (from_ = -1 ∧ k ≤ x.length ∧ wordsM x = done ++ wordsC (x.drop k) []) ∨ (∃ f : Nat, from_ = f ∧ f < k ∧ k ≤ x.length ∧ wordsM x = done ++ wordsC (x.drop k) ((x.drop f).take (k - f)))
theorem wordsInv_start (x : List UInt8) : WordsInv x 0 (-1) [] := .inl ⟨rfl, Nat.zero_le _, rfl⟩
theorem drop_atW (x : List UInt8) (k : Nat) (h : k < x.length) : x.drop k = x[k] :: x.drop (k + 1) := (List.drop_eq_getElem_cons h)
theorem wordsInv_in0 {x : List UInt8} {k : Nat} {done : List (List UInt8)} (h : WordsInv x k (-1) done) (hk : k < x.length) (hb : blankB x[k] = false) : WordsInv x (k + 1) k done := by
  rcases h with ⟨_, _, h⟩ | ⟨f, hf, _⟩
  · refine .inr ⟨k, rfl, by omega, hk, ?_⟩
    rw [h, drop_atW x k hk, wordsC, hb, if_neg (by simp)]
    rw [show k + 1 - k = 1 by omega]
    rfl
  · omega
theorem wordsInv_in1 {x : List UInt8} {k f : Nat} {done : List (List UInt8)} (h : WordsInv x k f done) (hk : k < x.length) (hb : blankB x[k] = false) : WordsInv x (k + 1) f done := by
  rcases h with ⟨h0, _⟩ | ⟨g, hf, hfk, _, h⟩
  · omega
  · obtain rfl : f = g := by omega
    refine .inr ⟨f, rfl, by omega, hk, ?_⟩
    rw [h, drop_atW x k hk, wordsC, hb, if_neg (by simp)]
    congr 2
    rw [show k + 1 - f = (k - f) + 1 by omega, List.take_succ_eq_append_getElem (by rw [List.length_drop]; omega), List.getElem_drop]
    congr 2
    simp only [show f + (k - f) = k by omega]
theorem wordsInv_blank0 {x : List UInt8} {k : Nat} {done : List (List UInt8)} (h : WordsInv x k (-1) done) (hk : k < x.length) (hb : blankB x[k] = true) : WordsInv x (k + 1) (-1) done := by
  rcases h with ⟨_, _, h⟩ | ⟨f, hf, _⟩
  · refine .inl ⟨rfl, hk, ?_⟩
    rw [h, drop_atW x k hk, wordsC, hb, if_pos rfl, if_pos (by rfl)]
  · omega
theorem wordsInv_blank1 {x : List UInt8} {k f : Nat} {done : List (List UInt8)} (h : WordsInv x k f done) (hk : k < x.length) (hb : blankB x[k] = true) : WordsInv x (k + 1) (-1) (done ++ [(x.drop f).take (k - f)]) := by
  rcases h with ⟨h0, _⟩ | ⟨g, hf, hfk, _, h⟩
  · omega
  · obtain rfl : f = g := by omega
    refine .inl ⟨rfl, hk, ?_⟩
    rw [h, drop_atW x k hk, wordsC, hb, if_pos rfl, if_neg]
    · simp
    · intro e
      rw [List.isEmpty_iff] at e
      have := congrArg List.length e
      simp at this
      omega
theorem wordsInv_end0 {x : List UInt8} {done : List (List UInt8)} (h : WordsInv x x.length (-1) done) : wordsM x = done := by
  rcases h with ⟨_, _, h⟩ | ⟨f, hf, _⟩
  · rw [h, List.drop_length, wordsC, if_pos (by rfl), List.append_nil]
  · omega
theorem wordsInv_end1 {x : List UInt8} {f : Nat} {done : List (List UInt8)} (h : WordsInv x x.length f done) : wordsM x = done ++ [(x.drop f).take (x.length - f)] := by
  rcases h with ⟨h0, _⟩ | ⟨g, hf, hfk, _, h⟩
  · omega
  · obtain rfl : f = g := by omega
    rw [h, List.drop_length, wordsC, if_neg]
    intro e
    rw [List.isEmpty_iff] at e
    have := congrArg List.length e
    simp at this
    omega
theorem wordsInv_form {x : List UInt8} {k : Nat} {i : Int} {done : List (List UInt8)} (h : WordsInv x k i done) : i = -1 ∨ ∃ f : Nat, i = f ∧ f < k ∧ k ≤ x.length := by
  rcases h with ⟨h, _⟩ | ⟨f, h1, h2, h3, _⟩
  · exact .inl h
  · exact .inr ⟨f, h1, h2, h3⟩
theorem wordsC_done (x : List UInt8) : (wordsM x).length ≤ x.length + 1 := by
  have : ∀ (l cur : List UInt8), (wordsC l cur).length ≤ l.length + 1 := by
    intro l
    induction l with
    | nil => intro cur; unfold wordsC; split <;> simp
    | cons c l ih =>
      intro cur
      unfold wordsC
      have h1 := ih []
      have h2 := ih (cur ++ [c])
      split
      · split <;> simp <;> omega
      · simp; omega
  exact this x []
def WordsRel (x : List UInt8) (k : Nat) (fi : Int) (done : List (List UInt8)) : Prop := WordsInv x k fi done ∨ (k = x.length + 1 ∧ fi = -1 ∧ wordsM x = done)
theorem extract_word (s : ByteArray) (f k : Nat) : s.extract f k = bytesOf ((s.data.toList.drop f).take (k - f)) := by
  apply ba_ext
  rw [extract_toList]
  rfl
set_option maxRecDepth 100000 in
set_option maxHeartbeats 4000000 in
theorem lwords_any (s : ByteArray) (w : World) (hs : s.size ≤ 65536) :
    Calls Tryz.prog 31 #[.string s] w fun e w' => ∃ v, e = .returned v ∧ OwnT w' w.heap.size v ((wordsM s.data.toList).map bytesOf) ∧ Below w.heap.size w w' := by
  have hlen : s.data.toList.length = s.size := len_toList s
  have HL := Lib.hid hlen
  have HWN := Lib.hid (wordsC_done s.data.toList)
  clear hlen
  go_enter Tryz.func31, Tryz.ntmps31
  go_wp2_with fail
  go_loopw [3, 4, 5] (fun v fv i wr => ∃ (k : Nat) (fi : Int) (done : List (List UInt8)), i = .int .i64 k ∧ fv = .int .i64 fi ∧ k ≤ s.size + 1 ∧ Hid (WordsRel s.data.toList k fi done) ∧ OwnT wr w.heap.size v (done.map bytesOf) ∧ done.length ≤ 65537 ∧ Below w.heap.size w wr) (fun _ _ i _ => s.size + 1 - (intOf i).toNat)
  case atStart => exact ⟨0, -1, [], rfl, rfl, by omega, Lib.hid (.inl (wordsInv_start _)), OwnT.nil _ _, by simp, Below.refl _ _⟩
  case round =>
    obtain ⟨k, fi, done, rfl, rfl, hk, HR, hown, hdn, hbl⟩ := hrel
    have hform := hown.form
    rw [List.length_map] at hform
    obtain ⟨va, vc, rfl⟩ := hform
    by_cases hlast : k = s.size + 1
    · subst hlast
      have hki : ¬ ((s.size + 1 : Nat) : Int) ≤ (s.size : Int) := by omega
      have HE : Hid (wordsM s.data.toList = done) := Lib.hid (by
        rcases HR.out with h | ⟨_, _, h⟩
        · have := wordsInv_form h
          rcases h with ⟨_, h, _⟩ | ⟨_, _, _, h, _⟩ <;> rw [HL.out] at h <;> omega
        · exact h)
      go_wp2_with fail
      go_ret
      exact ⟨_, rfl, by rw [HE.out]; exact hown, hbl⟩
    · have hki : (k : Int) ≤ (s.size : Int) := by omega
      have HI : Hid (WordsInv s.data.toList k fi done) := Lib.hid (by
        rcases HR.out with h | ⟨h, _⟩
        · exact h
        · rw [HL.out] at h; omega)
      by_cases hlt : k < s.size
      · have hlti : (k : Int) < (s.size : Int) := by omega
        have hkl : k < s.data.toList.length := by rw [HL.out]; exact hlt
        have hxk : s.data.toList[k] = s[k] := rfl
        have hbo := blank_of s[k]
        have hform := wordsInv_form HI.out
        by_cases hb : blankB s[k] = true
        · rw [hb] at hbo
          have hbo2 : s[k].toNat = 32 ∨ s[k].toNat = 9 := by simpa using hbo.symm
          have hbx : blankB s.data.toList[k] = true := by rw [hxk]; exact hb
          have HBX := Lib.hid hbx
          clear hbo hbx hb hxk
          obtain ⟨c, hc⟩ : ∃ c, s[k].toNat = c := ⟨_, rfl⟩
          rw [hc] at hbo2
          rcases hform with rfl | ⟨f, rfl, hfk, hkx⟩
          · have HN := Lib.hid (wordsInv_blank0 HI.out hkl HBX.out)
            rcases hbo2 with rfl | rfl
            · go_wp2_with fail
              go_roundw
              case rel => exact ⟨k + 1, -1, done, by go_num, rfl, by omega, Lib.hid (.inl HN.out), hown, hdn, hbl⟩
              case measure => simp [intOf] <;> omega
            · go_wp2_with fail
              go_roundw
              case rel => exact ⟨k + 1, -1, done, by go_num, rfl, by omega, Lib.hid (.inl HN.out), hown, hdn, hbl⟩
              case measure => simp [intOf] <;> omega
          · have HN := Lib.hid (wordsInv_blank1 HI.out hkl HBX.out)
            have HEX := Lib.hid (extract_word s f k)
            have h1 : (f : Int) ≤ (k : Int) := by omega
            have hnd : done.length + 1 ≤ 65537 := by
              have h3 := wordsC_done s.data.toList
              have h2 : (wordsM s.data.toList).length = done.length + 1 + (wordsC (s.data.toList.drop (k+1)) []).length := by
                rcases HN.out with ⟨_, _, h⟩ | ⟨_, h, _⟩
                · rw [h]; simp; omega
                · omega
              rw [HL.out] at h3
              omega
            rcases hbo2 with rfl | rfl
            · go_wp2_with (at_builtin; refine wpList_appT rfl _ _ rfl w _ _ (s.extract f k) _ hown rfl rfl (by simp; omega) hbl ?_; intro v' w1 hown1 hbl1)
              go_roundw
              case rel => exact ⟨k + 1, -1, _, by go_num, rfl, by omega, Lib.hid (.inl HN.out), by rw [List.map_append, List.map_singleton, ← HEX.out]; exact hown1, by simp; omega, hbl1⟩
              case measure => simp [intOf] <;> omega
            · go_wp2_with (at_builtin; refine wpList_appT rfl _ _ rfl w _ _ (s.extract f k) _ hown rfl rfl (by simp; omega) hbl ?_; intro v' w1 hown1 hbl1)
              go_roundw
              case rel => exact ⟨k + 1, -1, _, by go_num, rfl, by omega, Lib.hid (.inl HN.out), by rw [List.map_append, List.map_singleton, ← HEX.out]; exact hown1, by simp; omega, hbl1⟩
              case measure => simp [intOf] <;> omega
        · have hb' : blankB s[k] = false := by simpa using hb
          rw [hb'] at hbo
          have hbo2 : s[k].toNat ≠ 32 ∧ s[k].toNat ≠ 9 := by simpa using hbo.symm
          have hbx : blankB s.data.toList[k] = false := by rw [hxk]; exact hb'
          have HBX := Lib.hid hbx
          clear hbo hbx hb hb' hxk
          have z1 : ((s[k].toNat : Int) != 32) = true := by rw [bne_iff_ne]; omega
          have z2 : ((s[k].toNat : Int) != 9) = true := by rw [bne_iff_ne]; omega
          clear hbo2
          rcases hform with rfl | ⟨f, rfl, hfk, hkx⟩
          · have HN := Lib.hid (wordsInv_in0 HI.out hkl HBX.out)
            go_wp2_with fail
            go_roundw
            case rel => exact ⟨k + 1, k, done, by go_num, rfl, by omega, Lib.hid (.inl HN.out), hown, hdn, hbl⟩
            case measure => simp [intOf] <;> omega
          · have HN := Lib.hid (wordsInv_in1 HI.out hkl HBX.out)
            go_wp2_with fail
            go_roundw
            case rel => exact ⟨k + 1, f, done, by go_num, rfl, by omega, Lib.hid (.inl HN.out), hown, hdn, hbl⟩
            case measure => simp [intOf] <;> omega
      · obtain rfl : k = s.size := by omega
        have hlti : ¬ (s.size : Int) < (s.size : Int) := by omega
        have hform := wordsInv_form HI.out
        rcases hform with rfl | ⟨f, rfl, hfk, hkx⟩
        · have HN : Hid (wordsM s.data.toList = done) := Lib.hid (wordsInv_end0 (by rw [HL.out]; exact HI.out))
          go_wp2_with fail
          go_roundw
          case rel => exact ⟨s.size + 1, -1, done, by go_num, rfl, by omega, Lib.hid (.inr ⟨by rw [HL.out], rfl, HN.out⟩), hown, hdn, hbl⟩
          case measure => simp [intOf] <;> omega
        · have HN := Lib.hid (wordsInv_end1 (f := f) (done := done) (by rw [HL.out]; exact HI.out))
          have HEX := Lib.hid (extract_word s f s.size)
          have h1 : (f : Int) ≤ (s.size : Int) := by omega
          have hnd : done.length + 1 ≤ 65537 := by
            have h3 := wordsC_done s.data.toList
            rw [HN.out, HL.out] at h3
            simp at h3; omega
          go_wp2_with (at_builtin; refine wpList_appT rfl _ _ rfl w _ _ (s.extract f s.size) _ hown rfl rfl (by simp; omega) hbl ?_; intro v' w1 hown1 hbl1)
          go_roundw
          case rel => exact ⟨s.size + 1, -1, done ++ [(s.data.toList.drop f).take (s.size - f)], by go_num, rfl, by omega, Lib.hid (.inr ⟨by rw [HL.out], rfl, by rw [HN.out, HL.out]⟩), by rw [List.map_append, List.map_singleton, ← HEX.out]; exact hown1, by simp; omega, hbl1⟩
          case measure => simp [intOf] <;> omega
end Go.Proofs.YteigigepmoicaaaGreatDoor
