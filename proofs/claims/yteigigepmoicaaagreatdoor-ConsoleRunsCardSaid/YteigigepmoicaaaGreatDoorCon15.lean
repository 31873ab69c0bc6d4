/- The console: what a command tells, by its name: sizes, ranges, contracts. -/
import Derived.Test.YteigigepmoicaaaGreatDoorCon12
import Derived.Test.YteigigepmoicaaaGreatDoorCon13
import Derived.Test.YteigigepmoicaaaGreatDoorCon14
namespace Go.Proofs.YteigigepmoicaaaGreatDoor
open Go.RowKit Go.Crc
set_option linter.unusedVariables false
set_option linter.unusedSimpArgs false
theorem pairs_len : ∀ (s d : List UInt8), pairsM s = some d → d.length ≤ s.length
  | [], d, h => by cases h; simp
  | [_], d, h => by cases h
  | a :: b :: r, d, h => by
    rw [pairsM] at h
    cases h1 : unhexd a with
    | none => rw [h1] at h; cases h
    | some x =>
      cases h2 : unhexd b with
      | none => rw [h1, h2] at h; cases h
      | some y =>
        cases h3 : pairsM r with
        | none => rw [h1, h2, h3] at h; cases h
        | some t =>
          rw [h1, h2, h3] at h
          cases h
          have := pairs_len r t h3
          simp; omega
theorem unhex_len {s d : List UInt8} (h : unhexM s = some d) : d.length ≤ s.length := by
  unfold unhexM at h
  split at h
  · cases h; simp
  · split at h
    · cases h
    · exact pairs_len s d h
theorem read_x {ws : List (List UInt8)} {n : List Int} {b : List (List UInt8)} (h : readM [120] ws = some (n, b)) : ∃ w0 d, ws = [w0] ∧ unhexM w0 = some d ∧ n = [] ∧ b = [d] := by
  match ws, h with
  | [], h => cases h
  | [w0], h =>
    rw [readM, if_neg (by decide), readM] at h
    cases h1 : unhexM w0 with
    | none => rw [h1] at h; cases h
    | some d => rw [h1] at h; cases h; exact ⟨w0, d, rfl, h1, rfl, rfl⟩
  | w0 :: w1 :: r, h => rw [readM_len _ _ (by simp)] at h; cases h
theorem read_nx {ws : List (List UInt8)} {n : List Int} {b : List (List UInt8)} (h : readM [110, 120] ws = some (n, b)) : ∃ w0 w1 x d, ws = [w0, w1] ∧ numM w0 = some x ∧ unhexM w1 = some d ∧ n = [x] ∧ b = [d] := by
  match ws, h with
  | [], h => cases h
  | [w0], h => rw [readM_len _ _ (by simp)] at h; cases h
  | [w0, w1], h =>
    rw [readM, if_pos rfl, readM, if_neg (by decide), readM] at h
    cases h1 : numM w0 with
    | none => rw [h1] at h; cases h
    | some x =>
      cases h2 : unhexM w1 with
      | none => rw [h1, h2] at h; cases h
      | some d => rw [h1, h2] at h; cases h; exact ⟨w0, w1, x, d, rfl, h1, h2, rfl, rfl⟩
  | w0 :: w1 :: w2 :: r, h => rw [readM_len _ _ (by simp)] at h; cases h
theorem nums_mem : ∀ (ws : List (List UInt8)) (l : List Int), numsL ws = some l → ∀ x ∈ l, ∃ w, numM w = some x
  | [], l, h, x, hx => by cases h; cases hx
  | w :: ws, l, h, x, hx => by
    rw [numsL] at h
    cases h1 : numM w with
    | none => rw [h1] at h; cases h
    | some z =>
      cases h2 : numsL ws with
      | none => rw [h1, h2] at h; cases h
      | some l2 =>
        rw [h1, h2] at h
        cases h
        rcases List.mem_cons.1 hx with rfl | hx
        · exact ⟨w, h1⟩
        · exact nums_mem ws l2 h2 x hx
theorem read_n {k : Nat} {ws : List (List UInt8)} {n : List Int} {b : List (List UInt8)} (h : readM (List.replicate k 110) ws = some (n, b)) : n.length = k ∧ b = [] ∧ ∀ x ∈ n, -10000000000 < x ∧ x < 10000000000 := by
  rw [read_nums] at h
  split at h
  · rename_i hl
    cases hn : numsL ws with
    | none => rw [hn] at h; cases h
    | some l =>
      rw [hn] at h
      cases h
      exact ⟨by rw [nums_length ws _ hn, hl], rfl, fun x hx => by obtain ⟨w, hw⟩ := nums_mem ws _ hn x hx; exact numM_range hw⟩
  · cases h
theorem frame_err (p : Int) (d : List UInt8) (m : Int) : 0 ≤ (frameT p d m).2 ∧ (frameT p d m).2 ≤ 9999 := by
  unfold frameT
  split
  · exact ⟨by decide, by decide⟩
  · split
    · exact ⟨by decide, by decide⟩
    · dsimp only; omega
theorem unhead_err (u : List UInt8) : 0 ≤ (unhead u).2.2 ∧ (unhead u).2.2 ≤ 9999 := by
  unfold unhead
  split
  · exact ⟨by decide, by decide⟩
  · split
    · exact ⟨by decide, by decide⟩
    · split
      · exact ⟨by decide, by decide⟩
      · dsimp only; omega
theorem unframe_err (l : List UInt8) : 0 ≤ (unframe l).2.2 ∧ (unframe l).2.2 ≤ 9999 := by
  unfold unframe
  split
  · exact ⟨by decide, by decide⟩
  · split
    · exact ⟨by decide, by decide⟩
    · exact unhead_err _
theorem delay_err (a b c d : Int) : 0 ≤ (delayM a b c d).2 ∧ (delayM a b c d).2 ≤ 9999 := by
  unfold delayM
  split
  · exact ⟨by decide, by decide⟩
  · dsimp only; omega
/-- what is asked of a line's numbers and bytes -/
def ArgsGood (n : List Int) (b : List (List UInt8)) : Prop := (∀ x ∈ n, -10000000000 < x ∧ x < 10000000000) ∧ ∀ d ∈ b, d.length ≤ 65536
def TellOk (f : Nat) (name : List UInt8) (n : List Int) (b : List (List UInt8)) (ml : Int) : Prop :=
  (0 ≤ (tellM name n b).2 ∧ (tellM name n b).2 ≤ 9999 ∧ (tellM name n b).1.length ≤ 1000000) ∧ ∀ p w, ArgsAt w p n b → TabW w → MaxLenIs w ml →
    Calls Tryz.prog f #[.pointer (some ⟨p, 0, none⟩)] w fun e w' => e = .returned (.tuple #[.string (bytesOf (tellM name n b).1), .int .i64 (tellM name n b).2]) ∧ Below w.heap.size w w'
theorem tell_fcs (d : List UInt8) (hd : d.length ≤ 65536) (ml : Int) : TellOk 41 nFcs [] [d] ml := by
  have hl := itoa_len (fcs d)
  have e : tellM nFcs [] [d] = (itoaM (fcs d), 0) := rfl
  unfold TellOk
  rw [e]
  exact ⟨⟨Int.le_refl _, by dsimp only; omega, by dsimp only; omega⟩, fun p w h ht hm => asum_any p d w h (by omega) ht⟩
theorem tell_md5 (d : List UInt8) (hd : d.length ≤ 65536) (ml : Int) : TellOk 45 nMd5 [] [d] ml := by
  have hl := hexM_len (md5M d)
  have hm16 : (md5M d).length = 16 := by simp [md5M, mdOut, le4]
  have e : tellM nMd5 [] [d] = (hexM (md5M d), 0) := rfl
  unfold TellOk
  rw [e]
  exact ⟨⟨Int.le_refl _, by dsimp only; omega, by dsimp only; omega⟩, fun p w h ht hm => amd5_any p d w h (by omega)⟩
theorem tell_frame (x : Int) (d : List UInt8) (hd : d.length ≤ 65536) (ml : Int) : TellOk 42 nFrame [x] [d] ml := by
  have hl := hexM_len (frameT x d 0).1
  have hl2 := frameT_len x d 0
  have he := frame_err x d 0
  have e : tellM nFrame [x] [d] = (hexM (frameT x d 0).1, (frameT x d 0).2) := rfl
  unfold TellOk
  rw [e]
  exact ⟨⟨he.1, he.2, by dsimp only; omega⟩, fun p w h ht hm => aframe_any p x d w h (by omega)⟩
theorem tell_unframe (d : List UInt8) (hd : d.length ≤ 65536) (ml : Int) : TellOk 43 nUnframe [] [d] ml := by
  have hl := hexM_len (unframe d).2.1
  have hl2 := unframe_size d
  have hl3 := itoa_len (unframe d).1
  have he := unframe_err d
  have e : tellM nUnframe [] [d] = (itoaM (unframe d).1 ++ [32] ++ hexM (unframe d).2.1, (unframe d).2.2) := rfl
  unfold TellOk
  rw [e]
  exact ⟨⟨he.1, he.2, by dsimp only; rw [List.length_append, List.length_append]; simp only [List.length_cons, List.length_nil]; omega⟩, fun p w h ht hm => aunframe_any p d w h (by omega) ht⟩
theorem tell_fsm (a b : Int) (ml : Int) : TellOk 44 nFsm [a, b] [] ml := by
  obtain ⟨r1, r2, r3, r4, r5, r6⟩ := step_range a b
  have hl3 := itoa_len (stepSays a b).1
  have hl := acts_size (stepSays a b).2.1
  have e : tellM nFsm [a, b] [] = (itoaM (stepSays a b).1 ++ actsW (stepSays a b).2.1, (stepSays a b).2.2) := rfl
  unfold TellOk
  rw [e]
  exact ⟨⟨r5, by dsimp only; omega, by dsimp only; rw [List.length_append]; omega⟩, fun p w h ht hm => afsm_any p a b [] ml w h ht hm⟩
theorem tell_delay (a b c d : Int) (hd : d ≤ 9223372036854775807) (ml : Int) : TellOk 46 nDelay [a, b, c, d] [] ml := by
  have hl3 := itoa_len (delayM a b c d).1
  have he := delay_err a b c d
  have e : tellM nDelay [a, b, c, d] [] = (itoaM (delayM a b c d).1, (delayM a b c d).2) := rfl
  unfold TellOk
  rw [e]
  exact ⟨⟨he.1, he.2, by dsimp only; omega⟩, fun p w h ht hm => adelay_any p a b c d [] w h hd ht⟩
theorem tell_target (a b c d : Int) (ha : a ≤ 9223372036854775806) (ml : Int) : TellOk 47 nTarget [a, b, c, d] [] ml := by
  have hl3 := itoa_len (targetN a b c d)
  have e : tellM nTarget [a, b, c, d] [] = targetW a b c d := rfl
  unfold TellOk
  rw [e]
  refine ⟨?_, fun p w h ht hm => atarget_any p a b c d [] w h ha ht⟩
  unfold targetW
  split
  · exact ⟨by decide, by decide, by simp⟩
  · exact ⟨Int.le_refl _, by dsimp only; omega, by dsimp only; omega⟩
/-- what a line that reads well tells -/
theorem tell_any (name ks : List UInt8) (f : Nat) (hk : kindsOf name = some ks)
    (hd : (name = nFcs ∧ f = 41) ∨ (name = nFrame ∧ f = 42) ∨ (name = nUnframe ∧ f = 43) ∨ (name = nFsm ∧ f = 44) ∨ (name = nMd5 ∧ f = 45) ∨ (name = nDelay ∧ f = 46) ∨ (name = nTarget ∧ f = 47))
    (ws : List (List UInt8)) (hs : ∀ x ∈ ws, x.length ≤ 65536) (n : List Int) (b : List (List UInt8)) (hr : readM ks ws = some (n, b)) (ml : Int) : TellOk f name n b ml := by
  have four : ∀ {n : List Int}, n.length = 4 → ∃ a b c d, n = [a, b, c, d] := by
    intro n hn
    match n, hn with
    | [a, b, c, d], _ => exact ⟨a, b, c, d, rfl⟩
  rcases hd with ⟨rfl, rfl⟩ | ⟨rfl, rfl⟩ | ⟨rfl, rfl⟩ | ⟨rfl, rfl⟩ | ⟨rfl, rfl⟩ | ⟨rfl, rfl⟩ | ⟨rfl, rfl⟩
  · cases hk
    obtain ⟨w0, d, rfl, h1, rfl, rfl⟩ := read_x hr
    exact tell_fcs d (Nat.le_trans (unhex_len h1) (hs _ (by simp))) ml
  · cases hk
    obtain ⟨w0, w1, x, d, rfl, h1, h2, rfl, rfl⟩ := read_nx hr
    exact tell_frame x d (Nat.le_trans (unhex_len h2) (hs _ (by simp))) ml
  · cases hk
    obtain ⟨w0, d, rfl, h1, rfl, rfl⟩ := read_x hr
    exact tell_unframe d (Nat.le_trans (unhex_len h1) (hs _ (by simp))) ml
  · cases hk
    obtain ⟨h1, rfl, h3⟩ := read_n (k := 2) hr
    match n, h1 with
    | [a, b], _ => exact tell_fsm a b ml
  · cases hk
    obtain ⟨w0, d, rfl, h1, rfl, rfl⟩ := read_x hr
    exact tell_md5 d (Nat.le_trans (unhex_len h1) (hs _ (by simp))) ml
  · cases hk
    obtain ⟨h1, rfl, h3⟩ := read_n (k := 4) hr
    obtain ⟨a, b, c, d, rfl⟩ := four h1
    have := h3 d (by simp)
    exact tell_delay a b c d (by omega) ml
  · cases hk
    obtain ⟨h1, rfl, h3⟩ := read_n (k := 4) hr
    obtain ⟨a, b, c, d, rfl⟩ := four h1
    have := h3 a (by simp)
    exact tell_target a b c d (by omega) ml
theorem kinds_good {name ks : List UInt8} (h : kindsOf name = some ks) : kindsGood ks := by
  have g1 : kindsGood [120] := ⟨by decide, by decide, by decide⟩
  have g2 : kindsGood [110, 120] := ⟨by decide, by decide, by decide⟩
  have g3 : kindsGood [110, 110] := ⟨by decide, by decide, by decide⟩
  have g4 : kindsGood [110, 110, 110, 110] := ⟨by decide, by decide, by decide⟩
  unfold kindsOf at h
  repeat' (split at h)
  all_goals (first | assumption | (cases h; assumption) | cases h)
theorem errW_len (e : Int) : (errW e).length ≤ 27 := by
  have := itoa_len e
  unfold errW
  rw [List.length_append]
  simp only [List.length_cons, List.length_nil]
  omega
end Go.Proofs.YteigigepmoicaaaGreatDoor
