/- The law's tells, whole. -/
import Derived.Test.YteigigepmoicaaaGreatDoorCon28
namespace Go.Proofs.YteigigepmoicaaaGreatDoor
open Go.RowKit Go.Crc
set_option linter.unusedVariables false
set_option linter.unusedSimpArgs false
theorem nums_range : ∀ (ws : List (List UInt8)) (l : List Int), numsL ws = some l → ∀ x ∈ l, x < 10000000000
  | [], l, h => by cases h; simp
  | w :: ws, l, h => by
    rw [numsL] at h
    cases h1 : numM w with
    | none => rw [h1] at h; cases h
    | some x =>
      cases h2 : numsL ws with
      | none => rw [h1, h2] at h; cases h
      | some l2 =>
        rw [h1, h2] at h
        cases h
        intro y hy
        rcases List.mem_cons.1 hy with rfl | hy
        · exact (numM_range h1).2
        · exact nums_range ws l2 h2 y hy
theorem len2 {l : List Int} (h : l.length = 2) : ∃ x y, l = [x, y] := by
  match l, h with
  | [x, y], _ => exact ⟨x, y, rfl⟩
theorem len4 {l : List Int} (h : l.length = 4) : ∃ x y z u, l = [x, y, z, u] := by
  match l, h with
  | [x, y, z, u], _ => exact ⟨x, y, z, u, rfl⟩
theorem len2w {l : List (List UInt8)} (h : l.length = 2) : ∃ x y, l = [x, y] := by
  match l, h with
  | [x, y], _ => exact ⟨x, y, rfl⟩
theorem len1w {l : List (List UInt8)} (h : l.length = 1) : ∃ x, l = [x] := by
  match l, h with
  | [x], _ => exact ⟨x, rfl⟩
theorem lcounted_any (name : List UInt8) (hname : name = nFsm ∨ name = nDelay ∨ name = nTarget) (r : List (List UInt8)) (hs : ∀ x ∈ name :: r, x.length ≤ 65536) (hn : r.length + 1 ≤ 100000) :
    ∀ A c w, WordsIn w A (name :: r) → Calls Tryz.prog 32 #[.slice (some ⟨A, 0, none⟩) (r.length + 1) c] w fun e w' => e = .returned (.string (bytesOf (countedL (name :: r)))) ∧ Below w.heap.size w w' := by
  intro A c w hc
  cases hl : numsL r with
  | none =>
    rcases hname with rfl | rfl | rfl
    · exact lcounted_fsm_none A c r w hn hc hs hl
    · exact lcounted_delay_none A c r w hn hc hs hl
    · exact lcounted_target_none A c r w hn hc hs hl
  | some l =>
    have hrg := nums_range r l hl
    rcases hname with rfl | rfl | rfl
    · by_cases h : l.length = 2
      · obtain ⟨x, y, rfl⟩ := len2 h
        by_cases he : (stepSays x y).2.2 = 0
        · exact lcounted_fsm_ok A c r w hn hc hs x y hl he
        · exact lcounted_fsm_err A c r w hn hc hs x y hl he
      · exact lcounted_fsm_len A c r w hn hc hs l hl h
    · by_cases h : l.length = 4
      · obtain ⟨x, y, z, u, rfl⟩ := len4 h
        have hu : u ≤ 9223372036854775807 := by have := hrg u (by simp); omega
        by_cases he : (delayM x y z u).2 = 0
        · exact lcounted_delay_ok A c r w hn hc hs x y z u hu hl he
        · exact lcounted_delay_err A c r w hn hc hs x y z u hu hl he
      · exact lcounted_delay_len A c r w hn hc hs l hl h
    · by_cases h : l.length = 4
      · obtain ⟨x, y, z, u, rfl⟩ := len4 h
        have hx : x ≤ 9223372036854775806 := by have := hrg x (by simp); omega
        by_cases he : shapeB y z u = false ∨ x < 0
        · exact lcounted_target_bad A c r w hn hc hs x y z u hl he
        · have h1 : shapeB y z u = true := by
            cases hb : shapeB y z u with
            | true => rfl
            | false => exact absurd (.inl hb) he
          exact lcounted_target_ok A c r w hn hc hs x y z u hx hl h1 (by omega)
      · exact lcounted_target_len A c r w hn hc hs l hl h
theorem tells_eq {ws : List (List UInt8)} {P : List UInt8} {b : Bool} (hb : skipB ws = !b) (hP : b = true → tellsL ws = P) (h0 : b = false → P = []) {f : Ending → World → Prop} {Q : List UInt8 → Bool → Ending → World → Prop}
    (h : ∀ e w, f e w → Q P b e w) : ∀ e w, f e w → Q (tellT ws) (!(skipB ws)) e w := by
  intro e w hf
  have := h e w hf
  unfold tellT
  rw [hb]
  cases b with
  | true => simp only [Bool.not_true, Bool.not_false]; rw [if_neg (by decide), hP rfl]; exact this
  | false => simp only [Bool.not_true, Bool.not_false]; rw [if_pos trivial, ← h0 rfl]; exact this
theorem ltells_any (s : ByteArray) (w : World) (hs : s.size ≤ 65536) :
    Calls Tryz.prog 14 #[.string s] w fun e w' => e = .returned (.tuple #[.string (bytesOf (tellT (wordsM s.data.toList))), .bool (!(skipB (wordsM s.data.toList)))]) ∧ Below w.heap.size w w' := by
  obtain ⟨ws, hws⟩ : ∃ ws, wordsM s.data.toList = ws := ⟨_, rfl⟩
  have hwf := words_facts s hs hws
  have hne : ∀ x ∈ ws, x ≠ [] := fun x hx => wordsC_ne s.data.toList [] x (by rw [show wordsC s.data.toList [] = ws from hws]; exact hx)
  rw [hws]
  have key : ∀ (P : List UInt8) (b : Bool), skipB ws = !b → (b = true → tellsL ws = P) → (b = false → P = []) →
      (Calls Tryz.prog 14 #[.string s] w fun e w' => e = .returned (.tuple #[.string (bytesOf P), .bool b]) ∧ Below w.heap.size w w') →
      (Calls Tryz.prog 14 #[.string s] w fun e w' => e = .returned (.tuple #[.string (bytesOf (tellT ws)), .bool (!(skipB ws))]) ∧ Below w.heap.size w w') := fun P b h1 h2 h3 h =>
    h.mono (tells_eq h1 h2 h3 (Q := fun P b e w' => e = .returned (.tuple #[.string (bytesOf P), .bool b]) ∧ Below w.heap.size w w') (fun e w h => h))
  match ws, hws, hwf, hne, key with
  | [], hws, _, _, key => exact key [] false rfl (fun h => by cases h) (fun _ => rfl) (ltells_nil s w hs hws)
  | [] :: r, _, _, hne, _ => exact absurd rfl (hne [] (by simp))
  | (c0 :: t0) :: r, hws, ⟨hwl, hwn⟩, hne, key =>
    by_cases h35 : c0 = 35
    · subst h35
      exact key [] false rfl (fun h => by cases h) (fun _ => rfl) (ltells_rem s w hs t0 r hws)
    have hsk : skipB ((c0 :: t0) :: r) = !true := by
      show decide (some c0 = some 35) = false
      exact decide_eq_false (fun e => h35 (Option.some.inj e))
    have hrl : r.length + 1 ≤ 100000 := by simp only [List.length_cons] at hwn; omega
    by_cases h0 : (c0 :: t0) = nFsm
    · rw [h0] at hws hwl key hsk
      have hC := lcounted_any nFsm (.inl rfl) r hwl hrl
      rw [h0]
      exact key _ true hsk (fun _ => by unfold tellsL; rw [if_pos (.inl rfl)]) (fun h => by cases h) (ltells_fsm s w hs r _ hC hws)
    by_cases h1 : (c0 :: t0) = nDelay
    · rw [h1] at hws hwl key hsk
      have hC := lcounted_any nDelay (.inr (.inl rfl)) r hwl hrl
      rw [h1]
      exact key _ true hsk (fun _ => by unfold tellsL; rw [if_pos (.inr (.inl rfl))]) (fun h => by cases h) (ltells_delay s w hs r _ hC hws)
    by_cases h2 : (c0 :: t0) = nTarget
    · rw [h2] at hws hwl key hsk
      have hC := lcounted_any nTarget (.inr (.inr rfl)) r hwl hrl
      rw [h2]
      exact key _ true hsk (fun _ => by unfold tellsL; rw [if_pos (.inr (.inr rfl))]) (fun h => by cases h) (ltells_target s w hs r _ hC hws)
    by_cases h3 : (c0 :: t0) = nFrame
    · rw [h3] at hws hwl key hsk
      rw [h3]
      have hT : tellsL (nFrame :: r) = if (nFrame :: r).length ≠ 3 then errW 2800 else match numM ((nFrame :: r).getD 1 []), unhexM ((nFrame :: r).getD 2 []) with
        | some p, some d => if (frameT p d 0).2 ≠ 0 then errW (frameT p d 0).2 else hexM (frameT p d 0).1
        | _, _ => errW 2800 := by
        unfold tellsL
        rw [show (nFrame :: r).headD [] = nFrame from rfl, if_neg (by decide), if_pos rfl]
        rfl
      by_cases hr : r.length = 2
      · obtain ⟨a, t, rfl⟩ := len2w hr
        rw [if_neg (by simp)] at hT
        rw [show [nFrame, a, t].getD 1 [] = a from rfl, show [nFrame, a, t].getD 2 [] = t from rfl] at hT
        cases ha : numM a with
        | none =>
          rw [ha] at hT
          exact key _ true hsk (fun _ => hT) (fun h => by cases h) (ltells_frame_num s w hs a t ha hws)
        | some x =>
          cases ht : unhexM t with
          | none =>
            rw [ha, ht] at hT
            exact key _ true hsk (fun _ => hT) (fun h => by cases h) (ltells_frame_hex s w hs a t x ha ht hws)
          | some y =>
            rw [ha, ht] at hT
            dsimp only at hT
            by_cases he : (frameT x y 0).2 = 0
            · rw [if_neg (by simpa using he)] at hT
              exact key _ true hsk (fun _ => hT) (fun h => by cases h) (ltells_frame_ok s w hs a t x y ha ht he hws)
            · rw [if_pos he] at hT
              exact key _ true hsk (fun _ => hT) (fun h => by cases h) (ltells_frame_err s w hs a t x y ha ht he hws)
      · rw [if_pos (by simp only [List.length_cons]; omega)] at hT
        exact key _ true hsk (fun _ => hT) (fun h => by cases h) (ltells_frame_len s w hs r hr hws)
    have hT : tellsL ((c0 :: t0) :: r) = if ((c0 :: t0) :: r).length ≠ 2 then errW 2800 else oneL (c0 :: t0) (((c0 :: t0) :: r).getD 1 []) := by
      unfold tellsL
      rw [show ((c0 :: t0) :: r).headD [] = c0 :: t0 from rfl, if_neg (by rintro (h | h | h); exact h0 h; exact h1 h; exact h2 h), if_neg h3]
    by_cases hr : r.length = 1
    · obtain ⟨a, rfl⟩ := len1w hr
      rw [if_neg (by simp), show [c0 :: t0, a].getD 1 [] = a from rfl] at hT
      unfold oneL at hT
      cases ha : unhexM a with
      | none =>
        rw [ha] at hT
        exact key _ true hsk (fun _ => hT) (fun h => by cases h) (ltells_hex s w hs c0 t0 a h35 h0 h1 h2 h3 ha hws)
      | some y =>
        rw [ha] at hT
        dsimp only at hT
        by_cases h4 : (c0 :: t0) = nFcs
        · rw [h4] at hws key hsk hT
          rw [h4]
          rw [if_pos rfl] at hT
          exact key _ true hsk (fun _ => hT) (fun h => by cases h) (ltells_fcs s w hs a y ha hws)
        by_cases h5 : (c0 :: t0) = nMd5
        · rw [h5] at hws key hsk hT
          rw [h5]
          rw [if_neg (by decide), if_pos rfl] at hT
          exact key _ true hsk (fun _ => hT) (fun h => by cases h) (ltells_md5 s w hs a y ha hws)
        by_cases h6 : (c0 :: t0) = nUnframe
        · rw [h6] at hws key hsk hT
          rw [h6]
          rw [if_neg (by decide), if_neg (by decide), if_pos rfl] at hT
          by_cases he : (unframe y).2.2 = 0
          · rw [if_neg (by simpa using he)] at hT
            exact key _ true hsk (fun _ => hT) (fun h => by cases h) (ltells_unframe_ok s w hs a y ha he hws)
          · rw [if_pos he] at hT
            exact key _ true hsk (fun _ => hT) (fun h => by cases h) (ltells_unframe_err s w hs a y ha he hws)
        rw [if_neg h4, if_neg h5, if_neg h6] at hT
        exact key _ true hsk (fun _ => hT) (fun h => by cases h) (ltells_none s w hs c0 t0 a h35 h0 h1 h2 h3 h4 h5 h6 y ha hws)
    · rw [if_pos (by simp only [List.length_cons]; omega)] at hT
      exact key _ true hsk (fun _ => hT) (fun h => by cases h) (ltells_len s w hs c0 t0 r h35 h0 h1 h2 h3 hr hws)
end Go.Proofs.YteigigepmoicaaaGreatDoor
