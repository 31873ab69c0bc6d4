/- The console: lines built of words; what the laws' lines tell. Plain. -/
import Derived.Test.YteigigepmoicaaaGreatDoorCon11
import Derived.Test.YteigigepmoicaaaGreatDoorFramePlain
namespace Go.Proofs.YteigigepmoicaaaGreatDoor
open Go.RowKit Go.Crc
set_option linter.unusedVariables false
set_option linter.unusedSimpArgs false
/-- words, a blank between two -/
def joinW : List (List UInt8) → List UInt8
  | [] => []
  | [w] => w
  | w :: x :: r => w ++ 32 :: joinW (x :: r)
def WordG (w : List UInt8) : Prop := w ≠ [] ∧ ∀ c ∈ w, blankB c = false ∧ c ≠ 10
theorem words_join : ∀ (ws : List (List UInt8)), (∀ w ∈ ws, WordG w) → wordsM (joinW ws) = ws
  | [], _ => rfl
  | [w], h => words_one w (fun c hc => ((h w (by simp)).2 c hc).1) (h w (by simp)).1
  | w :: x :: r, h => by
    rw [joinW, words_cons w _ (fun c hc => ((h w (by simp)).2 c hc).1) (h w (by simp)).1, words_join (x :: r) (fun y hy => h y (by simp [hy]))]
theorem join_nolf : ∀ (ws : List (List UInt8)), (∀ w ∈ ws, WordG w) → ∀ c ∈ joinW ws, c ≠ 10
  | [], _, c, hc => by simp [joinW] at hc
  | [w], h, c, hc => ((h w (by simp)).2 c hc).2
  | w :: x :: r, h, c, hc => by
    rw [joinW, List.mem_append, List.mem_cons] at hc
    rcases hc with hc | rfl | hc
    · exact ((h w (by simp)).2 c hc).2
    · decide
    · exact join_nolf (x :: r) (fun y hy => h y (by simp [hy])) c hc
theorem run_join (ws : List (List UInt8)) (h : ∀ w ∈ ws, WordG w) (hs : skipB ws = false) : runM (joinW ws) = lineM ws ++ [10] := by
  rw [run_line _ (join_nolf ws h)]
  unfold oneM
  rw [words_join ws h, hs]
  rfl
theorem wordG_itoa (n : Int) (h0 : 0 ≤ n) (h : n < 10000000000) : WordG (itoaM n) := ⟨(itoa_plain n h0 h).2.1, (itoa_plain n h0 h).1⟩
theorem wordG_hex (d : List UInt8) : WordG (hexM d) := ⟨hexM_ne d, hexM_plain d⟩
theorem wordG_dec {w : List UInt8} (h : (decide (w ≠ []) && w.all (fun c => !blankB c && decide (c ≠ 10))) = true) : WordG w := by
  simp only [Bool.and_eq_true, decide_eq_true_eq] at h
  refine ⟨h.1, fun c hc => ?_⟩
  have := List.all_eq_true.1 h.2 c hc
  simpa using this
/-! ### the lines of the laws -/
theorem run_fsm (s v : Int) (hs0 : 0 ≤ s) (hs : s < 10) (hv0 : 0 ≤ v) (hv : v < 16) : runM (joinW [nFsm, itoaM s, itoaM v]) = (if (stepSays s v).2.2 = 0 then itoaM (stepSays s v).1 ++ actsW (stepSays s v).2.1 else errW (stepSays s v).2.2) ++ [10] := by
  rw [run_join _ (by
    intro w hw
    simp only [List.mem_cons, List.not_mem_nil, or_false] at hw
    rcases hw with rfl | rfl | rfl
    · exact wordG_dec (by decide)
    · exact wordG_itoa s hs0 (by omega)
    · exact wordG_itoa v hv0 (by omega)) rfl]
  rw [count_fsm]
  have hn : numsL [itoaM s, itoaM v] = some [s, v] := by rw [numsL, numsL, numsL, num_itoa s hs0 (by omega), num_itoa v hv0 (by omega)]
  unfold countedL
  rw [show [nFsm, itoaM s, itoaM v].tail = [itoaM s, itoaM v] from rfl, hn, show [nFsm, itoaM s, itoaM v].headD [] = nFsm from rfl]
  dsimp only
  rw [if_pos ⟨rfl, rfl⟩, show ([s, v] : List Int).getD 0 0 = s from rfl, show ([s, v] : List Int).getD 1 0 = v from rfl]
  congr 1
  by_cases h : (stepSays s v).2.2 = 0
  · rw [if_neg (by simpa using h), if_pos h]
  · rw [if_pos h, if_neg h]
theorem step_err_cells : (List.range 16).all (fun v => (List.range 10).all fun s => decide ((stepSays (s : Int) (v : Int)).2.2 = 0 ∨ (stepSays (s : Int) (v : Int)).2.2 = 1001)) = true := by decide +kernel
theorem step_err (s v : Nat) (hs : s < 10) (hv : v < 16) : (stepSays s v).2.2 = 0 ∨ (stepSays s v).2.2 = 1001 :=
  of_decide_eq_true (List.all_eq_true.1 (List.all_eq_true.1 step_err_cells v (List.mem_range.2 hv)) s (List.mem_range.2 hs))
theorem run_delay (t b m x : Int) (ht0 : 0 ≤ t) (ht : t ≤ 62) (hb0 : 1 ≤ b) (hm0 : b ≤ m) (hm : m ≤ 4096) (hx0 : 0 ≤ x) (hx : x < 10000000000) : runM (joinW [nDelay, itoaM t, itoaM b, itoaM m, itoaM x]) = itoaM (delayM t b m x).1 ++ [10] := by
  rw [run_join _ (by
    intro w hw
    simp only [List.mem_cons, List.not_mem_nil, or_false] at hw
    rcases hw with rfl | rfl | rfl | rfl | rfl
    · exact wordG_dec (by decide)
    · exact wordG_itoa t ht0 (by omega)
    · exact wordG_itoa b (by omega) (by omega)
    · exact wordG_itoa m (by omega) (by omega)
    · exact wordG_itoa x hx0 hx) rfl]
  rw [count_delay]
  have hn : numsL [itoaM t, itoaM b, itoaM m, itoaM x] = some [t, b, m, x] := by rw [numsL, numsL, numsL, numsL, numsL, num_itoa t ht0 (by omega), num_itoa b (by omega) (by omega), num_itoa m (by omega) (by omega), num_itoa x hx0 hx]
  unfold countedL
  rw [show [nDelay, itoaM t, itoaM b, itoaM m, itoaM x].tail = [itoaM t, itoaM b, itoaM m, itoaM x] from rfl, hn, show [nDelay, itoaM t, itoaM b, itoaM m, itoaM x].headD [] = nDelay from rfl]
  dsimp only
  rw [if_neg (by rintro ⟨h, _⟩; revert h; decide), if_pos ⟨rfl, rfl⟩]
  have hg : (delayM t b m x).2 = 0 := by rw [delay_good (by unfold delayBad; omega)]
  rw [show ([t, b, m, x] : List Int).getD 0 0 = t from rfl, show ([t, b, m, x] : List Int).getD 1 0 = b from rfl, show ([t, b, m, x] : List Int).getD 2 0 = m from rfl, show ([t, b, m, x] : List Int).getD 3 0 = x from rfl, if_neg (by simpa using hg)]
theorem run_target (x r a k : Int) (hx0 : 0 ≤ x) (hx : x < 10000000000) (hr0 : 64 ≤ r) (hr : r ≤ 4096) (ha0 : 1 ≤ a) (ha : a ≤ k) (hk : k ≤ 6) : runM (joinW [nTarget, itoaM x, itoaM r, itoaM a, itoaM k]) = itoaM (targetN x r a k) ++ [10] := by
  rw [run_join _ (by
    intro w hw
    simp only [List.mem_cons, List.not_mem_nil, or_false] at hw
    rcases hw with rfl | rfl | rfl | rfl | rfl
    · exact wordG_dec (by decide)
    · exact wordG_itoa x hx0 hx
    · exact wordG_itoa r (by omega) (by omega)
    · exact wordG_itoa a (by omega) (by omega)
    · exact wordG_itoa k (by omega) (by omega)) rfl]
  rw [count_target]
  have hn : numsL [itoaM x, itoaM r, itoaM a, itoaM k] = some [x, r, a, k] := by rw [numsL, numsL, numsL, numsL, numsL, num_itoa x hx0 hx, num_itoa r (by omega) (by omega), num_itoa a (by omega) (by omega), num_itoa k (by omega) (by omega)]
  unfold countedL
  rw [show [nTarget, itoaM x, itoaM r, itoaM a, itoaM k].tail = [itoaM x, itoaM r, itoaM a, itoaM k] from rfl, hn, show [nTarget, itoaM x, itoaM r, itoaM a, itoaM k].headD [] = nTarget from rfl]
  dsimp only
  rw [if_neg (by rintro ⟨h, _⟩; revert h; decide), if_neg (by rintro ⟨h, _⟩; revert h; decide), if_pos ⟨rfl, rfl⟩]
  rw [show ([x, r, a, k] : List Int).getD 0 0 = x from rfl, show ([x, r, a, k] : List Int).getD 1 0 = r from rfl, show ([x, r, a, k] : List Int).getD 2 0 = a from rfl, show ([x, r, a, k] : List Int).getD 3 0 = k from rfl]
  have hsh : shapeB r a k = true := by unfold shapeB; simp; omega
  rw [if_neg (by rw [hsh]; rintro (h | h); cases h; omega)]
theorem run_fcs (d : List UInt8) : runM (joinW [nFcs, hexM d]) = itoaM (fcs d) ++ [10] := by
  rw [run_join _ (by
    intro w hw
    simp only [List.mem_cons, List.not_mem_nil, or_false] at hw
    rcases hw with rfl | rfl
    · exact wordG_dec (by decide)
    · exact wordG_hex d) rfl]
  rw [line_one nFcs [hexM d] rfl, if_neg (by simp)]
  simp only [List.getD_cons_zero, unhex_hex]
  rfl
theorem run_md5 (d : List UInt8) : runM (joinW [nMd5, hexM d]) = hexM (md5M d) ++ [10] := by
  rw [run_join _ (by
    intro w hw
    simp only [List.mem_cons, List.not_mem_nil, or_false] at hw
    rcases hw with rfl | rfl
    · exact wordG_dec (by decide)
    · exact wordG_hex d) rfl]
  rw [line_one nMd5 [hexM d] rfl, if_neg (by simp)]
  simp only [List.getD_cons_zero, unhex_hex]
  rfl
theorem run_unframe (T : List UInt8) : runM (joinW [nUnframe, hexM T]) = (if (unframe T).2.2 = 0 then itoaM (unframe T).1 ++ [32] ++ hexM (unframe T).2.1 else errW (unframe T).2.2) ++ [10] := by
  rw [run_join _ (by
    intro w hw
    simp only [List.mem_cons, List.not_mem_nil, or_false] at hw
    rcases hw with rfl | rfl
    · exact wordG_dec (by decide)
    · exact wordG_hex T) rfl]
  rw [line_one nUnframe [hexM T] rfl, if_neg (by simp)]
  simp only [List.getD_cons_zero, unhex_hex]
  rfl
theorem run_frame (q : Int) (d : List UInt8) (hq : protoOk q = true) (hd : d.length ≤ 2048) : runM (joinW [nFrame, itoaM q, hexM d]) = hexM (frameT q d 0).1 ++ [10] := by
  have hr : 1 ≤ q ∧ q ≤ 65535 := by simp [protoOk] at hq; omega
  rw [run_join _ (by
    intro w hw
    simp only [List.mem_cons, List.not_mem_nil, or_false] at hw
    rcases hw with rfl | rfl | rfl
    · exact wordG_dec (by decide)
    · exact wordG_itoa q (by omega) (by omega)
    · exact wordG_hex d) rfl]
  rw [line_frame, if_neg (by simp)]
  have h2 : (frameT q d 0).2 = 0 := by unfold frameT; rw [if_neg (by rw [hq]; decide), if_neg (by omega)]
  simp only [List.getD_cons_zero, List.getD_cons_succ, unhex_hex, num_itoa q (by omega) (by omega)]
  rw [if_neg (by simpa using h2)]
/-- what lies between the flags -/
def innerT (q : Int) (d : List UInt8) : List UInt8 := stuff 0 (put (headB q ++ d))
theorem hexL_app (a b : List UInt8) : hexL (a ++ b) = hexL a ++ hexL b := by simp [hexL]
theorem inner_ne (q : Int) (d : List UInt8) : innerT q d ≠ [] := by
  unfold innerT
  intro h
  have e : put (headB q ++ d) = 255 :: ([3, byteAt (q / 256), byteAt q] ++ d ++ [UInt8.ofNat (fcs (headB q ++ d) % 256), UInt8.ofNat (fcs (headB q ++ d) / 256)]) := by simp [put, headB]
  rw [e, stuff_cons] at h
  have := List.append_eq_nil_iff.1 h
  have h2 := this.1
  unfold stuffB at h2
  split at h2 <;> simp at h2
theorem hex_frame (q : Int) (d : List UInt8) (hq : protoOk q = true) (hd : d.length ≤ 2048) : hexM (frameT q d 0).1 = 55 :: 101 :: (hexM (innerT q d) ++ [55, 101]) := by
  have h1 : (frameT q d 0).1 = [126] ++ innerT q d ++ [126] := by unfold frameT innerT; rw [if_neg (by rw [hq]; decide), if_neg (by omega)]
  rw [h1]
  have hx : hexM (innerT q d) = hexL (innerT q d) := by
    unfold hexM
    rw [if_neg (by have := inner_ne q d; simpa using this)]
  rw [hx]
  unfold hexM
  rw [if_neg (by simp), hexL_app, hexL_app]
  rfl
theorem inner_back (q : Int) (d : List UInt8) (hq : protoOk q = true) (hd : d.length ≤ 2048) : unframe (innerT q d) = (q, d, 0) := by
  unfold innerT
  rw [unframe_stuff 0 _ (by simp [headB]), unhead_head q d hq hd]
theorem run_inner (q : Int) (d : List UInt8) (hq : protoOk q = true) (hd : d.length ≤ 2048) : runM (joinW [nUnframe, hexM (innerT q d)]) = itoaM q ++ [32] ++ hexM d ++ [10] := by
  rw [run_unframe, inner_back q d hq hd, if_pos rfl]
/-! ### blanks -/
def blanksL : List (List UInt8) := [[32], [9], [32, 32], [32, 9, 32]]
def blankA (v k : Nat) : List UInt8 := [35, 32, 99, 10, 10] ++ blanksL.getD k [] ++ nFsm ++ blanksL.getD k [] ++ itoaM v ++ blanksL.getD k [] ++ itoaM v ++ [10] ++ blanksL.getD k [] ++ [10, 109, 100, 53, 32, 45, 10]
def blankC (v : Nat) : List UInt8 := nFsm ++ [32] ++ itoaM v ++ [32] ++ itoaM v ++ [10, 109, 100, 53, 32, 45]
theorem blanks_cells : (List.range 16).all (fun v => (List.range 4).all fun k => decide (runM (blankA v k) = runM (blankC v) ∧ 33 < (runM (blankC v)).length)) = true := by decide +kernel
theorem blanks_run (v k : Nat) (hv : v < 16) (hk : k < 4) : runM (blankA v k) = runM (blankC v) ∧ 33 < (runM (blankC v)).length :=
  of_decide_eq_true (List.all_eq_true.1 (List.all_eq_true.1 blanks_cells v (List.mem_range.2 hv)) k (List.mem_range.2 hk))
end Go.Proofs.YteigigepmoicaaaGreatDoor
