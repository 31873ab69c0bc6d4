/- The console's commands: what a line tells, what a script tells; the law's own answer. Plain. -/
import Derived.Test.YteigigepmoicaaaGreatDoorMg1
import Derived.Test.YteigigepmoicaaaGreatDoorMd5
import Derived.Test.YteigigepmoicaaaGreatDoorFrameGet
import Derived.Test.YteigigepmoicaaaGreatDoorFsm
namespace Go.Proofs.YteigigepmoicaaaGreatDoor
open Go.RowKit Go.Crc
set_option linter.unusedVariables false
set_option linter.unusedSimpArgs false
def nFcs : List UInt8 := [102, 99, 115]
def nFrame : List UInt8 := [102, 114, 97, 109, 101]
def nUnframe : List UInt8 := [117, 110, 102, 114, 97, 109, 101]
def nFsm : List UInt8 := [102, 115, 109]
def nMd5 : List UInt8 := [109, 100, 53]
def nDelay : List UInt8 := [100, 101, 108, 97, 121]
def nTarget : List UInt8 := [116, 97, 114, 103, 101, 116]
def errW (e : Int) : List UInt8 := [101, 114, 114, 111, 114, 32] ++ itoaM e
def actsW (l : List Int) : List UInt8 := l.flatMap fun x => 32 :: itoaM x
def delayD : Nat → Int → Int → Int
  | 0, d, _ => d
  | n + 1, d, m => if m / 2 < d then m else delayD n (d * 2) m
def delayBad (t b m j : Int) : Prop := t < 0 ∨ 62 < t ∨ b < 1 ∨ 4096 < b ∨ m < b ∨ 4096 < m ∨ j < 0
instance (t b m j : Int) : Decidable (delayBad t b m j) := by unfold delayBad; infer_instance
def delayM (t b m j : Int) : Int × Int := if delayBad t b m j then (0, 1200) else (delayD t.toNat b m - j % (delayD t.toNat b m / 4 + 1), 0)
theorem delay_bad {t b m j : Int} (h : delayBad t b m j) : delayM t b m j = (0, 1200) := if_pos h
theorem delay_good {t b m j : Int} (h : ¬ delayBad t b m j) : delayM t b m j = (delayD t.toNat b m - j % (delayD t.toNat b m / 4 + 1), 0) := if_neg h
def shapeB (rate least links : Int) : Bool := decide (64 ≤ rate) && decide (rate ≤ 4096) && decide (1 ≤ links) && decide (links ≤ 6) && decide (1 ≤ least) && decide (least ≤ links)
def targetN (load rate least links : Int) : Int := min (max (load / rate + if 0 < load % rate then 1 else 0) least) links
def kindsOf (name : List UInt8) : Option (List UInt8) :=
  if name = nFcs then some [120] else if name = nFrame then some [110, 120] else if name = nUnframe then some [120] else if name = nFsm then some [110, 110]
  else if name = nMd5 then some [120] else if name = nDelay then some [110, 110, 110, 110] else if name = nTarget then some [110, 110, 110, 110] else none
def readM : List UInt8 → List (List UInt8) → Option (List Int × List (List UInt8))
  | [], [] => some ([], [])
  | k :: ks, w :: ws => if k = 110 then (match numM w, readM ks ws with | some x, some (n, b) => some (x :: n, b) | _, _ => none) else (match unhexM w, readM ks ws with | some x, some (n, b) => some (n, x :: b) | _, _ => none)
  | _, _ => none
def tellM (name : List UInt8) (n : List Int) (b : List (List UInt8)) : List UInt8 × Int :=
  if name = nFcs then (itoaM (fcs (b.getD 0 [])), 0)
  else if name = nFrame then (hexM (frameT (n.getD 0 0) (b.getD 0 []) 0).1, (frameT (n.getD 0 0) (b.getD 0 []) 0).2)
  else if name = nUnframe then (itoaM (unframe (b.getD 0 [])).1 ++ [32] ++ hexM (unframe (b.getD 0 [])).2.1, (unframe (b.getD 0 [])).2.2)
  else if name = nFsm then (itoaM (stepSays (n.getD 0 0) (n.getD 1 0)).1 ++ actsW (stepSays (n.getD 0 0) (n.getD 1 0)).2.1, (stepSays (n.getD 0 0) (n.getD 1 0)).2.2)
  else if name = nMd5 then (hexM (md5M (b.getD 0 [])), 0)
  else if name = nDelay then (itoaM (delayM (n.getD 0 0) (n.getD 1 0) (n.getD 2 0) (n.getD 3 0)).1, (delayM (n.getD 0 0) (n.getD 1 0) (n.getD 2 0) (n.getD 3 0)).2)
  else if n.getD 0 0 < 0 ∨ shapeB (n.getD 1 0) (n.getD 2 0) (n.getD 3 0) = false then ([], 2400) else (itoaM (targetN (n.getD 0 0) (n.getD 1 0) (n.getD 2 0) (n.getD 3 0)), 0)
def tellW (name : List UInt8) (r : Option (List Int × List (List UInt8))) : List UInt8 := match r with
  | none => errW 2800
  | some (n, b) => if (tellM name n b).2 = 0 then (tellM name n b).1 else errW (tellM name n b).2
def lineM (ws : List (List UInt8)) : List UInt8 := match kindsOf (ws.headD []) with
  | none => errW 2800
  | some k => tellW (ws.headD []) (readM k ws.tail)
def skipB (ws : List (List UInt8)) : Bool := match ws with
  | [] => true
  | w :: _ => decide (w.head? = some 35)
def oneM (x : List UInt8) : List UInt8 := if skipB (wordsM x) then [] else lineM (wordsM x) ++ [10]
def runM (l : List UInt8) : List UInt8 := (cutN 10 l).flatMap oneM
def awakeS : List UInt8 := [102, 99, 115, 32, 51, 49, 51, 50, 51, 51, 51, 52, 51, 53, 51, 54, 51, 55, 51, 56, 51, 57, 10, 35, 32, 120, 10, 102, 115, 109, 32, 50, 32, 50, 10, 109, 100, 53, 32, 54, 49, 54, 50, 54, 51, 10, 100, 101, 108, 97, 121, 32, 51, 32, 50, 32, 49, 48, 32, 48, 10, 116, 97, 114, 103, 101, 116, 32, 50, 53, 55, 32, 50, 53, 54, 32, 49, 32, 51, 10, 102, 114, 111, 98, 10, 102, 114, 97, 109, 101, 32, 50, 32, 45, 10, 117, 110, 102, 114, 97, 109, 101, 32, 48, 48]
def awakeT : List UInt8 := [51, 54, 57, 55, 52, 10, 54, 32, 53, 32, 55, 10, 57, 48, 48, 49, 53, 48, 57, 56, 51, 99, 100, 50, 52, 102, 98, 48, 100, 54, 57, 54, 51, 102, 55, 100, 50, 56, 101, 49, 55, 102, 55, 50, 10, 49, 48, 10, 50, 10, 101, 114, 114, 111, 114, 32, 50, 56, 48, 48, 10, 101, 114, 114, 111, 114, 32, 51, 48, 51, 10, 101, 114, 114, 111, 114, 32, 51, 48, 48, 10]
theorem awake_run : runM awakeS = awakeT := by decide +kernel
/-! ### the law's own -/
def refD : Nat → Int → Int → Int
  | 0, d, m => min d m
  | n + 1, d, m => if d < m then refD n (2 * d) m else min d m
theorem refD_eq : ∀ (n : Nat) (d m : Int), 1 ≤ d → d ≤ m → refD n d m = delayD n d m
  | 0, d, m, _, h => by rw [refD, delayD]; omega
  | n + 1, d, m, h1, h => by
    rw [refD, delayD]
    by_cases h2 : m / 2 < d
    · rw [if_pos h2]
      by_cases h3 : d < m
      · rw [if_pos h3]
        have : ∀ (k : Nat) (x : Int), m ≤ x → refD k x m = m := by
          intro k x hx
          cases k with
          | zero => rw [refD]; omega
          | succ k => rw [refD, if_neg (by omega)]; omega
        exact this _ _ (by omega)
      · rw [if_neg h3]; omega
    · rw [if_neg h2, if_pos (by omega), refD_eq n (2 * d) m (by omega) (by omega), Int.mul_comm]
theorem delayD_range : ∀ (n : Nat) (d m : Int), 1 ≤ d → d ≤ m → 1 ≤ delayD n d m ∧ delayD n d m ≤ m
  | 0, d, m, h1, h => ⟨h1, h⟩
  | n + 1, d, m, h1, h => by
    rw [delayD]
    split
    · omega
    · exact delayD_range n (d * 2) m (by omega) (by omega)
def numsL : List (List UInt8) → Option (List Int)
  | [] => some []
  | w :: ws => match numM w, numsL ws with
    | some x, some l => some (x :: l)
    | _, _ => none
def countedL (ws : List (List UInt8)) : List UInt8 := match numsL ws.tail with
  | none => errW 2800
  | some n =>
    if ws.headD [] = nFsm ∧ n.length = 2 then (if (stepSays (n.getD 0 0) (n.getD 1 0)).2.2 ≠ 0 then errW (stepSays (n.getD 0 0) (n.getD 1 0)).2.2 else itoaM (stepSays (n.getD 0 0) (n.getD 1 0)).1 ++ actsW (stepSays (n.getD 0 0) (n.getD 1 0)).2.1)
    else if ws.headD [] = nDelay ∧ n.length = 4 then (if (delayM (n.getD 0 0) (n.getD 1 0) (n.getD 2 0) (n.getD 3 0)).2 ≠ 0 then errW (delayM (n.getD 0 0) (n.getD 1 0) (n.getD 2 0) (n.getD 3 0)).2 else itoaM (delayM (n.getD 0 0) (n.getD 1 0) (n.getD 2 0) (n.getD 3 0)).1)
    else if ws.headD [] = nTarget ∧ n.length = 4 then (if shapeB (n.getD 1 0) (n.getD 2 0) (n.getD 3 0) = false ∨ n.getD 0 0 < 0 then errW 2400 else itoaM (targetN (n.getD 0 0) (n.getD 1 0) (n.getD 2 0) (n.getD 3 0)))
    else errW 2800
def oneL (name w : List UInt8) : List UInt8 := match unhexM w with
  | none => errW 2800
  | some d =>
    if name = nFcs then itoaM (fcs d) else if name = nMd5 then hexM (md5M d)
    else if name = nUnframe then (if (unframe d).2.2 ≠ 0 then errW (unframe d).2.2 else itoaM (unframe d).1 ++ [32] ++ hexM (unframe d).2.1)
    else errW 2800
def tellsL (ws : List (List UInt8)) : List UInt8 :=
  if ws.headD [] = nFsm ∨ ws.headD [] = nDelay ∨ ws.headD [] = nTarget then countedL ws
  else if ws.headD [] = nFrame then (if ws.length ≠ 3 then errW 2800 else match numM (ws.getD 1 []), unhexM (ws.getD 2 []) with
    | some p, some d => if (frameT p d 0).2 ≠ 0 then errW (frameT p d 0).2 else hexM (frameT p d 0).1
    | _, _ => errW 2800)
  else if ws.length ≠ 2 then errW 2800 else oneL (ws.headD []) (ws.getD 1 [])
theorem read_nums : ∀ (n : Nat) (ws : List (List UInt8)), readM (List.replicate n 110) ws = if ws.length = n then (numsL ws).map (fun l => (l, [])) else none
  | 0, [] => rfl
  | 0, w :: ws => rfl
  | n + 1, [] => rfl
  | n + 1, w :: ws => by
    rw [List.replicate_succ, readM, if_pos rfl, read_nums n ws, numsL]
    by_cases h : ws.length = n
    · rw [if_pos h, if_pos (by simp [h])]
      cases numM w with
      | none => rfl
      | some x => cases numsL ws <;> rfl
    · rw [if_neg h, if_neg (by simp [h])]
      cases numM w <;> rfl
theorem nums_length : ∀ (ws : List (List UInt8)) (l : List Int), numsL ws = some l → l.length = ws.length
  | [], l, h => by cases h; rfl
  | w :: ws, l, h => by
    rw [numsL] at h
    cases h1 : numM w with
    | none => rw [h1] at h; cases h
    | some x =>
      cases h2 : numsL ws with
      | none => rw [h1, h2] at h; cases h
      | some l2 =>
        rw [h1, h2] at h
        cases h
        rw [List.length_cons, List.length_cons, nums_length ws l2 h2]
end Go.Proofs.YteigigepmoicaaaGreatDoor
