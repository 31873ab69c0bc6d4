/- A side that nobody answers: plain. -/
import Derived.Test.YtagnbdenecphcaaDoorMl
namespace Go.Proofs.YtagnbdenecphcaaDoor
open Go.RowKit
set_option linter.unusedVariables false
set_option linter.unusedSimpArgs false
theorem st02 : stepSays 0 2 = (1, [3], 0) := by kernel_rfl
theorem st10 : stepSays 1 0 = (6, [5, 7], 0) := by kernel_rfl
theorem st64 : stepSays 6 4 = (6, [7], 0) := by kernel_rfl
theorem st65 : stepSays 6 5 = (3, [4], 0) := by kernel_rfl
/-- behind j timeouts -/
def quitS (l : LinkM) (k j : Int) : NegM := ⟨6, k - 1 - j, k, l, linkZ, 1 + j, 1 + j, askM l⟩
def stoppedS (l : LinkM) (k j : Int) : NegM := ⟨3, k - 1 - j, k, l, linkZ, 1 + j, 1 + j, askM l⟩
def openS (l : LinkM) (k : Int) : NegM := { newM l k with state := 1 }
theorem quit_open (l : LinkM) (k : Int) : doM (newM l k) 2 = (openS l k, [], 0) := by
  unfold doM
  rw [if_pos (by decide)]
  unfold runM
  rw [show (newM l k).state = 0 from rfl, st02, if_neg (by decide)]
  rfl
theorem quit_up (l : LinkM) (k : Int) (h1 : 1 ≤ k) : doM (openS l k) 0 = (quitS l k 0, [⟨1, 1, askM l, ⟨#[]⟩⟩], 0) := by
  unfold doM
  rw [if_pos (by decide)]
  unfold runM
  rw [show (openS l k).state = 1 from rfl, st10, if_neg (by decide)]
  have e : max 0 (k - 1) = k - 1 - 0 := by omega
  simp [actsM, actM, setLeft, sendM, reqM, nextM, countM, openS, newM, quitS, e]
theorem quit_more (l : LinkM) (k j : Int) (h0 : 0 ≤ j) (h1 : j < k - 1) (h2 : k ≤ 10) : doM (quitS l k j) 4 = (quitS l k (j + 1), [⟨1, 2 + j, askM l, ⟨#[]⟩⟩], 0) := by
  unfold doM
  rw [if_neg (by decide), if_pos rfl, if_neg (show ¬ (quitS l k j).left = 0 by simp only [quitS]; omega)]
  unfold runM
  rw [show (quitS l k j).state = 6 from rfl, st64, if_neg (by decide)]
  have e : max 0 (k - 1 - j - 1) = k - 1 - (j + 1) := by omega
  have e2 : (1 + j + 1) % 256 = 1 + (j + 1) := by omega
  have e3 : 2 + j = 1 + (j + 1) := by omega
  simp [actsM, actM, setLeft, sendM, reqM, nextM, countM, quitS, e, e2, e3]
theorem quit_over (l : LinkM) (k j : Int) (h1 : j = k - 1) : doM (quitS l k j) 4 = (stoppedS l k j, [], 0) := by
  unfold doM
  rw [if_neg (by decide), if_pos rfl, if_pos (show (quitS l k j).left = 0 by simp only [quitS]; omega)]
  unfold runM
  rw [show (quitS l k j).state = 6 from rfl, st65, if_neg (by decide)]
  simp [actsM, actM, setLeft, sendM, quitS, stoppedS]
end Go.Proofs.YtagnbdenecphcaaDoor
