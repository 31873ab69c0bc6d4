/- awake, the first thing every law of neg asks. -/
import Derived.Test.YtagnbdenecphcaaGreatDoorMp
namespace Go.Proofs.YtagnbdenecphcaaGreatDoor
open Go.RowKit
set_option linter.unusedVariables false
set_option linter.unusedSimpArgs false
theorem PacksOwn.cells {w : World} {b : Nat} {a : Option Addr} {n c : Nat} {l : List PackV} (h : PacksOwn w b (.slice a n c) l) (j : Nat) (hj : j < l.length) :
    ∃ g, a = some ⟨g, 0, none⟩ ∧ b ≤ g ∧ g < w.heap.size ∧ n = l.length ∧ n ≤ c ∧ c ≤ maxLen ∧ w.cell? ⟨g, j * 4, none⟩ = some (.int .i64 l[j].1.code) ∧ w.cell? ⟨g, j * 4 + 1, none⟩ = some (.int .i64 l[j].1.id) ∧ w.cell? ⟨g, j * 4 + 2, none⟩ = some (slOf l[j]) ∧ w.cell? ⟨g, j * 4 + 3, none⟩ = some (.string l[j].1.data) := by
  have hl := h.1.lt
  have hb := h.1.block
  rcases h.1.at with ⟨h0, _⟩ | ⟨g, o, c', hv, h1, h2, hg, hc⟩
  · subst h0; cases hj
  · rcases h.1.2 with ⟨hv2, h0⟩ | ⟨g', cap, cur, hv2, hg', _⟩
    · rw [h0] at hj; cases hj
    · cases hv
      cases hv2
      refine ⟨g, rfl, hg', hg, rfl, h1, h2, ?_, ?_, ?_, ?_⟩
      · have := hc j hj 0 (by decide); simpa [packE] using this
      · have := hc j hj 1 (by decide); simpa [packE] using this
      · have := hc j hj 2 (by decide); simpa [packE, slOf] using this
      · have := hc j hj 3 (by decide); simpa [packE] using this
def awL : LinkM := ⟨1500, 0, 0, false, ⟨#[]⟩, 0⟩
def awS0 : NegM := newM awL 4
def awS1 : NegM := { awS0 with state := 1 }
def awS2 : NegM := { awS0 with state := 6, left := 3, id := 1, asked := 1, os := askM awL }
def awS3 : NegM := { awS2 with state := 8 }
theorem aw_may : mayM awL = true := by decide
theorem aw1 : doM awS0 2 = (awS1, [], 0) := by kernel_rfl
theorem aw2 : doM awS1 0 = (awS2, [⟨1, 1, askM awL, ⟨#[]⟩⟩], 0) := by kernel_rfl
theorem aw3 : doM awS2 8 = (awS2, [], 1500) := by kernel_rfl
theorem aw4 : doM awS2 0 = (awS2, [], 1501) := by kernel_rfl
theorem aw5 : takeM awS2 ⟨1, 9, [], ⟨#[]⟩⟩ = (awS3, [⟨2, 9, [], ⟨#[]⟩⟩], 0) := by kernel_rfl
end Go.Proofs.YtagnbdenecphcaaGreatDoor
