/- The reference's side: where it lies; next, less, NewNeg. -/
import Derived.Test.YtagnbdenecphcaaGreatDoorRg
namespace Go.Proofs.YtagnbdenecphcaaGreatDoor
open Go.RowKit
set_option linter.unusedVariables false
set_option linter.unusedSimpArgs false
/-- the cells of the reference's side -/
def rnegCells (s : NegM) (av : Value) : Array Value := #[.int .i64 s.state, .int .i64 s.own.mru, .int .i64 s.own.magic, .int .i64 s.own.mrru, .bool s.own.short, .string s.own.disc, .int .i64 s.own.num, .int .i64 s.other.mru, .int .i64 s.other.magic, .int .i64 s.other.mrru, .bool s.other.short, .string s.other.disc, .int .i64 s.other.num, .int .i64 s.left, .int .i64 s.tries, .int .i64 s.id, .int .i64 s.asked, av]
def RNegAt (w : World) (p : Nat) (av : Value) (s : NegM) : Prop := w.heap[p]? = some (.cells (rnegCells s av) 52 (0, 0))
theorem RNegAt.below {w w' : World} {p : Nat} {av : Value} {s : NegM} (h : RNegAt w p av s) (hb : Below w.heap.size w w') : RNegAt w' p av s := below_of hb h
theorem RNegAt.only {S : Nat → Prop} {w w' : World} {p : Nat} {av : Value} {s : NegM} (h : RNegAt w p av s) (ho : Only S w w') (hn : ¬ S p) : RNegAt w' p av s := ho.heap h hn
theorem RNegAt.lt {w : World} {p : Nat} {av : Value} {s : NegM} (h : RNegAt w p av s) : p < w.heap.size := (Array.getElem?_eq_some_iff.1 h).1
theorem RNegAt.cell {w : World} {p : Nat} {av : Value} {s : NegM} (h : RNegAt w p av s) (i : Nat) : w.cell? ⟨p, i, none⟩ = (rnegCells s av)[i]? := by
  unfold RNegAt at h
  simp [World.cell?, h]
theorem RNegAt.frozen {w : World} {p : Nat} {av : Value} {s : NegM} (h : RNegAt w p av s) (i : Nat) : w.frozen? ⟨p, i, none⟩ = false := by
  unfold RNegAt at h
  simp [World.frozen?, h]
theorem RNegAt.set {w : World} {p : Nat} {av : Value} {s : NegM} (h : RNegAt w p av s) (i : Nat) (x av' : Value) (s' : NegM) (he : (rnegCells s av).setIfInBounds i x = rnegCells s' av') : RNegAt (w.setCell ⟨p, i, none⟩ x) p av' s' := by
  have := heap_setCell_same w p i (rnegCells s av) 52 x h
  rw [he] at this
  exact this
set_option maxHeartbeats 2000000 in
theorem rnext_any (p : Nat) (av : Value) (s : NegM) (w : World) (h : RNegAt w p av s) (hi : 0 ≤ s.id ∧ s.id ≤ 255) :
    Calls Tryz.prog 43 #[.pointer (some ⟨p, 0, none⟩)] w fun e w' => e = .returned (.int .i64 ((s.id + 1) % 256)) ∧ RNegAt w' p av (nextM s) ∧ Only (· = p) w w' := by
  have c := h.cell 15
  have f := h.frozen 15
  have hb := i64_low (s.id + 1) 8 (by decide)
  have hw : wrap64 (s.id + 1) = s.id + 1 := IntWalk.wrap64_in _ ⟨by omega, by omega⟩
  have hN := h.set 15 (.int .i64 ((s.id + 1) % 256)) av (nextM s) (by simp [rnegCells, nextM])
  have hO := only_set w p 15 (.int .i64 ((s.id + 1) % 256))
  have c2 := hN.cell 15
  replace c : w.cell? ⟨p, 15, none⟩ = some (.int .i64 s.id) := c
  replace c2 : (w.setCell ⟨p, 15, none⟩ (.int .i64 ((s.id + 1) % 256))).cell? ⟨p, 15, none⟩ = some (.int .i64 ((s.id + 1) % 256)) := c2
  replace hb : bits BinOp.and IntKind.i64 (s.id + 1) 255 = (s.id + 1) % 256 := hb
  go_enter Tryz.func43, Tryz.ntmps43
  go_wp2_with fail
  go_ret
  exact ⟨rfl, hN, hO⟩
set_option maxHeartbeats 2000000 in
theorem rless_any (p : Nat) (av : Value) (s : NegM) (w : World) (h : RNegAt w p av s) (hl : 0 ≤ s.left ∧ s.left ≤ 10) :
    Calls Tryz.prog 41 #[.pointer (some ⟨p, 0, none⟩)] w fun e w' => e = .returned (.tuple #[]) ∧ RNegAt w' p av (countM s) ∧ Only (· = p) w w' := by
  have c := h.cell 13
  have f := h.frozen 13
  have hN := h.set 13 (.int .i64 (max 0 (s.left - 1))) av (countM s) (by simp [rnegCells, countM])
  have hO := only_set w p 13 (.int .i64 (max 0 (s.left - 1)))
  replace c : w.cell? ⟨p, 13, none⟩ = some (.int .i64 s.left) := c
  go_enter Tryz.func41, Tryz.ntmps41
  go_wp2_with fail
  go_end0
  exact ⟨rfl, hN, hO⟩
end Go.Proofs.YtagnbdenecphcaaGreatDoor
