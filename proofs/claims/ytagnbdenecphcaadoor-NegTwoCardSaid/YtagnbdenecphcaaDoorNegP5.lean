/- What open sides do next, by tokens: one closes; one is asked anew. Echoes, unknown codes: plain. -/
import Derived.Test.YtagnbdenecphcaaDoorNegP4
namespace Go.Proofs.YtagnbdenecphcaaDoor
open Go.RowKit
set_option linter.unusedVariables false
set_option linter.unusedSimpArgs false
def onG (o : Option (SyN × List SyP)) : SyN × List SyP := o.getD (newS 8, [])
def clX (ls ms : Bool) : SyN := (onG (doS (finG ls ms).x 3)).1
def clI (ls ms : Bool) : Int := (((onG (doS (finG ls ms).x 3)).2.head?).map (·.id)).getD 0
def clY (ls ms : Bool) : SyN := (onG (takeS ms ls (finG ls ms).y ⟨5, clI ls ms, false⟩)).1
def clX2 (ls ms : Bool) : SyN := (onG (takeS ls ms (clX ls ms) ⟨6, clI ls ms, false⟩)).1
def clY2 (ls ms : Bool) : SyN := (onG (doS (clY ls ms) 4)).1
structure ClosesG (ls ms : Bool) : Prop where
  x1 : doS (finG ls ms).x 3 = some (clX ls ms, [⟨5, clI ls ms, false⟩])
  x1s : (clX ls ms).state = 4
  y1 : takeS ms ls (finG ls ms).y ⟨5, clI ls ms, false⟩ = some (clY ls ms, [⟨6, clI ls ms, false⟩])
  y1s : (clY ls ms).state = 5
  x2 : takeS ls ms (clX ls ms) ⟨6, clI ls ms, false⟩ = some (clX2 ls ms, [])
  x2s : (clX2 ls ms).state = 2
  y2 : doS (clY ls ms) 4 = some (clY2 ls ms, [])
  y2s : (clY2 ls ms).state = 3
def closesB (ls ms : Bool) : Bool :=
  decide (doS (finG ls ms).x 3 = some (clX ls ms, [⟨5, clI ls ms, false⟩])) && (decide ((clX ls ms).state = 4) && (decide (takeS ms ls (finG ls ms).y ⟨5, clI ls ms, false⟩ = some (clY ls ms, [⟨6, clI ls ms, false⟩])) && (decide ((clY ls ms).state = 5) &&
  (decide (takeS ls ms (clX ls ms) ⟨6, clI ls ms, false⟩ = some (clX2 ls ms, [])) && (decide ((clX2 ls ms).state = 2) && (decide (doS (clY ls ms) 4 = some (clY2 ls ms, [])) && decide ((clY2 ls ms).state = 3)))))))
theorem closes_all : ([false, true].all fun ls => [false, true].all fun ms => closesB ls ms) = true := by decide +kernel
theorem closesG (ls ms : Bool) : ClosesG ls ms := by
  have h : closesB ls ms = true := by
    have := closes_all
    simp only [List.all_cons, List.all_nil, Bool.and_true, Bool.and_eq_true] at this
    obtain ⟨⟨h1, h2⟩, h3, h4⟩ := this
    cases ls <;> cases ms
    · exact h1
    · exact h2
    · exact h3
    · exact h4
  simp only [closesB, Bool.and_eq_true, decide_eq_true_eq] at h
  obtain ⟨h1, h2, h3, h4, h5, h6, h7, h8⟩ := h
  exact ⟨h1, h2, h3, h4, h5, h6, h7, h8⟩
/-! ### asked anew -/
def agY (ls ms : Bool) : SyN := (onG (doS (finG ls ms).y 1)).1
def agY2 (ls ms : Bool) : SyN := (onG (doS (agY ls ms) 0)).1
def agP (ls ms : Bool) : List SyP := (onG (doS (agY ls ms) 0)).2
def agInit (ls ms : Bool) : SyG := ⟨(finG ls ms).x, agY2 ls ms, agP ls ms, []⟩
def agG (ls ms : Bool) : SyG := (roundsG ls ms 20 (agInit ls ms)).getD (initG 8)
structure AgainG (ls ms : Bool) : Prop where
  y1 : doS (finG ls ms).y 1 = some (agY ls ms, [])
  y2 : doS (agY ls ms) 0 = some (agY2 ls ms, agP ls ms)
  r : roundsG ls ms 20 (agInit ls ms) = some (agG ls ms)
  good : goodG (agG ls ms) = true
def againB (ls ms : Bool) : Bool := decide (doS (finG ls ms).y 1 = some (agY ls ms, [])) && (decide (doS (agY ls ms) 0 = some (agY2 ls ms, agP ls ms)) && (decide (roundsG ls ms 20 (agInit ls ms) = some (agG ls ms)) && goodG (agG ls ms)))
theorem again_all : ([false, true].all fun ls => [false, true].all fun ms => againB ls ms) = true := by decide +kernel
theorem againG (ls ms : Bool) : AgainG ls ms := by
  have h : againB ls ms = true := by
    have := again_all
    simp only [List.all_cons, List.all_nil, Bool.and_true, Bool.and_eq_true] at this
    obtain ⟨⟨h1, h2⟩, h3, h4⟩ := this
    cases ls <;> cases ms
    · exact h1
    · exact h2
    · exact h3
    · exact h4
  simp only [againB, Bool.and_eq_true, decide_eq_true_eq] at h
  obtain ⟨h1, h2, h3, h4⟩ := h
  exact ⟨h1, h2, h3, h4⟩
/-! ### an open side -/
theorem st915 : stepSays 9 15 = (9, [13], 0) := by kernel_rfl
theorem st912 : stepSays 9 12 = (9, [12], 0) := by kernel_rfl
theorem same9 {s : NegM} (h : s.state = 9) : ({ s with state := 9 } : NegM) = s := by cases s; cases h; rfl
theorem open_echo {s : NegM} (h : s.state = 9) (i : Int) (d : ByteArray) (hi : 0 ≤ i ∧ i ≤ 255) (hd : d.size ≤ 100) : takeM s ⟨9, i, [], d⟩ = (s, [⟨10, i, [], d⟩], 0) := by
  rw [take_some (s1 := s) (r := ⟨⟨9, i, [], d⟩, 0, 0, []⟩) (e := 15) (control_plain 9 i d (by omega) hi (by omega)) (by omega) rfl]
  unfold runM
  rw [h, st915, if_neg (by decide)]
  simp [actsM, actM, setLeft, sendM, same9 h]
theorem open_drop {s : NegM} (h : s.state = 9) (i : Int) (d : ByteArray) (hi : 0 ≤ i ∧ i ≤ 255) (hd : d.size ≤ 100) : takeM s ⟨11, i, [], d⟩ = (s, [], 0) := by
  rw [take_some (s1 := s) (r := ⟨⟨11, i, [], d⟩, 0, 0, []⟩) (e := 15) (control_plain 11 i d (by omega) hi (by omega)) (by omega) rfl]
  unfold runM
  rw [h, st915, if_neg (by decide)]
  simp [actsM, actM, setLeft, sendM, same9 h]
theorem open_refuse {s : NegM} (h : s.state = 9) (c i : Int) (d : ByteArray) (hc : 12 ≤ c ∧ c ≤ 139) (hi : 0 ≤ i ∧ i ≤ 255) (hd : d.size ≤ 100) : takeM s ⟨c, i, [], d⟩ = (nextM s, [⟨7, (s.id + 1) % 256, [], bytesOf ((controlM ⟨c, i, [], d⟩).1.take 64)⟩], 0) := by
  have he : eventM s ⟨c, i, [], d⟩ = (s, ⟨⟨c, i, [], d⟩, 0, 0, []⟩, some 12) := by
    unfold eventM
    dsimp only
    rw [if_neg (by omega), if_neg (by omega), if_neg (by omega), if_neg (by omega), if_neg (by omega), if_neg (by omega), if_neg (by omega)]
  rw [take_some (control_plain c i d (by omega) hi (by omega)) (by omega) he]
  unfold runM
  rw [h, st912, if_neg (by decide)]
  simp [actsM, actM, setLeft, sendM, nextM, same9 h]
end Go.Proofs.YtagnbdenecphcaaDoor
