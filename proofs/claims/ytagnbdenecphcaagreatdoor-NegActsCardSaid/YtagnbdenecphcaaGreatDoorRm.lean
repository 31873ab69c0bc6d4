/- The reference: run, what it leaves behind. -/
import Derived.Test.YtagnbdenecphcaaGreatDoorRl
import Derived.Test.YtagnbdenecphcaaGreatDoorRh
import Derived.Test.YtagnbdenecphcaaGreatDoorRj
import Derived.Test.YtagnbdenecphcaaGreatDoorRe
import Derived.Test.YtagnbdenecphcaaGreatDoorRb
import Derived.Test.YtagnbdenecphcaaGreatDoorMo
import Derived.Test.YtagnbdenecphcaaGreatDoorMp
import Derived.Test.YtagnbdenecphcaaGreatDoorSameIn
import Derived.Test.YtagnbdenecphcaaGreatDoorMq
namespace Go.Proofs.YtagnbdenecphcaaGreatDoor
open Go.RowKit
set_option linter.unusedVariables false
set_option linter.unusedSimpArgs false
/-- a packet's options: they lie in old memory, or in a row of their own -/
def OptsKept (w : World) (b p : Nat) (v : Value) (os : List OptM) : Prop := (OptsIn w v os ∧ (os ≠ [] → ∀ k, v.ownBlock = some k → k < b ∧ k ≠ p)) ∨ OwnE optE w b v os
theorem OptsKept.at {w : World} {b p : Nat} {v : Value} {os : List OptM} (h : OptsKept w b p v os) : OptsIn w v os := by
  rcases h with h | h
  · exact h.1
  · exact .inl h.at
theorem OptsKept.only {w w' : World} {b p : Nat} {v : Value} {os : List OptM} (h : OptsKept w b p v os) (ho : Only (· = p) w w') (hp : p < b) : OptsKept w' b p v os := by
  rcases h with ⟨h, hk⟩ | h
  · exact .inl ⟨h.only ho (fun hne k e => (hk hne k e).2), hk⟩
  · exact .inr (h.strip ho hp)
theorem OptsKept.apart {w w' : World} {b p : Nat} {v v2 : Value} {os : List OptM} {l : List PackV} (h : OptsKept w b p v os) (hv : OwnE packE w b v2 l) (ho : Only (fun k => v2.ownBlock = some k) w w') : OptsKept w' b p v os := by
  rcases h with ⟨h, hk⟩ | h
  · exact .inl ⟨h.only ho (fun hne k e e2 => by have := (hk hne k e).1; have := hv.block k e2; omega), hk⟩
  · exact .inr (h.only ho (fun k e e2 => own_ne opt_pack_ne h hv k e e2))
def RPacks (w : World) (b p : Nat) (v : Value) (l : List PackV) : Prop := OwnE packE w b v l ∧ ∀ x ∈ l, OptsKept w b p (slOf x) x.1.opts
theorem RPacks.at {w : World} {b p : Nat} {v : Value} {l : List PackV} (h : RPacks w b p v l) : PacksIn w v l := ⟨h.1.at, fun x hx => (h.2 x hx).at⟩
theorem RPacks.only {w w' : World} {b p : Nat} {v : Value} {l : List PackV} (h : RPacks w b p v l) (ho : Only (· = p) w w') (hp : p < b) : RPacks w' b p v l :=
  ⟨h.1.strip ho hp, fun x hx => (h.2 x hx).only ho hp⟩
theorem RPacks.more {w w' : World} {b p : Nat} {v v' : Value} {l : List PackV} {x : PackV} (h : RPacks w b p v l) (hx : OptsKept w b p (slOf x) x.1.opts) (hv : OwnE packE w' b v' (l ++ [x])) (ho : Only (fun k => v.ownBlock = some k) w w') : RPacks w' b p v' (l ++ [x]) := by
  refine ⟨hv, fun y hy => ?_⟩
  rcases List.mem_append.1 hy with hy | hy
  · exact (h.2 y hy).apart h.1 ho
  · obtain rfl := List.mem_singleton.1 hy
    exact hx.apart h.1 ho
theorem actM_state (x : Int) (r : ReplyM) (s : NegM) (out : List PacketM) (act : Int) : actM r ({ s with state := x }, out) act = ({ (actM r (s, out) act).1 with state := x }, (actM r (s, out) act).2) := by
  unfold actM setLeft sendM
  dsimp only
  by_cases h5 : act = 5
  · subst h5; rfl
  by_cases h6 : act = 6
  · subst h6; rfl
  simp only [if_neg h5, if_neg h6]
  by_cases h7 : act = 7
  · subst h7; rfl
  by_cases h10 : act = 10
  · subst h10; rfl
  by_cases h8 : act = 8
  · subst h8; rfl
  by_cases h9 : act = 9
  · subst h9; rfl
  by_cases h11 : act = 11
  · subst h11; rfl
  by_cases h12 : act = 12
  · subst h12; rfl
  by_cases h13 : act = 13
  · subst h13; rfl
  simp only [if_neg h7, if_neg h10, if_neg h8, if_neg h9, if_neg h11, if_neg h12, if_neg h13]
theorem acts_state (x : Int) (r : ReplyM) (acts : List Int) : ∀ (s : NegM) (out : List PacketM), acts.foldl (actM r) ({ s with state := x }, out) = ({ (acts.foldl (actM r) (s, out)).1 with state := x }, (acts.foldl (actM r) (s, out)).2) := by
  induction acts with
  | nil => intro s out; rfl
  | cons a acts ih =>
    intro s out
    rw [List.foldl_cons, List.foldl_cons, actM_state, ih]
def RRunPost (p : Nat) (av : Value) (s : NegM) (X : NegM × List PacketM × Int) (w : World) (e : Ending) (w' : World) : Prop :=
  ∃ v l av', e = .returned (.tuple #[v, .int .i64 X.2.2]) ∧ PacksIn w' v l ∧ l.map (·.1) = X.2.1 ∧ RNegAt w' p av' X.1 ∧ OsKept w' w.heap.size av av' s X.1 ∧ Only (· = p) w w'
theorem packet_cell {w : World} {q : Nat} {k : PacketM} {v : Value} (h : w.heap[q]? = some (.cells (packCells k v) 36 (0, 0))) :
    w.cell? ⟨q, 0, none⟩ = some (.int .i64 k.code) ∧ w.cell? ⟨q, 1, none⟩ = some (.int .i64 k.id) ∧ w.cell? ⟨q, 2, none⟩ = some v ∧ w.cell? ⟨q, 3, none⟩ = some (.string k.data) := packet_cells h
theorem RNegAt.owns {w : World} {p : Nat} {av : Value} {s : NegM} (h : RNegAt w p av s) :
    w.cell? ⟨p, 1, none⟩ = some (.int .i64 s.own.mru) ∧ w.cell? ⟨p, 1 + 1, none⟩ = some (.int .i64 s.own.magic) ∧ w.cell? ⟨p, 1 + 2, none⟩ = some (.int .i64 s.own.mrru) ∧ w.cell? ⟨p, 1 + 3, none⟩ = some (.bool s.own.short) ∧ w.cell? ⟨p, 1 + 4, none⟩ = some (.string s.own.disc) ∧ w.cell? ⟨p, 1 + 5, none⟩ = some (.int .i64 s.own.num) :=
  ⟨h.cell 1, h.cell 2, h.cell 3, h.cell 4, h.cell 5, h.cell 6⟩
theorem RNegAt.others {w : World} {p : Nat} {av : Value} {s : NegM} (h : RNegAt w p av s) :
    w.cell? ⟨p, 7, none⟩ = some (.int .i64 s.other.mru) ∧ w.cell? ⟨p, 7 + 1, none⟩ = some (.int .i64 s.other.magic) ∧ w.cell? ⟨p, 7 + 2, none⟩ = some (.int .i64 s.other.mrru) ∧ w.cell? ⟨p, 7 + 3, none⟩ = some (.bool s.other.short) ∧ w.cell? ⟨p, 7 + 4, none⟩ = some (.string s.other.disc) ∧ w.cell? ⟨p, 7 + 5, none⟩ = some (.int .i64 s.other.num) :=
  ⟨h.cell 7, h.cell 8, h.cell 9, h.cell 10, h.cell 11, h.cell 12⟩
theorem RNegAt.rest {w : World} {p : Nat} {av : Value} {s : NegM} (h : RNegAt w p av s) :
    w.cell? ⟨p, 0, none⟩ = some (.int .i64 s.state) ∧ w.cell? ⟨p, 13, none⟩ = some (.int .i64 s.left) ∧ w.cell? ⟨p, 14, none⟩ = some (.int .i64 s.tries) ∧ w.cell? ⟨p, 15, none⟩ = some (.int .i64 s.id) ∧ w.cell? ⟨p, 16, none⟩ = some (.int .i64 s.asked) ∧ w.cell? ⟨p, 17, none⟩ = some av :=
  ⟨h.cell 0, h.cell 13, h.cell 14, h.cell 15, h.cell 16, h.cell 17⟩
theorem rsetLink_other {w : World} {p : Nat} {o : Value} {s : NegM} (h : RNegAt w p o s) (l : LinkM) : RNegAt (setLink w p 7 l) p o { s with other := l } := by
  have h1 := h.set 7 (.int .i64 l.mru) o { s with other := { s.other with mru := l.mru } } rfl
  have h2 := h1.set 8 (.int .i64 l.magic) o { s with other := { s.other with mru := l.mru, magic := l.magic } } rfl
  have h3 := h2.set 9 (.int .i64 l.mrru) o { s with other := { s.other with mru := l.mru, magic := l.magic, mrru := l.mrru } } rfl
  have h4 := h3.set 10 (.bool l.short) o { s with other := { s.other with mru := l.mru, magic := l.magic, mrru := l.mrru, short := l.short } } rfl
  have h5 := h4.set 11 (.string l.disc) o { s with other := { s.other with mru := l.mru, magic := l.magic, mrru := l.mrru, short := l.short, disc := l.disc } } rfl
  exact h5.set 12 (.int .i64 l.num) o { s with other := l } rfl
theorem rsetLink_own {w : World} {p : Nat} {o : Value} {s : NegM} (h : RNegAt w p o s) (l : LinkM) : RNegAt (setLink w p 1 l) p o { s with own := l } := by
  have h1 := h.set 1 (.int .i64 l.mru) o { s with own := { s.own with mru := l.mru } } rfl
  have h2 := h1.set 2 (.int .i64 l.magic) o { s with own := { s.own with mru := l.mru, magic := l.magic } } rfl
  have h3 := h2.set 3 (.int .i64 l.mrru) o { s with own := { s.own with mru := l.mru, magic := l.magic, mrru := l.mrru } } rfl
  have h4 := h3.set 4 (.bool l.short) o { s with own := { s.own with mru := l.mru, magic := l.magic, mrru := l.mrru, short := l.short } } rfl
  have h5 := h4.set 5 (.string l.disc) o { s with own := { s.own with mru := l.mru, magic := l.magic, mrru := l.mrru, short := l.short, disc := l.disc } } rfl
  exact h5.set 6 (.int .i64 l.num) o { s with own := l } rfl
end Go.Proofs.YtagnbdenecphcaaGreatDoor
