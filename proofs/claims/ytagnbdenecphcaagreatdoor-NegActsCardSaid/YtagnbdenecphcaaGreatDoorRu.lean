/- A side and the reference's side, side by side; the acts of a script in memory. -/
import Derived.Test.YtagnbdenecphcaaGreatDoorRr
import Derived.Test.YtagnbdenecphcaaGreatDoorRt
namespace Go.Proofs.YtagnbdenecphcaaGreatDoor
open Go.RowKit
set_option linter.unusedVariables false
set_option linter.unusedSimpArgs false
structure Both (w : World) (p t : Nat) (o : Value) (q : Nat) (a : Value) (s : NegM) : Prop where
  sd : Side w p t o s
  rs : RSide w q a s
  pq : p ≠ q
  tq : t ≠ q
  oq : ∀ k, o.ownBlock = some k → k ≠ q
  ap : ∀ k, a.ownBlock = some k → k ≠ p
theorem Side.tlt {w : World} {p t : Nat} {o : Value} {s : NegM} (h : Side w p t o s) : t < w.heap.size := block_lt_of_cell (h.tab 0 0 (by decide) (by decide))
theorem Both.below {w w' : World} {p t : Nat} {o : Value} {q : Nat} {a : Value} {s : NegM} (h : Both w p t o q a s) (hb : Below w.heap.size w w') : Both w' p t o q a s :=
  ⟨h.sd.below hb, h.rs.below hb, h.pq, h.tq, h.oq, h.ap⟩
theorem PacksOwn.base {w : World} {b b' : Nat} {v : Value} {l : List PackV} (h : PacksOwn w b v l) (hb : b' ≤ b) : PacksOwn w b' v l := ⟨h.1.base hb, fun x hx => (h.2 x hx).base hb⟩
theorem PacksOwn.below {w w' : World} {b : Nat} {v : Value} {l : List PackV} (h : PacksOwn w b v l) (hb : Below w.heap.size w w') : PacksOwn w' b v l := ⟨h.1.below hb, fun x hx => (h.2 x hx).below hb⟩
/-- behind the program's act, ahead of the reference's -/
theorem Both.rside {w w1 : World} {p t : Nat} {o : Value} {q : Nat} {a : Value} {s : NegM} (h : Both w p t o q a s) (ho : Only (· = p) w w1) : RSide w1 q a s :=
  h.rs.only ho (fun e => h.pq e.symm) h.ap
/-- behind both acts -/
theorem Both.acted {w w1 w2 : World} {p t : Nat} {o o' : Value} {q : Nat} {a a' : Value} {s X : NegM} {v : Value} {l : List PackV} (h : Both w p t o q a s)
    (hs1 : Side w1 p t o' X) (hk1 : OsKept w1 w.heap.size o o' s X) (hl1 : PacksOwn w1 w.heap.size v l) (h01 : Only (· = p) w w1)
    (hr2 : RSide w2 q a' X) (hk2 : OsKept w2 w1.heap.size a a' s X) (h12 : Only (· = q) w1 w2) :
    Both w2 p t o' q a' X ∧ PacksOwn w2 w.heap.size v l := by
  have hql := h.rs.blk.lt
  have hpl := h.sd.blk.lt
  have hoq : ∀ k, o'.ownBlock = some k → k ≠ q := by
    rcases hk1 with ⟨rfl, _⟩ | hk
    · exact h.oq
    · intro k e e2
      have := hk.block k e
      omega
  have hap : ∀ k, a'.ownBlock = some k → k ≠ p := by
    rcases hk2 with ⟨rfl, _⟩ | hk
    · exact h.ap
    · intro k e e2
      have := hk.block k e
      have := h01.size
      omega
  exact ⟨⟨hs1.only h12 h.pq h.tq (fun k e => hoq k e), hr2, h.pq, h.tq, hoq, hap⟩, hl1.only h12 hql⟩
/-- the packets written over -/
theorem Both.spoilt {w w1 w2 w3 w4 : World} {p t : Nat} {o o' : Value} {q : Nat} {a a' : Value} {s X : NegM} {v : Value} {l : List PackV} (h : Both w p t o q a s) (hl1 : PacksOwn w1 w.heap.size v l) (hk1 : OsKept w1 w.heap.size o o' s X) (hps : PSep o' l)
    (hk2 : OsKept w2 w1.heap.size a a' s X) (h01 : Only (· = p) w w1) (h3 : Both w3 p t o' q a' X) (ho : Only (fun k => v.ownBlock = some k ∨ ∃ x ∈ l, (slOf x).ownBlock = some k) w3 w4) :
    Both w4 p t o' q a' X ∧ (∀ k, (v.ownBlock = some k ∨ ∃ x ∈ l, (slOf x).ownBlock = some k) → w.heap.size ≤ k) := by
  have hS : ∀ k, (v.ownBlock = some k ∨ ∃ x ∈ l, (slOf x).ownBlock = some k) → w.heap.size ≤ k ∧ k < w1.heap.size := by
    rintro k (e | ⟨x, hx, e⟩)
    · exact ⟨hl1.1.block k e, hl1.1.lt k e⟩
    · exact ⟨(hl1.2 x hx).block k e, (hl1.2 x hx).lt k e⟩
  have hql := h.rs.blk.lt
  have hpl := h.sd.blk.lt
  have htl := h.sd.tlt
  have hol : ∀ k, o.ownBlock = some k → k < w.heap.size := SeqAt.lt h.sd.os
  have hal : ∀ k, a.ownBlock = some k → k < w.heap.size := SeqAt.lt h.rs.os
  have ho' : ∀ k, o'.ownBlock = some k → ¬ (v.ownBlock = some k ∨ ∃ x ∈ l, (slOf x).ownBlock = some k) := by
    rintro k e (e2 | ⟨x, hx, e2⟩)
    · rcases hk1 with ⟨rfl, _⟩ | hk
      · have := hol k e; have := hl1.1.block k e2; omega
      · exact own_ne opt_pack_ne hk hl1.1 k e e2
    · exact hps x hx k e2 e
  have ha' : ∀ k, a'.ownBlock = some k → ¬ (v.ownBlock = some k ∨ ∃ x ∈ l, (slOf x).ownBlock = some k) := by
    intro k e e2
    have := hS k e2
    rcases hk2 with ⟨rfl, _⟩ | hk
    · have := hal k e; omega
    · have := hk.block k e; omega
  exact ⟨⟨h3.sd.only ho (fun e => by have := hS p e; omega) (fun e => by have := hS t e; omega) ho', h3.rs.only ho (fun e => by have := hS q e; omega) ha', h3.pq, h3.tq, h3.oq, h3.ap⟩, fun k hk => (hS k hk).1⟩
/-- an act of a script: its kind, its number, its packet -/
abbrev ActV := Int × Int × PackV
def actCells (x : ActV) : List Value := [.int .i64 x.1, .int .i64 x.2.1, .int .i64 x.2.2.1.code, .int .i64 x.2.2.1.id, slOf x.2.2, .string x.2.2.1.data]
/-- a slice of acts that reads as l -/
structure ActsAt (w : World) (v : Value) (l : List ActV) : Prop where
  form : ∃ a c, v = .slice a l.length c ∧ l.length ≤ c ∧ c ≤ maxLen
  cell : ∀ j (h : j < l.length), ∃ g o c, v = .slice (some ⟨g, o, none⟩) l.length c ∧ g < w.heap.size ∧ w.cell? ⟨g, o + j * 6, none⟩ = some (.int .i64 l[j].1) ∧ w.cell? ⟨g, o + j * 6 + 1, none⟩ = some (.int .i64 l[j].2.1) ∧ w.cell? ⟨g, o + j * 6 + 2, none⟩ = some (.int .i64 l[j].2.2.1.code) ∧ w.cell? ⟨g, o + j * 6 + 3, none⟩ = some (.int .i64 l[j].2.2.1.id) ∧ w.cell? ⟨g, o + j * 6 + 4, none⟩ = some (slOf l[j].2.2) ∧ w.cell? ⟨g, o + j * 6 + 5, none⟩ = some (.string l[j].2.2.1.data)
  opts : ∀ x ∈ l, OptsIn w (slOf x.2.2) x.2.2.1.opts
  data : ∀ x ∈ l, x.2.2.1.data.size ≤ 140737488351232
  texts : ∀ x ∈ l, ∀ o ∈ x.2.2.1.opts, o.2.size ≤ 140737488351232
  room : ∀ x ∈ l, (x.2.2.1.opts.length + 2) * 24 ≤ 140737488355328
end Go.Proofs.YtagnbdenecphcaaGreatDoor
