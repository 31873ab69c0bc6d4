/- Two sides in memory; rows of packets that grow. -/
import Derived.Test.YtagnbdenecphcaaDoorNegAw2
import Derived.Test.YtagnbdenecphcaaDoorNegP4
namespace Go.Proofs.YtagnbdenecphcaaDoor
open Go.RowKit
set_option linter.unusedVariables false
set_option linter.unusedSimpArgs false
/-- append of all of a slice, into a row that lies anywhere -/
theorem wpList_appAll {P : Program} {α : Type} {ops : Array Oper} {rest : List Oper} {o : Oper} {act : Act} {w : World} {Q : Exit → Act → World → Prop} (E : Elem P α) (hgd : o.guard = none) (s x : Operand)
    (ho : o.op = .call { callee := .builtin .append, args := #[s, x], argTypes := #[E.tS, E.tS] })
    (b : Nat) (hb : b ≤ w.heap.size) (v v2 : Value) (l l2 : List α) (hown : OwnE E w b v l) (hsrc : SeqAt E w v2 l2) (hs : act.eval s = v) (hx : act.eval x = v2)
    (hlen : (l.length + l2.length) * E.bytes ≤ 140737488355328) (hb1 : 1 ≤ E.bytes)
    (h : ∀ v' w', OwnE E w' b v' (l ++ l2) → Only (fun k => v.ownBlock = some k) w w' → (v'.ownBlock = v.ownBlock ∨ ∃ k, v'.ownBlock = some k ∧ w.heap.size ≤ k) → wpList P ops Q rest (act.put o.dst v') w') :
    wpList P ops Q (o :: rest) act w := by
  obtain ⟨i0, hi, hz0, hz1, hz2⟩ := info_of E
  rcases hsrc with ⟨rfl, rfl⟩ | ⟨g, o2, c, rfl, h1, h2, hg, hc⟩
  · exact wpList_append_own_none hgd s x _ ho b E.tE i0 E.size E.und hi v l.length (l.flatMap E.enc) hs hown hx (h v w (by rw [List.append_nil]; exact hown) (Only.refl _ _) (.inl rfl))
  · refine wpList_append_own_at _ hgd s x _ ho b E.tE i0 E.z E.size E.bytes E.und hi hz0 hz1 hz2 E.zs E.pos v l.length (l.flatMap E.enc) hs hown ⟨g, o2, none⟩ l2.length c (l2.flatMap E.enc) hx (E.length l2) ?_ (E.one' l2) ?_ hlen hb ?_
    · intro j u hu
      have hj : j < l2.length * E.size := by
        have := (List.getElem?_eq_some_iff.1 hu).1
        rw [E.length] at this; exact this
      have hdm := Nat.div_add_mod j E.size
      have hm := Nat.mod_lt j E.pos
      have hd : j / E.size < l2.length := Nat.div_lt_of_lt_mul (by rw [Nat.mul_comm]; exact hj)
      have hadd : (⟨g, o2, none⟩ : Addr).add j = ⟨g, o2 + j, none⟩ := by unfold Addr.add; split <;> simp_all
      have hjj : j = j / E.size * E.size + j % E.size := by rw [Nat.mul_comm]; omega
      have hcj := hc (j / E.size) hd (j % E.size) hm
      rw [← E.at l2 (j / E.size) hd (j % E.size) hm, ← hjj, hu, Nat.add_assoc, ← hjj] at hcj
      rw [hadd]; exact hcj
    · have := Nat.le_mul_of_pos_right (l.length + l2.length) hb1
      simp only [maxLen]; omega
    · intro v' w' hown' hg' _ hat
      refine h v' w' ?_ ?_ (hat.imp id fun e => ⟨_, e, Nat.le_refl _⟩)
      · unfold OwnE
        rw [List.flatMap_append, List.length_append]
        exact hown'
      · exact ⟨hg'.os, hg'.tape, hg'.output, hg'.size, fun k hk hn => hg'.block k hk fun e => hn e.symm⟩
/-- append of all packets of a slice -/
theorem wpList_appPs {ops : Array Oper} {rest : List Oper} {o : Oper} {act : Act} {w : World} {Q : Exit → Act → World → Prop} (hgd : o.guard = none) (s x : Operand)
    (ho : o.op = .call { callee := .builtin .append, args := #[s, x], argTypes := #[32, 32] })
    (b : Nat) (hb : b ≤ w.heap.size) (v v2 : Value) (l l2 : List PackV) (hown : OwnE packE w b v l) (hsrc : SeqAt packE w v2 l2) (hs : act.eval s = v) (hx : act.eval x = v2)
    (hlen : (l.length + l2.length) * 56 ≤ 140737488355328)
    (h : ∀ v' w', OwnE packE w' b v' (l ++ l2) → Only (fun k => v.ownBlock = some k) w w' → (v'.ownBlock = v.ownBlock ∨ ∃ k, v'.ownBlock = some k ∧ w.heap.size ≤ k) → wpList Tryd.prog ops Q rest (act.put o.dst v') w') :
    wpList Tryd.prog ops Q (o :: rest) act w :=
  wpList_appAll packE hgd s x ho b hb v v2 l l2 hown hsrc hs hx hlen (by decide) h
/-- two rows joined -/
theorem packs_join {w w' : World} {b b' : Nat} {v v2 v' : Value} {l l2 : List PackV} (h : PacksOwn w b v l) (h2 : PacksOwn w b' v2 l2) (hb : b ≤ b') (hv : OwnE packE w' b v' (l ++ l2)) (ho : Only (fun k => v.ownBlock = some k) w w') : PacksOwn w' b v' (l ++ l2) := by
  refine ⟨hv, fun y hy => ?_⟩
  rcases List.mem_append.1 hy with hy | hy
  · exact (h.2 y hy).only ho fun k hk e => own_ne opt_pack_ne (h.2 y hy) h.1 k hk e
  · exact ((h2.2 y hy).only ho fun k hk e => own_ne opt_pack_ne (h2.2 y hy) h.1 k hk e).base hb
theorem PacksOwn.base {w : World} {b b' : Nat} {v : Value} {l : List PackV} (h : PacksOwn w b v l) (hb : b' ≤ b) : PacksOwn w b' v l := ⟨h.1.base hb, fun x hx => (h.2 x hx).base hb⟩
theorem PacksOwn.below {w w' : World} {b : Nat} {v : Value} {l : List PackV} (h : PacksOwn w b v l) (hb : Below w.heap.size w w') : PacksOwn w' b v l := ⟨h.1.below hb, fun x hx => (h.2 x hx).below hb⟩
/-- another row grows: this one stays -/
theorem PacksOwn.apart {w w' : World} {b b' : Nat} {v v2 : Value} {l l2 : List PackV} (h : PacksOwn w b v l) (h2 : OwnE packE w b' v2 l2) (hne : ∀ k, v.ownBlock = some k → v2.ownBlock ≠ some k) (ho : Only (fun k => v2.ownBlock = some k) w w') : PacksOwn w' b v l :=
  ⟨h.1.only ho fun k hk e => hne k hk e, fun x hx => (h.2 x hx).only ho fun k hk e => own_ne opt_pack_ne (h.2 x hx) h2 k hk e⟩
/-- the block of o, if it has one, holds options -/
def OptBlk (w : World) (o : Value) : Prop := ∀ k, o.ownBlock = some k → ∃ cs fz, w.heap[k]? = some (.cells cs 79 fz)
theorem OptBlk.own {w : World} {b : Nat} {o : Value} {l : List OptM} (h : OwnE optE w b o l) : OptBlk w o := by
  intro k hk
  rcases h.2 with ⟨rfl, _⟩ | ⟨g, cap, cur, rfl, _, hh, _⟩
  · cases hk
  · cases hk; exact ⟨_, _, hh⟩
theorem OptBlk.only {S : Nat → Prop} {w w' : World} {o : Value} (h : OptBlk w o) (ho : Only S w w') (hn : ∀ k, o.ownBlock = some k → ¬ S k) : OptBlk w' o := by
  intro k hk
  obtain ⟨cs, fz, hh⟩ := h k hk
  exact ⟨cs, fz, ho.heap hh (hn k hk)⟩
theorem OptBlk.row {w : World} {o v : Value} {b : Nat} {l : List PackV} (h : OptBlk w o) (h2 : OwnE packE w b v l) : ∀ k, o.ownBlock = some k → v.ownBlock ≠ some k := by
  intro k hk hv
  obtain ⟨cs, fz, hh⟩ := h k hk
  rcases h2.2 with ⟨rfl, _⟩ | ⟨g, cap, cur, rfl, _, hh2, _⟩
  · cases hv
  · cases hv
    rw [hh] at hh2
    simp only [Option.some.injEq, Obj.cells.injEq] at hh2
    exact opt_pack_ne hh2.2.1
/-- two sides in memory, all blocks of theirs below B but the options they asked for -/
structure TwoAt (w : World) (B px tx py ty : Nat) (ox oy : Value) (sx sy : NegM) : Prop where
  x : Side w px tx ox sx
  y : Side w py ty oy sy
  ne : px ≠ py
  txy : tx ≠ py
  tyx : ty ≠ px
  oxp : ∀ k, ox.ownBlock = some k → k ≠ py
  oyp : ∀ k, oy.ownBlock = some k → k ≠ px
  xb : OptBlk w ox
  yb : OptBlk w oy
  pB : px < B ∧ py < B ∧ tx < B ∧ ty < B
theorem TwoAt.swap {w : World} {B px tx py ty : Nat} {ox oy : Value} {sx sy : NegM} (h : TwoAt w B px tx py ty ox oy sx sy) : TwoAt w B py ty px tx oy ox sy sx :=
  ⟨h.y, h.x, h.ne.symm, h.tyx, h.txy, h.oyp, h.oxp, h.yb, h.xb, ⟨h.pB.2.1, h.pB.1, h.pB.2.2.2, h.pB.2.2.1⟩⟩
theorem TwoAt.only {S : Nat → Prop} {w w' : World} {B px tx py ty : Nat} {ox oy : Value} {sx sy : NegM} (h : TwoAt w B px tx py ty ox oy sx sy) (ho : Only S w w') (hB : ∀ k, k < B → ¬ S k) (hx : ∀ k, ox.ownBlock = some k → ¬ S k) (hy : ∀ k, oy.ownBlock = some k → ¬ S k) : TwoAt w' B px tx py ty ox oy sx sy :=
  ⟨h.x.only ho (hB _ h.pB.1) (hB _ h.pB.2.2.1) hx, h.y.only ho (hB _ h.pB.2.1) (hB _ h.pB.2.2.2) hy, h.ne, h.txy, h.tyx, h.oxp, h.oyp, h.xb.only ho hx, h.yb.only ho hy, h.pB⟩
theorem TwoAt.below {w w' : World} {B px tx py ty : Nat} {ox oy : Value} {sx sy : NegM} (h : TwoAt w B px tx py ty ox oy sx sy) (hb : Below w.heap.size w w') : TwoAt w' B px tx py ty ox oy sx sy :=
  h.only (S := fun _ => False) (Only.ofBelow hb) (fun _ _ h => h) (fun _ _ h => h) (fun _ _ h => h)
/-- a row of packets grows: the sides stay -/
theorem TwoAt.grow {w w' : World} {B b px tx py ty : Nat} {ox oy v : Value} {sx sy : NegM} {l : List PackV} (h : TwoAt w B px tx py ty ox oy sx sy) (h2 : OwnE packE w b v l) (hb : B ≤ b) (ho : Only (fun k => v.ownBlock = some k) w w') : TwoAt w' B px tx py ty ox oy sx sy :=
  h.only ho (fun k hk e => by have := h2.block k e; omega) (fun k hk e => h.xb.row h2 k hk e) (fun k hk e => h.yb.row h2 k hk e)
/-- an act of x's -/
theorem TwoAt.act {w w' : World} {B px tx py ty : Nat} {ox oy : Value} {sx sy : NegM} {X : NegM × List PacketM × Int} {ml : Int} {e : Ending} (h : TwoAt w B px tx py ty ox oy sx sy) (hp : ActPost px tx ox sx X ml w e w') :
    ∃ v l ox', e = .returned (.tuple #[v, .int .i64 X.2.2]) ∧ PacksOwn w' w.heap.size v l ∧ l.map (·.1) = X.2.1 ∧ TwoAt w' B px tx py ty ox' oy X.1 sy ∧ Only (· = px) w w' ∧ MaxLenIs w' ml := by
  obtain ⟨v, l, o', rfl, hl, hq, hs, hk, ho, hm⟩ := hp
  have hpy := h.y.blk.lt
  refine ⟨v, l, o', rfl, hl, hq, ⟨hs, h.y.only ho (fun e => h.ne e.symm) h.tyx h.oyp, h.ne, h.txy, h.tyx, ?_, h.oyp, ?_, h.yb.only ho h.oyp, h.pB⟩, ho, hm⟩
  · rcases hk with ⟨rfl, _⟩ | hk
    · exact h.oxp
    · intro k hkk e
      have := hk.block k hkk
      omega
  · rcases hk with ⟨rfl, _⟩ | hk
    · exact h.xb.only ho h.x.op
    · exact OptBlk.own hk
/-- a table is no side -/
theorem tab_ne {w : World} {p t : Nat} {o : Value} {s : NegM} (hb : NegBlk w p t o s) {t' : Nat} (ht : TableAt w t') : t' ≠ p := by
  intro e
  subst e
  have h1 := hb.cell 0
  have h2 := ht 0 0 (by decide) (by decide)
  rw [show (0 * 10 + 0) = 0 from rfl, h1] at h2
  simp [negCells] at h2
/-- two new sides -/
theorem two_new {w1 w2 : World} {px tx py ty : Nat} {sx sy : NegM} (hx : Side w1 px tx (.slice none 0 0) sx) (hy : Side w2 py ty (.slice none 0 0) sy) (hb : Below w1.heap.size w1 w2) (hp : w1.heap.size ≤ py) : TwoAt w2 w2.heap.size px tx py ty (.slice none 0 0) (.slice none 0 0) sx sy := by
  have h1 := hx.blk.lt
  have h2 := hy.blk.lt
  have h3 := block_lt_of_cell (hx.tab 0 0 (by decide) (by decide))
  have h4 := block_lt_of_cell (hy.tab 0 0 (by decide) (by decide))
  dsimp only at h3 h4
  have h5 := hb.size
  have hx2 := hx.below hb
  exact ⟨hx2, hy, by omega, tab_ne hy.blk hx2.tab, tab_ne hx2.blk hy.tab, (fun k hk => by cases hk), (fun k hk => by cases hk), (fun k hk => by cases hk), (fun k hk => by cases hk), ⟨by omega, by omega, by omega, by omega⟩⟩
end Go.Proofs.YtagnbdenecphcaaDoor
