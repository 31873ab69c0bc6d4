/- What packages policy, opts, control, neg answer: plain functions, no program in sight. Regions that draw: one order for all. What reads goes first; S holds behind each operation that writes. Regions that draw whose last writing operation L writes what the others read: S need not hold behind L. -/
import Derived.Test.YtagnbdenecphcaaDoorMa
import Derived.OrdersHeld
import Derived.RegionTactic
import Derived.StillTail
/-! What packages policy, opts, control, neg answer: plain functions, no program in sight. -/
namespace Go.Proofs.YtagnbdenecphcaaDoor
open Go.RowKit
/-- an option: its kind, its data -/
abbrev OptM := Int × ByteArray
structure LinkM where
  mru : Int
  magic : Int
  mrru : Int
  short : Bool
  disc : ByteArray
  num : Int
structure PacketM where
  code : Int
  id : Int
  opts : List OptM
  data : ByteArray
def linkZ : LinkM := ⟨0, 0, 0, false, ⟨#[]⟩, 0⟩
def unitM (x : Int) : Bool := decide (128 ≤ x) && decide (x ≤ 1500)
def mayM (l : LinkM) : Bool :=
  (decide (l.mru = 0) || unitM l.mru) && (decide (l.mrru = 0) || unitM l.mrru) && decide (0 ≤ l.magic) && decide (l.magic ≤ 4294967295) && decide (l.disc.size ≤ 20) && decide (0 ≤ l.num) && decide (l.num ≤ 65535)
def numB (x : Int) (n : Nat) : List UInt8 := (List.range n).map fun i => UInt8.ofNat ((x / (256 ^ (n - 1 - i) : Nat)) % 256).toNat
def valueStep (x : Int) (b : UInt8) : Int := bits .or .i64 (wrap64 (x * 256)) (b.toNat : Int)
def valueM (s : List UInt8) : Int := s.foldl valueStep 0
def sizeM (k : Int) : Int := if k = 1 ∨ k = 17 ∨ k = 23 then 2 else if k = 5 then 4 else if k = 18 then 0 else if k = 19 then -1 else -2
def rightM (o : OptM) : Bool := decide (sizeM o.1 = (o.2.size : Int)) || (decide (sizeM o.1 = -1) && decide (1 ≤ o.2.size) && decide (o.2.size ≤ 20))
def fieldM (l : LinkM) (k : Int) : Option Int := if k = 1 then some l.mru else if k = 5 then some l.magic else if k = 17 then some l.mrru else if k = 23 then some l.num else none
def asksM (l : LinkM) (k : Int) : Bool := if k = 18 then l.short else if k = 19 then decide (l.disc.data.toList ≠ []) else match fieldM l k with | some x => decide (x ≠ 0) | none => false
def putF (l : LinkM) (k x : Int) : LinkM := if k = 1 then { l with mru := x } else if k = 5 then { l with magic := x } else if k = 17 then { l with mrru := x } else { l with num := x }
def setM (l : LinkM) (o : OptM) : LinkM := if o.1 = 18 then { l with short := true } else if o.1 = 19 then { l with disc := o.2 } else putF l o.1 (valueM o.2.data.toList)
def clearM (l : LinkM) (k : Int) : LinkM := if k = 18 then { l with short := false } else if k = 19 then { l with disc := ⟨#[]⟩ } else putF l k 0
def kindsM : List Int := [1, 5, 17, 18, 19, 23]
def optOf (l : LinkM) (k : Int) : OptM := (k, match fieldM l k with | some x => bytesOf (numB x (sizeM k).toNat) | none => if k = 19 then l.disc else ⟨#[]⟩)
def askM (l : LinkM) : List OptM := (kindsM.filter (asksM l)).map (optOf l)
def betterM (own : LinkM) (o : OptM) : Option OptM :=
  if o.1 = 1 ∨ o.1 = 17 then (if unitM (valueM o.2.data.toList) then none else some (o.1, bytesOf (numB 1500 2)))
  else if o.1 = 5 then (if valueM o.2.data.toList = 0 ∨ valueM o.2.data.toList = own.magic then some (5, bytesOf (numB (max 1 (bits .xor .i64 own.magic 4294967295)) 4)) else none)
  else none
def fitM (o : OptM) : Bool := decide (0 ≤ o.1) && decide (o.1 ≤ 255) && decide (o.2.size ≤ 253)
def badM (own : LinkM) (pre : List OptM) (o : OptM) : Bool := !rightM o || (decide (o.1 = 18) && !own.short) || pre.any fun q => decide (q.1 = o.1)
def badsTo (own : LinkM) (os : List OptM) (k : Nat) : List OptM := (List.range k).filterMap fun i => match os[i]? with | some o => if badM own (os.take i) o then some o else none | none => none
def bettersTo (own : LinkM) (os : List OptM) (k : Nat) : List OptM := (List.range k).filterMap fun i => match os[i]? with | some o => if badM own (os.take i) o then none else betterM own o | none => none
def judgeM (own : LinkM) (os : List OptM) : Int × List OptM × Int :=
  if mayM own = false ∨ os.any (fun o => !fitM o) = true then (0, [], 1400)
  else if badsTo own os os.length ≠ [] then (2, badsTo own os os.length, 0)
  else if bettersTo own os os.length ≠ [] then (1, bettersTo own os os.length, 0)
  else (0, os, 0)
def learnOne (l : LinkM) (o : OptM) : LinkM :=
  if ((o.1 = 1 ∨ o.1 = 17) ∧ unitM (valueM o.2.data.toList) = false) ∨ (o.1 = 5 ∧ valueM o.2.data.toList = 0) then l else setM l o
def learnStep (code : Int) (l : LinkM) (o : OptM) : LinkM := if rightM o = false ∨ asksM l o.1 = false then l else if code = 4 then clearM l o.1 else learnOne l o
def learnM (l : LinkM) (code : Int) (os : List OptM) : LinkM × Int := if mayM l = false ∨ (code ≠ 3 ∧ code ≠ 4) then (linkZ, 1400) else (os.foldl (learnStep code) l, 0)
def takenBad (os : List OptM) (k : Nat) : Bool := (List.range k).any fun i => match os[i]? with | some o => !rightM o || (os.take i).any fun q => decide (q.1 = o.1) | none => false
def takenM (os : List OptM) : LinkM × Int := if takenBad os os.length = true ∨ mayM (os.foldl setM linkZ) = false then (linkZ, 1400) else (os.foldl setM linkZ, 0)
/-! ### options and packets as bytes -/
def optB (o : OptM) : List UInt8 := UInt8.ofNat o.1.toNat :: UInt8.ofNat (2 + o.2.size) :: o.2.data.toList
def optsTo (os : List OptM) (k : Nat) : List UInt8 := (os.take k).flatMap optB
def optLong (os : List OptM) (k : Nat) : Bool := match os[k]? with | some o => decide (253 < o.2.size) || decide (2048 < (optsTo os k).length + 2 + o.2.size) | none => false
def optsM (os : List OptM) : List UInt8 × Int :=
  if os.any (fun o => decide (o.1 < 0) || decide (255 < o.1)) = true then ([], 400)
  else if (List.range os.length).any (optLong os) = true then ([], 401) else (optsTo os os.length, 0)
def confM (c : Int) : Bool := decide (1 ≤ c) && decide (c ≤ 4)
def octetM (c : Int) : Bool := decide (0 ≤ c) && decide (c ≤ 255)
def controlM (p : PacketM) : List UInt8 × Int :=
  if octetM p.code = false ∨ octetM p.id = false then ([], 501)
  else if (optsM p.opts).2 ≠ 0 ∨ (confM p.code = false ∧ p.opts ≠ []) ∨ (confM p.code = true ∧ p.data.data.toList ≠ []) then ([], 502)
  else if 2048 < 4 + ((optsM p.opts).1.length + p.data.size) then ([], 503)
  else ([UInt8.ofNat p.code.toNat, UInt8.ofNat p.id.toNat, UInt8.ofNat ((4 + ((optsM p.opts).1.length + p.data.size)) / 256), UInt8.ofNat ((4 + ((optsM p.opts).1.length + p.data.size)) % 256)] ++ ((optsM p.opts).1 ++ p.data.data.toList), 0)
/-! ### a side that negotiates -/
structure NegM where
  state : Int
  left : Int
  tries : Int
  own : LinkM
  other : LinkM
  id : Int
  asked : Int
  os : List OptM
/-- what an event is answered by: the packet that came, the event, the verdict, the options -/
structure ReplyM where
  p : PacketM
  event : Int
  verdict : Int
  os : List OptM
def packetZ : PacketM := ⟨0, 0, [], ⟨#[]⟩⟩
def replyZ : ReplyM := ⟨packetZ, 0, 0, []⟩
def newM (l : LinkM) (tries : Int) : NegM := ⟨0, 0, tries, l, linkZ, 0, -1, []⟩
def newOk (l : LinkM) (tries : Int) : Bool := mayM l && decide (1 ≤ tries) && decide (tries ≤ 10)
def nextM (s : NegM) : NegM := { s with id := (s.id + 1) % 256 }
def countM (s : NegM) : NegM := { s with left := max 0 (s.left - 1) }
def reqM (s : NegM) : NegM := { nextM (countM s) with asked := (s.id + 1) % 256, os := askM s.own }
def sendM (s : NegM) (act : Int) (r : ReplyM) : NegM × Option PacketM :=
  if act = 7 then (reqM s, some ⟨1, (s.id + 1) % 256, askM s.own, ⟨#[]⟩⟩)
  else if act = 10 then (nextM (countM s), some ⟨5, (s.id + 1) % 256, [], ⟨#[]⟩⟩)
  else if act = 8 then ({ s with other := (takenM r.os).1 }, some ⟨2, r.p.id, r.os, ⟨#[]⟩⟩)
  else if act = 9 then (s, some ⟨if r.verdict = 2 then 4 else 3, r.p.id, r.os, ⟨#[]⟩⟩)
  else if act = 11 then (s, some ⟨6, if r.event = 10 then r.p.id else 0, [], ⟨#[]⟩⟩)
  else if act = 12 then (nextM s, some ⟨7, (s.id + 1) % 256, [], bytesOf ((controlM r.p).1.take 64)⟩)
  else if act = 13 then (s, if r.p.code = 9 then some ⟨10, r.p.id, [], r.p.data⟩ else none)
  else (s, none)
def setLeft (s : NegM) (act : Int) : NegM := if act = 5 then { s with left := s.tries } else if act = 6 then { s with left := 0 } else s
def actM (r : ReplyM) (x : NegM × List PacketM) (act : Int) : NegM × List PacketM :=
  ((sendM (setLeft x.1 act) act r).1, x.2 ++ (sendM (setLeft x.1 act) act r).2.toList)
def actsM (s : NegM) (r : ReplyM) (acts : List Int) : NegM × List PacketM := acts.foldl (actM r) (s, [])
def runM (s : NegM) (event : Int) (r : ReplyM) : NegM × List PacketM × Int :=
  if (stepSays s.state event).2.2 ≠ 0 then (s, [], 1501)
  else ((actsM { s with state := (stepSays s.state event).1 } { r with event := event } (stepSays s.state event).2.1).1, (actsM { s with state := (stepSays s.state event).1 } { r with event := event } (stepSays s.state event).2.1).2, 0)
def doM (s : NegM) (event : Int) : NegM × List PacketM × Int :=
  if event = 0 ∨ event = 1 ∨ event = 2 ∨ event = 3 then runM s event replyZ
  else if event = 4 then runM s (if s.left = 0 then 5 else 4) replyZ
  else (s, [], 1500)
/-- the event of a packet: the state behind it, the reply, the event; none: nothing is done -/
def eventM (s : NegM) (p : PacketM) : NegM × ReplyM × Option Int :=
  if p.code = 1 then (s, ⟨p, 0, (judgeM s.own p.opts).1, (judgeM s.own p.opts).2.1⟩, some (if (judgeM s.own p.opts).1 = 0 then 6 else 7))
  else if p.code = 2 then (s, ⟨p, 0, 0, []⟩, if p.id = s.asked ∧ p.opts = s.os then some 8 else none)
  else if p.code = 3 ∨ p.code = 4 then (if p.id = s.asked then ({ s with own := (learnM s.own p.code p.opts).1 }, ⟨p, 0, 0, []⟩, some 9) else (s, ⟨p, 0, 0, []⟩, none))
  else (s, ⟨p, 0, 0, []⟩, some (if p.code = 5 then 10 else if p.code = 6 then 11 else if p.code = 7 ∨ p.code = 8 then 13 else if p.code = 9 ∨ p.code = 10 ∨ p.code = 11 then 15 else 12))
def takeM (s : NegM) (p : PacketM) : NegM × List PacketM × Int :=
  if (controlM p).2 ≠ 0 then (s, [], 1500)
  else if s.state = 0 ∨ s.state = 1 then (s, [], 1501)
  else match (eventM s p).2.2 with
    | none => ((eventM s p).1, [], 0)
    | some e => runM (eventM s p).1 e (eventM s p).2.1
end Go.Proofs.YtagnbdenecphcaaDoor
/-! Regions that draw: one order for all. What reads goes first; S holds behind each operation that writes. -/
namespace Go.Proofs.YtagnbdenecphcaaDoor
open Go.RowKit
section
variable {P : Program} {ops : Array Oper} {Q : Exit → Act → World → Prop} {S : World → Prop}
/-- a store into another block -/
theorem cell_far (w : World) (p a : Addr) (v : Value) (h : p.block ≠ a.block) : (w.setCell p v).cell? a = w.cell? a :=
  World.cell?_setCell_other w p a v (fun e => h (by rw [e]))
/-- Q behind an exit; K behind the normal end -/
def QRun (Q : Exit → Act → World → Prop) (K : Act → World → Prop) : Exit → Act → World → Prop
  | .normal, a, w => K a w
  | e, a, w => Q e a w
theorem wpOp_of_list {i : Nat} {o : Oper} {K : Act → World → Prop} {a : Act} {w : World} (ho : ops[i]? = some o) (h : wpList P ops (QRun Q K) [o] a w) : wpOp P ops Q i K a w := by
  unfold wpOp
  rw [ho]
  simp only [wpList] at h
  show if _ then _ else _
  split
  · rename_i hw
    rw [if_pos hw] at h
    rcases h with h | ⟨h1, h2⟩
    · refine .inl ?_
      unfold Oper.wp at *
      generalize (execOp a.eval o).run P w = r at *
      cases r with
      | ok n w' =>
        cases n <;> simp only [Oper.upon] at h ⊢
        all_goals first
          | exact h
          | (refine h.mono ?_
             intro e w'' he
             cases e <;> first | exact he | (exact fun hx => he hx))
      | halt x w' => cases x <;> first | exact h | exact h.elim
    · exact .inr ⟨h1, h2⟩
  · rename_i hw
    rw [if_neg hw] at h
    exact h
/-- is a schedule one that every order may be turned into? true: a read, taken first; false: all that may come up -/
def schedB (md : Region.Mode) (ops : Array Oper) : List (Nat × Bool) → Array Bool → Bool
  | [], listed => (Region.ready md ops listed).isEmpty
  | (i, true) :: r, listed => Region.free md ops listed i && (Region.ready md ops listed).contains i && schedB md ops r (listed.setIfInBounds i true)
  | (i, false) :: r, listed => (Region.ready md ops listed == [i]) && schedB md ops r (listed.setIfInBounds i true)
def wpSched (P : Program) (ops : Array Oper) (S : World → Prop) (Q : Exit → Act → World → Prop) : List (Nat × Bool) → Act → World → Prop
  | [], a, w => Q .normal a w
  | (i, true) :: r, a, w => ∃ o v, ops[i]? = some o ∧ YieldsIf P ops S o v a ∧ wpSched P ops S Q r (a.put o.dst v) w
  | (i, false) :: r, a, w => wpOp P ops Q i (fun a' w' => S w' ∧ wpSched P ops S Q r a' w') a w
theorem sched_held (hs : Region.noSelect ops = true) (hQ : ∀ c d v a w, Q (.panic c) (Act.put a d v) w → Q (.panic c) a w) : ∀ (l : List (Nat × Bool)) (listed : Array Bool) (a : Act) (w : World),
    schedB .any ops l listed = true → S w → wpSched P ops S Q l a w → wpAnyH P .any ops Q S l.length listed a w
  | [], listed, a, w, hB, _, h => ⟨by simpa [schedB] using hB, h⟩
  | (i, true) :: r, listed, a, w, hB, hS, ⟨o, v, ho, hy, h⟩ => by
    simp only [schedB, Bool.and_eq_true] at hB
    obtain ⟨⟨h1, h2⟩, h3⟩ := hB
    exact wpAnyH_take ho hs h1 h2 (fun c a w => hQ c _ _ a w) hy hS (sched_held hs hQ r _ _ w h3 hS h)
  | (i, false) :: r, listed, a, w, hB, hS, h => by
    simp only [schedB, Bool.and_eq_true, beq_iff_eq] at hB
    obtain ⟨h1, h2⟩ := hB
    refine wpAnyH_all h1 (by simp) fun j hj => ?_
    rw [List.mem_singleton] at hj
    subst hj
    exact wpOp_mono (fun a' w' ⟨k1, k2⟩ => ⟨k1, sched_held hs hQ r _ a' w' h2 k1 k2⟩) h
theorem wp_sched {id : Nat} {a : Act} {w : World} {l : List Oper} (S : World → Prop) (sc : List (Nat × Bool)) (hm : P.follows .mixedOrders = true) (hs : Region.noSelect l.toArray = true) (hn : sc.length = l.toArray.size)
    (hB : schedB .any l.toArray sc (Array.replicate l.toArray.size false) = true) (hS : S w.drew) (hQ : ∀ c d v a w, Q (.panic c) (Act.put a d v) w → Q (.panic c) a w)
    (h : wpSched P l.toArray S Q sc a w.drew) : (Code.region id l.toArray true).wp P Q a w := by
  refine wp_region_held (S := S) hm ?_
  rw [← hn]
  have := sched_held (P := P) hs hQ sc (Array.replicate l.toArray.size false) a w.drew hB hS h
  rw [← hn] at this
  exact this
/-- the operations of a schedule, in its row -/
def schedOps (ops : Array Oper) (sc : List (Nat × Bool)) : List (Oper × Bool) := sc.filterMap fun x => (ops[x.1]?).map fun o => (o, x.2)
def wpSchedL (P : Program) (ops : Array Oper) (S : World → Prop) (Q : Exit → Act → World → Prop) : List (Oper × Bool) → Act → World → Prop
  | [], a, w => Q .normal a w
  | (o, true) :: r, a, w => ∃ v, YieldsIf P ops S o v a ∧ wpSchedL P ops S Q r (a.put o.dst v) w
  | (o, false) :: r, a, w => ∀ K : Act → World → Prop, Hid (∀ a' w', S w' → wpSchedL P ops S Q r a' w' → K a' w') → wpList P ops (QRun Q K) [o] a w
theorem sched_of_list : ∀ (sc : List (Nat × Bool)) (a : Act) (w : World), (sc.all fun x => decide (x.1 < ops.size)) = true → wpSchedL P ops S Q (schedOps ops sc) a w → wpSched P ops S Q sc a w
  | [], a, w, _, h => h
  | (i, b) :: r, a, w, hB, h => by
    simp only [List.all_cons, Bool.and_eq_true, decide_eq_true_eq] at hB
    obtain ⟨hi, hr⟩ := hB
    have ho : ops[i]? = some ops[i] := Array.getElem?_eq_getElem hi
    have e : schedOps ops ((i, b) :: r) = (ops[i], b) :: schedOps ops r := by
      unfold schedOps
      rw [List.filterMap_cons]
      simp only [ho, Option.map_some]
    rw [e] at h
    cases b with
    | true =>
      obtain ⟨v, hy, h2⟩ := h
      exact ⟨ops[i], v, ho, hy, sched_of_list r _ w hr h2⟩
    | false => exact wpOp_of_list ho (h _ (Lib.hid fun a' w' h1 h2 => ⟨h1, sched_of_list r a' w' hr h2⟩))
theorem wp_schedL {id : Nat} {a : Act} {w : World} {l : List Oper} (S : World → Prop) (sc : List (Nat × Bool)) (hm : P.follows .mixedOrders = true) (hs : Region.noSelect l.toArray = true) (hn : sc.length = l.toArray.size)
    (hi : (sc.all fun x => decide (x.1 < l.toArray.size)) = true)
    (hB : schedB .any l.toArray sc (Array.replicate l.toArray.size false) = true) (hS : S w.drew) (hQ : ∀ c d v a w, Q (.panic c) (Act.put a d v) w → Q (.panic c) a w)
    (h : wpSchedL P l.toArray S Q (schedOps l.toArray sc) a w.drew) : (Code.region id l.toArray true).wp P Q a w :=
  wp_sched S sc hm hs hn hB hS hQ (sched_of_list sc _ _ hi h)
theorem wpSched_take {o : Oper} {r : List (Oper × Bool)} {a : Act} {w : World} (v : Value) (hw : Region.wanted o (yielded ops a.tmps) = true)
    (hv : ∀ w, S w → (execOp a.eval o).run P w = .ok (.value v) w) (h : wpSchedL P ops S Q r (a.put o.dst v) w) : wpSchedL P ops S Q ((o, true) :: r) a w := ⟨v, .inl ⟨hw, hv⟩, h⟩
theorem wpSched_skip {o : Oper} {r : List (Oper × Bool)} {a : Act} {w : World} (hw : Region.wanted o (yielded ops a.tmps) = false)
    (h : wpSchedL P ops S Q r (a.put o.dst undef) w) : wpSchedL P ops S Q ((o, true) :: r) a w := ⟨undef, .inr ⟨hw, rfl⟩, h⟩
theorem wpSched_run {o : Oper} {r : List (Oper × Bool)} {a : Act} {w : World}
    (h : ∀ K : Act → World → Prop, Hid (∀ a' w', S w' → wpSchedL P ops S Q r a' w' → K a' w') → wpList P ops (QRun Q K) [o] a w) : wpSchedL P ops S Q ((o, false) :: r) a w := h
theorem wpSched_done {a : Act} {w : World} (h : Q .normal a w) : wpSchedL P ops S Q [] a w := h
theorem QRun_normal {K : Act → World → Prop} {a : Act} {w : World} (h : K a w) : QRun Q K .normal a w := h
end
end Go.Proofs.YtagnbdenecphcaaDoor
/-! Regions that draw whose last writing operation L writes what the others read: S need not hold behind L. -/
namespace Go.Proofs.YtagnbdenecphcaaDoor
open Go.RowKit
section
variable {P : Program} {ops : Array Oper} {Q : Exit → Act → World → Prop} {S : World → Prop}
/-- whatever order is picked; S holds behind each operation as long as L has not come up -/
def wpAnyS (P : Program) (ops : Array Oper) (Q : Exit → Act → World → Prop) (S : World → Prop) (L : Nat) : Nat → Array Bool → Act → World → Prop
  | 0, listed, a, w => Region.ready .any ops listed = [] ∧ Q .normal a w
  | fuel + 1, listed, a, w =>
    (Region.ready .any ops listed = [] → Q .normal a w) ∧
    ∀ i ∈ Region.ready .any ops listed, wpOp P ops Q i (fun a' w' => ((listed.setIfInBounds i true).getD L false = false → S w') ∧ wpAnyS P ops Q S L fuel (listed.setIfInBounds i true) a' w') a w
theorem wpAny_of_S {L : Nat} : ∀ (fuel : Nat) (listed : Array Bool) (a : Act) (w : World), wpAnyS P ops Q S L fuel listed a w → wpAny P .any ops Q fuel listed a w
  | 0, _, _, _, h => h
  | fuel + 1, _, _, _, h => ⟨h.1, fun i hi => wpOp_mono (fun a' w' h' => wpAny_of_S fuel _ a' w' h'.2) (h.2 i hi)⟩
theorem getD_clash {listed : Array Bool} {i : Nat} (h1 : listed.getD i false = true) (h0 : listed.getD i true = false) : False := by
  rcases Nat.lt_or_ge i listed.size with h' | h'
  · simp [h'] at h0 h1
    rw [h0] at h1; cases h1
  · simp [Array.getElem?_eq_none h'] at h1
theorem last_waits {L i : Nat} (h : Region.waitsFor .any ops L i = true) {listed : Array Bool} (hr : L ∈ Region.ready .any ops listed) : listed.getD i false = true := by
  obtain ⟨oj, hoj, e, he, hb, rfl⟩ := Region.waitsFor_spec h
  obtain ⟨_, oj', hoj', hall⟩ := mem_ready.1 hr
  rw [hoj] at hoj'
  cases hoj'
  exact hall e he hb
/-- an operation that yields in every world that meets T may be taken first; T is S where L waits for it, else nothing -/
theorem wpAnyS_first {L i : Nat} {oi : Oper} {v : Value} {T : World → Prop} (hil : i ≠ L) (hT : (Region.waitsFor .any ops L i = true ∧ ∀ w, S w → T w) ∨ (∀ w, T w)) (hi : ops[i]? = some oi) (hsel : ∀ (j : Nat) (o : Oper) cs b, ops[j]? = some o → o.op ≠ .select cs b)
    (hQ : ∀ c a w, Q (.panic c) (a.put oi.dst v) w → Q (.panic c) a w) :
    ∀ (fuel : Nat) (listed : Array Bool) (a : Act) (w : World),
      (∀ j oj, ops[j]? = some oj → j ≠ i → listed.getD j true = false → (∀ e ∈ oj.after, Region.binds .any e = true → e.on ≠ i) → oi.apart ops oj = true) →
      i ∈ Region.ready .any ops listed → YieldsIf P ops T oi v a → T w → (Region.waitsFor .any ops L i = true → listed.getD L false = false) → (listed.getD L false = false → S w) →
      wpAnyS P ops Q S L fuel (listed.setIfInBounds i true) (a.put oi.dst v) w → wpAnyS P ops Q S L (fuel + 1) listed a w := by
  intro fuel
  induction fuel with
  | zero =>
    intro listed a w _ hr hy hTw _ hS H
    refine ⟨fun h => absurd hr (by rw [h]; simp), fun j hj => ?_⟩
    by_cases hji : j = i
    · subst hji; exact hy.wpOp hi hTw ⟨fun h => hS (by rwa [getD_set_ne false hil] at h), H⟩
    · exact absurd (ready_mono hj hji) (by rw [H.1]; simp)
  | succ fuel ih =>
    intro listed a w hfree hr hy hTw hLu hS H
    refine ⟨fun h => absurd hr (by rw [h]; simp), fun j hj => ?_⟩
    by_cases hji : j = i
    · subst hji; exact hy.wpOp hi hTw ⟨fun h => hS (by rwa [getD_set_ne false hil] at h), H⟩
    · obtain ⟨hjun, oj, hoj, hall⟩ := mem_ready.1 hj
      have hiun := (mem_ready.1 hr).1
      have hnot : ∀ e ∈ oj.after, Region.binds .any e = true → e.on ≠ i := fun e he hb heq => by
        have h1 := hall e he hb
        rw [heq] at h1
        exact getD_clash h1 hiun
      have hjL : Region.waitsFor .any ops L i = true → j ≠ L := fun hw e => by
        subst e
        exact getD_clash (last_waits hw hj) hiun
      have h2 := wpOp_putIf hoj (hfree j oj hoj hji hjun hnot) (fun cs b => hsel i oi cs b hi) (fun cs b => hsel j oj cs b hoj) hQ hy (H.2 j (ready_mono hj hji))
      have hcm : (listed.setIfInBounds i true).setIfInBounds j true = (listed.setIfInBounds j true).setIfInBounds i true := Array.setIfInBounds_comm _ _ (Ne.symm hji)
      refine wpOp_mono (fun a' w' h3 => ?_) h2
      obtain ⟨h3y, h3S, h3H⟩ := h3
      rw [hcm] at h3S h3H
      have hS' : (listed.setIfInBounds j true).getD L false = false → S w' := fun h => h3S (by rwa [getD_set_ne false hil])
      have hLu' : Region.waitsFor .any ops L i = true → (listed.setIfInBounds j true).getD L false = false := fun hw => by rw [getD_set_ne false (hjL hw)]; exact hLu hw
      refine ⟨hS', ih (listed.setIfInBounds j true) a' w' ?_ (ready_mono hr (Ne.symm hji)) h3y ?_ hLu' hS' h3H⟩
      · intro k ok hk hki hun hno
        refine hfree k ok hk hki ?_ hno
        by_cases hjk : j = k
        · subst hjk; exact hjun
        · rw [getD_set_ne true hjk] at hun; exact hun
      · rcases hT with ⟨hw, hST⟩ | hT
        · exact hST _ (hS' (hLu' hw))
        · exact hT _
/-- a schedule: (i, 0) carried out alone; (i, 1) taken first, L waits for it; (i, 2) taken first in any world -/
def schedLB (ops : Array Oper) (L : Nat) : List (Nat × Nat) → Array Bool → Bool
  | [], listed => (Region.ready .any ops listed).isEmpty
  | (i, 0) :: r, listed => (Region.ready .any ops listed == [i]) && (if i == L then r.isEmpty else !r.isEmpty) && schedLB ops L r (listed.setIfInBounds i true)
  | (i, k + 1) :: r, listed => Region.free .any ops listed i && (Region.ready .any ops listed).contains i && i != L && (!(listed.getD L false)) && (if k == 0 then Region.waitsFor .any ops L i else k == 1) && schedLB ops L r (listed.setIfInBounds i true)
/-- what is asked of the world where a read is taken -/
def readS (S : World → Prop) : Nat → World → Prop
  | 0 => S
  | _ => fun _ => True
def wpSchedS (P : Program) (ops : Array Oper) (S : World → Prop) (Q : Exit → Act → World → Prop) : List (Oper × Nat) → Act → World → Prop
  | [], a, w => Q .normal a w
  | (o, k + 1) :: r, a, w => ∃ v, YieldsIf P ops (readS S k) o v a ∧ wpSchedS P ops S Q r (a.put o.dst v) w
  | (o, 0) :: r, a, w => ∀ K : Act → World → Prop, Hid (∀ a' w', (r ≠ [] → S w') → wpSchedS P ops S Q r a' w' → K a' w') → wpList P ops (QRun Q K) [o] a w
def schedOpsN (ops : Array Oper) (sc : List (Nat × Nat)) : List (Oper × Nat) := sc.filterMap fun x => (ops[x.1]?).map fun o => (o, x.2)
theorem schedOpsN_cons {i k : Nat} {r : List (Nat × Nat)} (hi : i < ops.size) : schedOpsN ops ((i, k) :: r) = (ops[i], k) :: schedOpsN ops r := by
  unfold schedOpsN
  rw [List.filterMap_cons]
  simp only [Array.getElem?_eq_getElem hi, Option.map_some]
theorem schedS_sound {L : Nat} (hs : Region.noSelect ops = true) (hQ : ∀ c d v a w, Q (.panic c) (Act.put a d v) w → Q (.panic c) a w) : ∀ (sc : List (Nat × Nat)) (listed : Array Bool) (a : Act) (w : World),
    (sc.all fun x => decide (x.1 < ops.size)) = true → schedLB ops L sc listed = true → (sc ≠ [] → S w) → wpSchedS P ops S Q (schedOpsN ops sc) a w → wpAnyS P ops Q S L sc.length listed a w
  | [], listed, a, w, _, hB, _, h => ⟨by simpa [schedLB] using hB, h⟩
  | (i, k + 1) :: r, listed, a, w, hA, hB, hS, h => by
    simp only [List.all_cons, Bool.and_eq_true, decide_eq_true_eq] at hA
    obtain ⟨hi, hr⟩ := hA
    rw [schedOpsN_cons hi] at h
    simp only [schedLB, Bool.and_eq_true, bne_iff_ne, ne_eq, Bool.not_eq_true'] at hB
    obtain ⟨⟨⟨⟨⟨h1, h2⟩, h3⟩, h4⟩, h5⟩, h6⟩ := hB
    simp only [wpSchedS] at h
    obtain ⟨v, hy, h⟩ := h
    have hSw : S w := hS (by simp)
    have ho : ops[i]? = some ops[i] := Array.getElem?_eq_getElem hi
    have hT : (Region.waitsFor .any ops L i = true ∧ ∀ w, S w → readS S k w) ∨ (∀ w, readS S k w) := by
      cases k with
      | zero => exact .inl ⟨by simpa using h5, fun _ h => h⟩
      | succ k => exact .inr fun _ => trivial
    have hTw : readS S k w := by rcases hT with ⟨_, h⟩ | h; exact h _ hSw; exact h _
    exact wpAnyS_first (T := readS S k) h3 hT ho (Region.noSelect_spec hs) (fun c a w => hQ c _ _ a w) r.length listed a w (Region.free_spec ho h1) (by simpa using h2) hy hTw (fun _ => h4) (fun _ => hSw)
      (schedS_sound hs hQ r _ _ w hr h6 (fun _ => hSw) h)
  | (i, 0) :: r, listed, a, w, hA, hB, hS, h => by
    simp only [List.all_cons, Bool.and_eq_true, decide_eq_true_eq] at hA
    obtain ⟨hi, hr⟩ := hA
    rw [schedOpsN_cons hi] at h
    simp only [schedLB, Bool.and_eq_true, beq_iff_eq] at hB
    obtain ⟨⟨h1, h2⟩, h3⟩ := hB
    simp only [wpSchedS] at h
    refine ⟨fun h0 => absurd h0 (by rw [h1]; simp), fun j hj => ?_⟩
    rw [h1, List.mem_singleton] at hj
    subst hj
    have hre : ∀ w', (schedOpsN ops r ≠ [] → S w') → r ≠ [] → S w' := fun w' hh hn => hh (by
      cases r with
      | nil => exact absurd rfl hn
      | cons x r =>
        obtain ⟨x1, x2⟩ := x
        simp only [List.all_cons, Bool.and_eq_true, decide_eq_true_eq] at hr
        rw [schedOpsN_cons hr.1]; simp)
    refine wpOp_of_list (Array.getElem?_eq_getElem hi) (h _ (Lib.hid fun a' w' hq1 hq2 => ⟨fun hn => ?_, schedS_sound hs hQ r _ a' w' hr h3 (hre w' hq1) hq2⟩))
    by_cases hjL : j = L
    · subst hjL
      have hj2 := (mem_ready.1 (show j ∈ Region.ready .any ops listed by rw [h1]; simp)).1
      rcases Nat.lt_or_ge j listed.size with h' | h'
      · simp [h'] at hn
      · simp [Array.getElem?_eq_none h'] at hj2
    · by_cases hrn : r = []
      · subst hrn
        rw [if_neg (by simpa using hjL)] at h2
        cases h2
      · exact hre w' hq1 hrn
theorem wp_schedS {id : Nat} {a : Act} {w : World} {l : List Oper} (S : World → Prop) (L : Nat) (sc : List (Nat × Nat)) (hm : P.follows .mixedOrders = true) (hs : Region.noSelect l.toArray = true) (hn : sc.length = l.toArray.size)
    (hi : (sc.all fun x => decide (x.1 < l.toArray.size)) = true)
    (hB : schedLB l.toArray L sc (Array.replicate l.toArray.size false) = true) (hS : S w.drew) (hQ : ∀ c d v a w, Q (.panic c) (Act.put a d v) w → Q (.panic c) a w)
    (h : wpSchedS P l.toArray S Q (schedOpsN l.toArray sc) a w.drew) : (Code.region id l.toArray true).wp P Q a w := by
  refine wp_region_any hm ?_
  rw [← hn]
  have := schedS_sound (P := P) hs hQ sc (Array.replicate l.toArray.size false) a w.drew hi hB (fun _ => hS) h
  rw [← hn] at this
  exact wpAny_of_S _ _ _ _ this
theorem wpS_take {o : Oper} {r : List (Oper × Nat)} {a : Act} {w : World} (v : Value) (hw : Region.wanted o (yielded ops a.tmps) = true)
    (hv : ∀ w, S w → (execOp a.eval o).run P w = .ok (.value v) w) (h : wpSchedS P ops S Q r (a.put o.dst v) w) : wpSchedS P ops S Q ((o, 1) :: r) a w := by
  unfold wpSchedS
  exact ⟨v, .inl ⟨hw, hv⟩, h⟩
theorem wpS_pure {o : Oper} {r : List (Oper × Nat)} {a : Act} {w : World} (v : Value) (hw : Region.wanted o (yielded ops a.tmps) = true)
    (hv : ∀ w, (execOp a.eval o).run P w = .ok (.value v) w) (h : wpSchedS P ops S Q r (a.put o.dst v) w) : wpSchedS P ops S Q ((o, 2) :: r) a w := by
  unfold wpSchedS
  exact ⟨v, .inl ⟨hw, fun w _ => hv w⟩, h⟩
theorem wpS_skip {o : Oper} {r : List (Oper × Nat)} {a : Act} {w : World} {k : Nat} (hw : Region.wanted o (yielded ops a.tmps) = false)
    (h : wpSchedS P ops S Q r (a.put o.dst undef) w) : wpSchedS P ops S Q ((o, k + 1) :: r) a w := by
  unfold wpSchedS
  exact ⟨undef, .inr ⟨hw, rfl⟩, h⟩
theorem wpS_run {o : Oper} {x : Oper × Nat} {r : List (Oper × Nat)} {a : Act} {w : World}
    (h : ∀ K : Act → World → Prop, Hid (∀ a' w', S w' → wpSchedS P ops S Q (x :: r) a' w' → K a' w') → wpList P ops (QRun Q K) [o] a w) : wpSchedS P ops S Q ((o, 0) :: x :: r) a w := by
  unfold wpSchedS
  exact fun K hK => h K (Lib.hid fun a' w' h1 h2 => hK.out a' w' (fun _ => h1) h2)
theorem wpS_last {o : Oper} {a : Act} {w : World}
    (h : ∀ K : Act → World → Prop, Hid (∀ a' w', Q .normal a' w' → K a' w') → wpList P ops (QRun Q K) [o] a w) : wpSchedS P ops S Q [(o, 0)] a w := by
  unfold wpSchedS
  exact fun K hK => h K (Lib.hid fun a' w' h1 => hK.out a' w' (fun hn => absurd rfl hn) h1)
end
end Go.Proofs.YtagnbdenecphcaaDoor
