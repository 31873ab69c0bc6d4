/- Two sides that negotiate, by tokens: which of a side's links (as it came; without short heads) is asked for. What the tokens' machine does, the machine of links does. -/
import Derived.Test.YtagnbdenecphcaaDoorMl
namespace Go.Proofs.YtagnbdenecphcaaDoor
open Go.RowKit
set_option linter.unusedVariables false
set_option linter.unusedSimpArgs false
def lk (l : LinkM) (c : Bool) : LinkM := if c then cutM l else l
theorem lk_may {l : LinkM} (h : mayM l = true) (c : Bool) : mayM (lk l c) = true := by cases c <;> exact h
theorem lk_short (l : LinkM) (c : Bool) : (lk l c).short = (l.short && !c) := by cases c <;> simp [lk, cutM]
theorem lk_magic (l : LinkM) (c : Bool) : (lk l c).magic = l.magic := by cases c <;> rfl
structure SyN where
  state : Int
  left : Int
  tries : Int
  cut : Bool
  other : Option Bool
  id : Int
  asked : Int
  os : Option Bool
  deriving DecidableEq
structure SyP where
  code : Int
  id : Int
  tok : Bool
  deriving DecidableEq
structure SyR where
  p : SyP
  event : Int
  verdict : Int
def concN (l m : LinkM) (s : SyN) : NegM := ⟨s.state, s.left, s.tries, lk l s.cut, (match s.other with | none => linkZ | some c => lk m c), s.id, s.asked, (match s.os with | none => [] | some c => askM (lk l c))⟩
/-- a packet from the side of l to the side of m -/
def concP (l m : LinkM) (p : SyP) : PacketM := ⟨p.code, p.id, if p.code = 1 then askM (lk l p.tok) else if p.code = 2 then askM (lk m p.tok) else if p.code = 4 then [(18, ⟨#[]⟩)] else [], ⟨#[]⟩⟩
/-- what the side of l makes of a packet of m's -/
def concR (l m : LinkM) (r : SyR) : ReplyM := ⟨concP m l r.p, r.event, r.verdict, if r.p.code = 1 then (if r.verdict = 2 then [(18, ⟨#[]⟩)] else askM (lk m r.p.tok)) else []⟩
def nextS (s : SyN) : SyN := { s with id := (s.id + 1) % 256 }
def countS (s : SyN) : SyN := { s with left := max 0 (s.left - 1) }
def sendS (s : SyN) (act : Int) (r : SyR) : Option (SyN × Option SyP) :=
  if act = 7 then some ({ nextS (countS s) with asked := (s.id + 1) % 256, os := some s.cut }, some ⟨1, (s.id + 1) % 256, s.cut⟩)
  else if act = 10 then some (nextS (countS s), some ⟨5, (s.id + 1) % 256, false⟩)
  else if act = 8 then (if r.p.code = 1 ∧ r.verdict = 0 then some ({ s with other := some r.p.tok }, some ⟨2, r.p.id, r.p.tok⟩) else none)
  else if act = 9 then (if r.p.code = 1 ∧ r.verdict = 2 then some (s, some ⟨4, r.p.id, false⟩) else none)
  else if act = 11 then some (s, some ⟨6, if r.event = 10 then r.p.id else 0, false⟩)
  else if act = 12 ∨ act = 13 then none
  else some (s, none)
theorem sim_send {l m : LinkM} (hm : mayM m = true) (s s' : SyN) (act : Int) (r : SyR) (op : Option SyP) (h : sendS s act r = some (s', op)) :
    sendM (concN l m s) act (concR l m r) = (concN l m s', op.map (concP l m)) := by
  have ht := fun c => taken_ask (lk_may hm c)
  unfold sendS at h
  unfold sendM
  by_cases h7 : act = 7
  · rw [if_pos h7] at h ⊢
    cases h
    rfl
  rw [if_neg h7] at h ⊢
  by_cases h10 : act = 10
  · rw [if_pos h10] at h ⊢
    cases h
    rfl
  rw [if_neg h10] at h ⊢
  by_cases h8 : act = 8
  · rw [if_pos h8] at h ⊢
    split at h
    · rename_i hc
      cases h
      simp [concN, concP, concR, hc, ht]
    · cases h
  rw [if_neg h8] at h ⊢
  by_cases h9 : act = 9
  · rw [if_pos h9] at h ⊢
    split at h
    · rename_i hc
      cases h
      simp [concN, concP, concR, hc, ht]
    · cases h
  rw [if_neg h9] at h ⊢
  by_cases h11 : act = 11
  · rw [if_pos h11] at h ⊢
    cases h
    rfl
  rw [if_neg h11] at h ⊢
  split at h
  · cases h
  · rename_i h12
    cases h
    rw [if_neg (fun e => h12 (.inl e)), if_neg (fun e => h12 (.inr e))]
    rfl
def setLeftS (s : SyN) (act : Int) : SyN := if act = 5 then { s with left := s.tries } else if act = 6 then { s with left := 0 } else s
theorem sim_left (l m : LinkM) (s : SyN) (act : Int) : setLeft (concN l m s) act = concN l m (setLeftS s act) := by
  unfold setLeft setLeftS
  split
  · rfl
  · split <;> rfl
def actsS (r : SyR) : SyN → List SyP → List Int → Option (SyN × List SyP)
  | s, out, [] => some (s, out)
  | s, out, a :: az => match sendS (setLeftS s a) a r with
    | none => none
    | some (s', op) => actsS r s' (out ++ op.toList) az
theorem sim_acts {l m : LinkM} (hm : mayM m = true) (r : SyR) (acts : List Int) : ∀ (s s' : SyN) (out out' : List SyP), actsS r s out acts = some (s', out') →
    acts.foldl (actM (concR l m r)) (concN l m s, out.map (concP l m)) = (concN l m s', out'.map (concP l m)) := by
  induction acts with
  | nil => intro s s' out out' h; cases h; rfl
  | cons a az ih =>
    intro s s' out out' h
    unfold actsS at h
    cases hs : sendS (setLeftS s a) a r with
    | none => rw [hs] at h; cases h
    | some x =>
      obtain ⟨s2, op⟩ := x
      rw [hs] at h
      rw [List.foldl_cons, ← ih s2 s' _ out' h]
      congr 1
      unfold actM
      rw [sim_left, sim_send hm _ _ _ _ _ hs]
      cases op <;> simp
def runS (s : SyN) (event : Int) (r : SyR) : Option (SyN × List SyP) :=
  if (stepSays s.state event).2.2 ≠ 0 then none else actsS { r with event := event } { s with state := (stepSays s.state event).1 } [] (stepSays s.state event).2.1
theorem sim_run {l m : LinkM} (hm : mayM m = true) (s s' : SyN) (ev : Int) (r : SyR) (out : List SyP) (h : runS s ev r = some (s', out)) :
    runM (concN l m s) ev (concR l m r) = (concN l m s', out.map (concP l m), 0) := by
  unfold runS at h
  unfold runM
  split at h
  · cases h
  · rename_i he
    have e1 : (concN l m s).state = s.state := rfl
    rw [e1, if_neg he]
    have := sim_acts (l := l) hm _ _ _ _ _ _ h
    unfold actsM
    simp only [concN, List.map_nil, concR] at this ⊢
    rw [this]
def doS (s : SyN) (event : Int) : Option (SyN × List SyP) :=
  if event = 0 ∨ event = 1 ∨ event = 2 ∨ event = 3 then runS s event ⟨⟨0, 0, false⟩, 0, 0⟩
  else if event = 4 then runS s (if s.left = 0 then 5 else 4) ⟨⟨0, 0, false⟩, 0, 0⟩
  else none
theorem sim_do {l m : LinkM} (hm : mayM m = true) (s s' : SyN) (ev : Int) (out : List SyP) (h : doS s ev = some (s', out)) :
    doM (concN l m s) ev = (concN l m s', out.map (concP l m), 0) := by
  have hz : concR l m ⟨⟨0, 0, false⟩, 0, 0⟩ = replyZ := by simp [concR, concP, replyZ, packetZ]
  unfold doS at h
  unfold doM
  split
  · rename_i h1
    rw [if_pos h1] at h
    rw [← hz]
    exact sim_run hm _ _ _ _ _ h
  · rename_i h1
    rw [if_neg h1] at h
    split
    · rename_i h2
      rw [if_pos h2] at h
      rw [← hz]
      exact sim_run hm _ _ _ _ _ h
    · rename_i h2
      rw [if_neg h2] at h
      cases h
/-- ls, ms: do the links as they came ask for short heads -/
def takeS (ls ms : Bool) (s : SyN) (p : SyP) : Option (SyN × List SyP) :=
  if p.id < 0 ∨ 255 < p.id ∨ s.state = 0 ∨ s.state = 1 then none
  else if p.code = 1 then (if (ls && !s.cut) = false ∧ (ms && !p.tok) = true then runS s 7 ⟨p, 0, 2⟩ else runS s 6 ⟨p, 0, 0⟩)
  else if p.code = 2 then (if p.id = s.asked then (if s.os = some p.tok then runS s 8 ⟨p, 0, 0⟩ else none) else some (s, []))
  else if p.code = 4 then (if p.id = s.asked then (if (ls && !s.cut) = true then runS { s with cut := true } 9 ⟨p, 0, 0⟩ else none) else some (s, []))
  else if p.code = 5 then runS s 10 ⟨p, 0, 0⟩
  else if p.code = 6 then runS s 11 ⟨p, 0, 0⟩
  else none
theorem sim_take {l m : LinkM} (hl : mayM l = true) (hm : mayM m = true) (hf : farM l m) (s s' : SyN) (p : SyP) (out : List SyP) (h : takeS l.short m.short s p = some (s', out)) :
    takeM (concN l m s) (concP m l p) = (concN l m s', out.map (concP l m), 0) := by
  unfold takeS at h
  split at h
  · cases h
  rename_i h0
  have hid : 0 ≤ p.id ∧ p.id ≤ 255 := by omega
  have hst : ¬ (s.state = 0 ∨ s.state = 1) := by omega
  obtain ⟨c, id, tok⟩ := p
  have hctl : (c = 1 ∨ c = 2 ∨ c = 4 ∨ c = 5 ∨ c = 6) → (controlM (concP m l ⟨c, id, tok⟩)).2 = 0 := by
    rintro (rfl | rfl | rfl | rfl | rfl)
    · exact control_ask 1 id (lk_may hm tok) (by omega) hid
    · exact control_ask 2 id (lk_may hl tok) (by omega) hid
    · exact control_opts 4 id [(18, ⟨#[]⟩)] (by omega) hid (by simp) (by intro o ho; simp at ho; subst ho; exact ⟨by decide, by decide, by decide⟩)
    · exact control_plain 5 id ⟨#[]⟩ (by omega) hid (by decide)
    · exact control_plain 6 id ⟨#[]⟩ (by omega) hid (by decide)
  dsimp only at h
  by_cases h1 : c = 1
  · subst h1
    rw [if_pos rfl] at h
    have hj := judge_ask (own := lk l s.cut) (lk_may hl _) (may_of (lk_may hm tok)) (by unfold farM at *; rw [lk_magic, lk_magic]; exact hf)
    rw [lk_short, lk_short] at hj
    split at h
    · rename_i hc
      rw [if_pos hc] at hj
      have he : eventM (concN l m s) (concP m l ⟨1, id, tok⟩) = (concN l m s, concR l m ⟨⟨1, id, tok⟩, 0, 2⟩, some 7) := by
        have e0 : (concP m l ⟨1, id, tok⟩).opts = askM (lk m tok) := rfl
        have e1 : (concN l m s).own = lk l s.cut := rfl
        unfold eventM
        rw [if_pos (show (concP m l ⟨1, id, tok⟩).code = 1 from rfl), e0, e1, hj]
        rfl
      rw [take_some (hctl (by simp)) hst he]
      exact sim_run hm _ _ _ _ _ h
    · rename_i hc
      rw [if_neg hc] at hj
      have he : eventM (concN l m s) (concP m l ⟨1, id, tok⟩) = (concN l m s, concR l m ⟨⟨1, id, tok⟩, 0, 0⟩, some 6) := by
        have e0 : (concP m l ⟨1, id, tok⟩).opts = askM (lk m tok) := rfl
        have e1 : (concN l m s).own = lk l s.cut := rfl
        unfold eventM
        rw [if_pos (show (concP m l ⟨1, id, tok⟩).code = 1 from rfl), e0, e1, hj]
        rfl
      rw [take_some (hctl (by simp)) hst he]
      exact sim_run hm _ _ _ _ _ h
  rw [if_neg h1] at h
  by_cases h2 : c = 2
  · subst h2
    rw [if_pos rfl] at h
    split at h
    · rename_i hi
      split at h
      · rename_i ho
        have he : eventM (concN l m s) (concP m l ⟨2, id, tok⟩) = (concN l m s, concR l m ⟨⟨2, id, tok⟩, 0, 0⟩, some 8) := by
          have e0 : (concP m l ⟨2, id, tok⟩).id = (concN l m s).asked ∧ (concP m l ⟨2, id, tok⟩).opts = (concN l m s).os := ⟨hi, by simp [concP, concN, ho]⟩
          unfold eventM
          rw [if_neg (show ¬ (concP m l ⟨2, id, tok⟩).code = 1 from (by decide : ¬ ((2 : Int) = 1))), if_pos (show (concP m l ⟨2, id, tok⟩).code = 2 from rfl), if_pos e0]
          rfl
        rw [take_some (hctl (by simp)) hst he]
        exact sim_run hm _ _ _ _ _ h
      · cases h
    · rename_i hi
      cases h
      have he : eventM (concN l m s) (concP m l ⟨2, id, tok⟩) = (concN l m s, concR l m ⟨⟨2, id, tok⟩, 0, 0⟩, none) := by
        have e0 : ¬ ((concP m l ⟨2, id, tok⟩).id = (concN l m s).asked ∧ (concP m l ⟨2, id, tok⟩).opts = (concN l m s).os) := fun e => hi e.1
        unfold eventM
        rw [if_neg (show ¬ (concP m l ⟨2, id, tok⟩).code = 1 from (by decide : ¬ ((2 : Int) = 1))), if_pos (show (concP m l ⟨2, id, tok⟩).code = 2 from rfl), if_neg e0]
        rfl
      rw [take_none (hctl (by simp)) hst he]
      rfl
  rw [if_neg h2] at h
  by_cases h4 : c = 4
  · subst h4
    rw [if_pos rfl] at h
    split at h
    · rename_i hi
      split at h
      · rename_i ho
        have hlc : (lk l s.cut).short = true := by rw [lk_short]; exact ho
        have hln := learn_cut (lk_may hl s.cut) hlc
        have hcc : cutM (lk l s.cut) = lk l true := by cases s.cut <;> rfl
        have he : eventM (concN l m s) (concP m l ⟨4, id, tok⟩) = (concN l m { s with cut := true }, concR l m ⟨⟨4, id, tok⟩, 0, 0⟩, some 9) := by
          have e0 : (concP m l ⟨4, id, tok⟩).id = (concN l m s).asked := hi
          have e1 : (concN l m s).own = lk l s.cut := rfl
          have e2 : (concP m l ⟨4, id, tok⟩).opts = [(18, ⟨#[]⟩)] := rfl
          have e3 : (concP m l ⟨4, id, tok⟩).code = 4 := rfl
          unfold eventM
          rw [if_neg (show ¬ (concP m l ⟨4, id, tok⟩).code = 1 from (by decide : ¬ ((4 : Int) = 1))), if_neg (show ¬ (concP m l ⟨4, id, tok⟩).code = 2 from (by decide : ¬ ((4 : Int) = 2))), if_pos (show (concP m l ⟨4, id, tok⟩).code = 3 ∨ (concP m l ⟨4, id, tok⟩).code = 4 from .inr rfl), if_pos e0, e1, e2, e3, hln, hcc]
          rfl
        rw [take_some (hctl (by simp)) hst he]
        exact sim_run hm _ _ _ _ _ h
      · cases h
    · rename_i hi
      cases h
      have he : eventM (concN l m s) (concP m l ⟨4, id, tok⟩) = (concN l m s, concR l m ⟨⟨4, id, tok⟩, 0, 0⟩, none) := by
        have e0 : ¬ (concP m l ⟨4, id, tok⟩).id = (concN l m s).asked := hi
        unfold eventM
        rw [if_neg (show ¬ (concP m l ⟨4, id, tok⟩).code = 1 from (by decide : ¬ ((4 : Int) = 1))), if_neg (show ¬ (concP m l ⟨4, id, tok⟩).code = 2 from (by decide : ¬ ((4 : Int) = 2))), if_pos (show (concP m l ⟨4, id, tok⟩).code = 3 ∨ (concP m l ⟨4, id, tok⟩).code = 4 from .inr rfl), if_neg e0]
        rfl
      rw [take_none (hctl (by simp)) hst he]
      rfl
  rw [if_neg h4] at h
  by_cases h5 : c = 5
  · subst h5
    rw [if_pos rfl] at h
    rw [take_some (e := 10) (s1 := concN l m s) (r := concR l m ⟨⟨5, id, tok⟩, 0, 0⟩) (hctl (by simp)) hst rfl]
    exact sim_run hm _ _ _ _ _ h
  rw [if_neg h5] at h
  by_cases h6 : c = 6
  · subst h6
    rw [if_pos rfl] at h
    rw [take_some (e := 11) (s1 := concN l m s) (r := concR l m ⟨⟨6, id, tok⟩, 0, 0⟩) (hctl (by simp)) hst rfl]
    exact sim_run hm _ _ _ _ _ h
  rw [if_neg h6] at h
  cases h
end Go.Proofs.YtagnbdenecphcaaDoor
