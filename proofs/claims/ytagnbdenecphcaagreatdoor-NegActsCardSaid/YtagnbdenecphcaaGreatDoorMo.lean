/- neg.do. neg.Do. -/
import Derived.Test.YtagnbdenecphcaaGreatDoorMn
/-! neg.do. -/
namespace Go.Proofs.YtagnbdenecphcaaGreatDoor
open Go.RowKit
set_option linter.unusedVariables false
set_option linter.unusedSimpArgs false
theorem OwnI.cellOf {w : World} {base : Nat} {a : Option Addr} {n c : Nat} {l : List Int} (h : OwnI w base (.slice a n c) l) (k : Nat) (hk : k < l.length) : ∃ g, a = some ⟨g, 0, none⟩ ∧ base ≤ g ∧ w.cell? ⟨g, k, none⟩ = some (.int .i64 l[k]) ∧ n = l.length ∧ n ≤ c ∧ c ≤ maxLen := by
  rcases h.2 with ⟨hv, h0⟩ | ⟨g, cap, cur, hv, hg, hh, hn, hm, hs, ht⟩
  · omega
  · cases hv
    refine ⟨g, rfl, hg, ?_, rfl, hn, hm⟩
    have e : cur[k]? = (l.map (Value.int .i64))[k]? := by
      rw [← ht, List.getElem?_take, if_pos (by omega)]; simp
    simp [World.cell?, hh, e, hk]
set_option maxRecDepth 100000 in
set_option maxHeartbeats 4000000 in
theorem ndo_bad (p t q : Nat) (o : Value) (s : NegM) (ev ml : Int) (w : World) (h : NegBlk w p t o s) (ht : TableAt w t) (hm : MaxLenIs w ml) (he : (stepSays s.state ev).2.2 ≠ 0) :
    Calls Tryz.prog 23 #[.pointer (some ⟨p, 0, none⟩), .int .i64 ev, .pointer (some ⟨q, 0, none⟩)] w fun e w' => e = .returned (.tuple #[.slice none 0 0, .int .i64 1501]) ∧ Below w.heap.size w w' := by
  have hst := step_bad p t o s ev ml w h ht hm he
  clear h ht hm he
  go_enter Tryz.func23, Tryz.ntmps23
  go_wp2_with fail
  refine hst.mono ?_
  rintro e w1 ⟨rfl, hb1⟩
  clear hst
  go_wp2_with fail
  go_ret2
  exact ⟨rfl, hb1⟩
/-- the state and the packets behind k acts -/
def actsTo (s : NegM) (r : ReplyM) (acts : List Int) (k : Nat) : NegM × List PacketM := (acts.take k).foldl (actM r) (s, [])
theorem actsTo_succ (s : NegM) (r : ReplyM) (acts : List Int) (k : Nat) (h : k < acts.length) : actsTo s r acts (k + 1) = actM r (actsTo s r acts k) acts[k] := by
  unfold actsTo
  rw [List.take_succ_eq_append_getElem h, List.foldl_append]
  rfl
theorem actsTo_all (s : NegM) (r : ReplyM) (acts : List Int) : actsTo s r acts acts.length = actsM s r acts := by
  unfold actsTo actsM
  rw [List.take_length]
theorem actsTo_good {s : NegM} (h : GoodM s) (r : ReplyM) (acts : List Int) (k : Nat) : GoodM (actsTo s r acts k).1 := good_acts h r _ _
theorem actsTo_len (s : NegM) (r : ReplyM) (acts : List Int) (k : Nat) (hk : k ≤ acts.length) : (actsTo s r acts k).2.length ≤ k := by
  induction k with
  | zero => simp [actsTo]
  | succ k ih =>
    rw [actsTo_succ s r acts k hk]
    have := ih (by omega)
    unfold actM
    rw [List.length_append]
    cases (sendM (setLeft (actsTo s r acts k).1 acts[k]) acts[k] r).2 <;> simp <;> omega
/-- slices of packets of one's own, with their options -/
def PacksOwn (w : World) (b : Nat) (v : Value) (l : List PackV) : Prop := OwnE packE w b v l ∧ ∀ x ∈ l, OwnE optE w b (slOf x) x.1.opts
/-- the options a side asked for: as they were, or of the call's own -/
def OsKept (w : World) (b : Nat) (o o' : Value) (s s' : NegM) : Prop := (o' = o ∧ s'.os = s.os) ∨ OwnE optE w b o' s'.os
theorem setLeft_os (s : NegM) (act : Int) : (setLeft s act).os = s.os := by
  unfold setLeft
  split
  · rfl
  · split <;> rfl
theorem OwnE.strip {P : Program} {α : Type} {E : Elem P α} {w w' : World} {b p : Nat} {v : Value} {l : List α} (h : OwnE E w b v l) (ho : Only (· = p) w w') (hp : p < b) : OwnE E w' b v l :=
  h.only ho fun k hk e => by have := h.block k hk; omega
theorem PacksOwn.only {w w' : World} {b p : Nat} {v : Value} {l : List PackV} (h : PacksOwn w b v l) (ho : Only (· = p) w w') (hp : p < b) : PacksOwn w' b v l :=
  ⟨h.1.strip ho hp, fun x hx => (h.2 x hx).strip ho hp⟩
theorem OsKept.only {w w' : World} {b p : Nat} {o o' : Value} {s s' : NegM} (h : OsKept w b o o' s s') (ho : Only (· = p) w w') (hp : p < b) : OsKept w' b o o' s s' := h.imp id fun h => h.strip ho hp
/-- what send leaves, put behind what there was -/
theorem os_step {w : World} {b : Nat} {o o' o3 : Value} {s S S' S3 : NegM} (h : OsKept w b o o' s S) (hS : S'.os = S.os) (h3 : (o3 = o' ∧ S3.os = S'.os) ∨ OwnE optE w b o3 S3.os) : OsKept w b o o3 s S3 := by
  rcases h3 with ⟨rfl, e⟩ | h3
  · rcases h with ⟨rfl, e2⟩ | h
    · exact .inl ⟨rfl, by rw [e, hS, e2]⟩
    · exact .inr (by rw [e, hS]; exact h)
  · exact .inr h3
/-- one packet more -/
theorem packs_more {w w' : World} {b : Nat} {v v' : Value} {l : List PackV} {x : PackV} (h : PacksOwn w b v l) (hx : OwnE optE w b (slOf x) x.1.opts) (hv : OwnE packE w' b v' (l ++ [x])) (ho : Only (fun k => v.ownBlock = some k) w w') : PacksOwn w' b v' (l ++ [x]) := by
  refine ⟨hv, fun y hy => ?_⟩
  rcases List.mem_append.1 hy with hy | hy
  · exact (h.2 y hy).only ho fun k hk e => own_ne opt_pack_ne (h.2 y hy) h.1 k hk e
  · rw [List.mem_singleton] at hy
    subst hy
    exact hx.only ho fun k hk e => own_ne opt_pack_ne hx h.1 k hk e
theorem OsKept.apart {w w' : World} {b b' : Nat} {o o' v : Value} {s s' : NegM} {l : List PackV} (h : OsKept w b o o' s s') (hp : OwnE packE w b' v l) (ho : Only (fun k => v.ownBlock = some k) w w') : OsKept w' b o o' s s' :=
  h.imp id fun h => h.only ho fun k hk e => own_ne opt_pack_ne h hp k hk e
/-- no packet's options lie where the side keeps its own -/
def PSep (o' : Value) (l : List PackV) : Prop := ∀ x ∈ l, ∀ k, (slOf x).ownBlock = some k → o'.ownBlock ≠ some k
theorem PSep.nil (o' : Value) : PSep o' [] := fun x hx => absurd hx (by simp)
theorem PSep.snoc {o' : Value} {l : List PackV} {x : PackV} (h : PSep o' l) (hx : ∀ k, (slOf x).ownBlock = some k → o'.ownBlock ≠ some k) : PSep o' (l ++ [x]) := by
  intro y hy
  rcases List.mem_append.1 hy with hy | hy
  · exact h y hy
  · rw [List.mem_singleton] at hy
    subst hy
    exact hx
theorem os_lt {w : World} {b : Nat} {o o' : Value} {s s' : NegM} (h : OsKept w b o o' s s') (hol : ∀ k, o.ownBlock = some k → k < w.heap.size) : ∀ k, o'.ownBlock = some k → k < w.heap.size := by
  intro k hk
  rcases h with ⟨rfl, _⟩ | h
  · exact hol k hk
  · exact h.lt k hk
/-- what send leaves, as to the place of the options -/
theorem psep_step {w : World} {b b' : Nat} {o' o3 v : Value} {S S3 : NegM} {l : List PackV} (h : PSep o' l) (hl : PacksOwn w b v l) (hb : b' = w.heap.size) {w3 : World} (h3 : (o3 = o' ∧ S3.os = S.os) ∨ OwnE optE w3 b' o3 S3.os) : PSep o3 l := by
  rcases h3 with ⟨rfl, _⟩ | h3
  · exact h
  · intro x hx k hk e
    have h1 := (hl.2 x hx).lt k hk
    have h2 := h3.block k e
    omega
set_option maxRecDepth 100000 in
set_option maxHeartbeats 16000000 in
theorem ndo_good (p t q : Nat) (o po ov : Value) (s : NegM) (ev ml : Int) (r : ReplyM) (w : World) (h : NegBlk w p t o s) (hg : GoodM s) (ht : TableAt w t) (hm : MaxLenIs w ml) (hr : RepAt w p q po ov r) (hpt : po.ownBlock ≠ some q ∧ ov.ownBlock ≠ some q) (he : (stepSays s.state ev).2.2 = 0) (hol : ∀ k, o.ownBlock = some k → k < w.heap.size) :
    Calls Tryz.prog 23 #[.pointer (some ⟨p, 0, none⟩), .int .i64 ev, .pointer (some ⟨q, 0, none⟩)] w fun e w' => ∃ v l o', e = .returned (.tuple #[v, .int .i64 0]) ∧ PacksOwn w' w.heap.size v l ∧ l.map (·.1) = (runM s ev r).2.1 ∧ NegBlk w' p t o' (runM s ev r).1 ∧ (OsKept w' w.heap.size o o' s (runM s ev r).1 ∧ PSep o' l) ∧ Only (fun k => k = p ∨ k = q) w w' := by
  have HOL := Lib.hid hol
  clear hol
  have hst := step_good p t o s ev ml w h ht hm he
  have hst5 := step_state he
  have hsl := step_len he
  have hrun : runM s ev r = ((actsM { s with state := (stepSays s.state ev).1 } { r with event := ev } (stepSays s.state ev).2.1).1, (actsM { s with state := (stepSays s.state ev).1 } { r with event := ev } (stepSays s.state ev).2.1).2, 0) := by
    unfold runM; rw [if_neg (by omega)]
  rw [hrun]
  clear hrun
  dsimp only
  have hg1 : GoodM { s with state := (stepSays s.state ev).1 } := ⟨hst5, hg.left, hg.tries, hg.id, hg.may⟩
  obtain ⟨s1, hs1⟩ : ∃ x, ({ s with state := (stepSays s.state ev).1 } : NegM) = x := ⟨_, rfl⟩
  have hs1o : s1.os = s.os := by rw [← hs1]
  rw [hs1] at hst hg1 ⊢
  obtain ⟨acts, hac⟩ : ∃ x, (stepSays s.state ev).2.1 = x := ⟨_, rfl⟩
  rw [hac] at hst hsl ⊢
  have hpl := h.lt
  have hql := hr.blk.lt
  have hqp := hr.qp
  obtain ⟨r1, hr1⟩ : ∃ x, ({ r with event := ev } : ReplyM) = x := ⟨_, rfl⟩
  rw [hr1]
  have HR := Lib.hid hr1
  clear hs1 hac h ht hm hg he hst5 hr1
  go_enter Tryz.func23, Tryz.ntmps23
  go_wp2_with fail
  refine hst.mono ?_
  rintro e w1 ⟨va, rfl, hoI, hn1, ho1⟩
  clear hst
  obtain ⟨aa, ac, rfl⟩ := OwnI.form hoI
  have hr1 := hr.only ho1
  have c4 : w1.cell? ⟨q, 4, none⟩ = some (.int .i64 r.event) := hr1.blk.cell 4
  have f4 := hr1.blk.frozen 4
  have hq2 := only_set w1 q 4 (.int .i64 ev)
  have hn2 : NegBlk (w1.setCell ⟨q, 4, none⟩ (.int .i64 ev)) p t o s1 := hq2.heap hn1 (fun e => hqp e.symm)
  have hb2 : ReplyBlk (w1.setCell ⟨q, 4, none⟩ (.int .i64 ev)) q po ov { r with event := ev } := by
    have := heap_setCell_same w1 q 4 _ 65 (.int .i64 ev) hr1.blk
    exact this
  have hr2 : RepAt (w1.setCell ⟨q, 4, none⟩ (.int .i64 ev)) p q po ov { r with event := ev } :=
    ⟨hb2, SeqAt.only hr1.opts hq2 (fun k hk e => hpt.1 (by rw [hk, e])), SeqAt.only hr1.os hq2 (fun k hk e => hpt.2 (by rw [hk, e])), hr1.len, hr1.qp, hr1.pop, hr1.ovp, hr1.size⟩
  have hoI2 : OwnI (w1.setCell ⟨q, 4, none⟩ (.int .i64 ev)) w.heap.size (.slice aa acts.length ac) acts := OwnI.only hoI hq2 (fun k hk e => by have := OwnI.block hoI k hk; omega)
  have hO2 : Only (fun k => k = p ∨ k = q) w (w1.setCell ⟨q, 4, none⟩ (.int .i64 ev)) := (ho1.mono (fun k _ h => Or.inl h)).trans (hq2.mono (fun k _ h => Or.inr h))
  go_wp2_with fail
  obtain ⟨W2, hW2⟩ : ∃ W2, w1.setCell ⟨q, 4, none⟩ (.int .i64 ev) = W2 := ⟨_, rfl⟩
  rw [hW2] at hn2 hr2 hoI2 hO2 ⊢
  rw [HR.out] at hr2
  clear hW2 c4 f4 hq2 hb2 hr1 hr hn1 hoI ho1
  have hsz := hO2.size
  obtain ⟨n, hn⟩ : ∃ n, acts.length = n := ⟨_, rfl⟩
  have HN := Lib.hid hn
  have HI := Lib.hid hoI2
  have HA : Hid (actsM s1 r1 acts = actsTo s1 r1 acts n) := Lib.hid (by rw [← hn, actsTo_all])
  have HG := Lib.hid hg1
  rw [hn] at hsl ⊢
  clear hn hoI2 hg1
  go_loopw [10, 32] (fun out i wr => ∃ (k : Nat) (l : List PackV) (o' : Value), k ≤ n ∧ i = .int .i64 k ∧ PacksOwn wr W2.heap.size out l ∧ Hid (l.map (·.1) = (actsTo s1 r1 acts k).2) ∧ NegBlk wr p t o' (actsTo s1 r1 acts k).1 ∧ OsKept wr W2.heap.size o o' s (actsTo s1 r1 acts k).1 ∧ PSep o' l ∧ Only (· = p) W2 wr) (fun _ i _ => n - (intOf i).toNat)
  case atStart => exact ⟨0, [], o, Nat.zero_le _, rfl, ⟨OwnE.nil _ _ _, fun x hx => absurd hx (by simp)⟩, Lib.hid rfl, hn2, .inl ⟨rfl, hs1o⟩, PSep.nil _, Only.refl _ _⟩
  case round =>
    obtain ⟨k, l, o', hk, rfl, hpk, HL, hnr, hos, hps, hOr⟩ := hrel
    obtain ⟨oa, oc, rfl, hoc1, hoc2⟩ := SeqAt.form hpk.1.at
    by_cases hlt : k < n
    · have hkl : k < acts.length := by rw [HN.out]; exact hlt
      obtain ⟨g, rfl, hgw, d1, hnc, hnc1, hnc2⟩ := OwnI.cellOf HI.out k hkl
      have hpw2 : p < W2.heap.size := hn2.lt
      have hgp : g ≠ p := by omega
      replace d1 := hOr.cell (a := ⟨g, k, none⟩) d1 hgp
      have hsu := actsTo_succ s1 r1 acts k hkl
      have hgk := actsTo_good HG.out r1 acts k
      have hlk := actsTo_len s1 r1 acts k (by omega)
      have hll : l.length ≤ k := by rw [← List.length_map (f := (·.1)), HL.out]; exact hlk
      obtain ⟨act, hact⟩ : ∃ x, acts[k] = x := ⟨_, rfl⟩
      rw [hact] at d1 hsu
      obtain ⟨S, hS⟩ : ∃ x, (actsTo s1 r1 acts k).1 = x := ⟨_, rfl⟩
      obtain ⟨L, hL⟩ : ∃ x, (actsTo s1 r1 acts k).2 = x := ⟨_, rfl⟩
      have hrr : RepAt wr p q po ov r1 := hr2.only hOr
      unfold actM at hsu
      rw [hS] at hnr hos hgk hsu
      rw [hL] at hsu
      have HLL : Hid (l.map (·.1) = L) := Lib.hid (by rw [HL.out, hL])
      have HSU := Lib.hid hsu
      have hgl := good_left hgk act
      clear hact hS hL hsu HL hlk hgk
      have c2 : wr.cell? ⟨p, 2, none⟩ = some (.int .i64 S.left) := hnr.cell 2
      have c3 : wr.cell? ⟨p, 3, none⟩ = some (.int .i64 S.tries) := hnr.cell 3
      have f2 := hnr.frozen 2
      have hcn : ac ≤ 9223372036854775807 := by unfold maxLen at hnc2; omega
      have hkn : k + 1 ≤ n := hlt
      have hpb : p < W2.heap.size := hpw2
      by_cases h5 : act = 5
      · subst h5
        have HLE : Hid (setLeft S 5 = { S with left := S.tries }) := Lib.hid (rfl)
        rw [HLE.out] at hgl
        have hos0 : ({ S with left := S.tries }).os = S.os := rfl
        have hn3 := hnr.set 2 (.int .i64 S.tries) o' { S with left := S.tries } rfl
        have hO3 := only_set wr p 2 (.int .i64 S.tries)
        obtain ⟨S', hS'⟩ : ∃ x, ({ S with left := S.tries } : NegM) = x := ⟨_, rfl⟩
        have HSS : Hid (setLeft S 5 = S') := Lib.hid (HLE.out.trans hS')
        have HSO : Hid (S'.os = S.os) := Lib.hid (by first | (rw [← hS']; done) | (rw [← hS']; exact hos0))
        rw [hS'] at hgl hn3
        clear hS' HLE hos0
        have hlo := os_lt hos (fun k hk => Nat.lt_of_lt_of_le (HOL.out k hk) (Nat.le_trans hO2.size hOr.size))
        have hsend := send_any p t q o' po ov S' 5 r1 (wr.setCell ⟨p, 2, none⟩ (.int .i64 S.tries)) hn3 hgl (hrr.only hO3) (fun k hk => Nat.lt_of_lt_of_le (hlo k hk) hO3.size)
        unfold SendPost packCells at hsend
        obtain ⟨X, hX⟩ : ∃ X, sendM S' 5 r1 = X := ⟨_, rfl⟩
        rw [hX] at hsend
        have HX := Lib.hid hX
        obtain ⟨S3, op⟩ := X
        dsimp only at hsend
        clear hX
        obtain ⟨b, hb⟩ : ∃ b, op.isSome = b := ⟨_, rfl⟩
        rw [hb] at hsend
        cases b with
        | false =>
          obtain rfl : op = none := by cases op with | none => rfl | some x => cases hb
          go_wp2_with (go_at_call 39; refine hsend.mono ?_; rintro e w3 ⟨kp, v, o3, rfl, hk', hov, hn4, hoo, hO4, hsp4⟩; obtain ⟨va, vc, rfl, hvc1, hvc2⟩ := SeqAt.form hov.at)
          have hOw : Only (· = p) W2 w3 := (hOr.trans hO3).trans hO4
          have hps3 := psep_step hps (hpk.only hO3 hpb) rfl hoo
          have hpk3 := (hpk.only hO3 hpb).only hO4 hpb
          have hos3 := os_step ((hos.only hO3 hpb).only hO4 hpb) HSO.out (hoo.imp id fun h => h.base (hOr.trans hO3).size)
          have hB3 : ∀ ob : Obj, Below w3.heap.size w3 (w3.alloc ob) := fun ob => allocB (Below.refl _ _) ob
          clear hsend hov hoo hk'
          go_roundw
          case rel =>
            refine ⟨k + 1, l, o3, hkn, by simp [go_sem], hpk3.only (Only.ofBelow (hB3 _)) hpb, Lib.hid ?_, ?_, ?_, hps3, hOw.alloc _⟩
            · rw [HSU.out, HSS.out, HX.out, HLL.out]; simp
            · rw [HSU.out, HSS.out, HX.out]; exact hn4.below (hB3 _)
            · rw [HSU.out, HSS.out, HX.out]; exact hos3.only (Only.ofBelow (hB3 _)) hpb
          case measure => simp [intOf]; omega
        | true =>
          have e := HX.out
          simp [sendM] at e
          obtain ⟨-, rfl⟩ := e
          cases hb
      by_cases h6 : act = 6
      · subst h6
        have HLE : Hid (setLeft S 6 = { S with left := 0 }) := Lib.hid (rfl)
        rw [HLE.out] at hgl
        have hos0 : ({ S with left := 0 }).os = S.os := rfl
        have hn3 := hnr.set 2 (.int .i64 0) o' { S with left := 0 } rfl
        have hO3 := only_set wr p 2 (.int .i64 0)
        obtain ⟨S', hS'⟩ : ∃ x, ({ S with left := 0 } : NegM) = x := ⟨_, rfl⟩
        have HSS : Hid (setLeft S 6 = S') := Lib.hid (HLE.out.trans hS')
        have HSO : Hid (S'.os = S.os) := Lib.hid (by first | (rw [← hS']; done) | (rw [← hS']; exact hos0))
        rw [hS'] at hgl hn3
        clear hS' HLE hos0
        have hlo := os_lt hos (fun k hk => Nat.lt_of_lt_of_le (HOL.out k hk) (Nat.le_trans hO2.size hOr.size))
        have hsend := send_any p t q o' po ov S' 6 r1 (wr.setCell ⟨p, 2, none⟩ (.int .i64 0)) hn3 hgl (hrr.only hO3) (fun k hk => Nat.lt_of_lt_of_le (hlo k hk) hO3.size)
        unfold SendPost packCells at hsend
        obtain ⟨X, hX⟩ : ∃ X, sendM S' 6 r1 = X := ⟨_, rfl⟩
        rw [hX] at hsend
        have HX := Lib.hid hX
        obtain ⟨S3, op⟩ := X
        dsimp only at hsend
        clear hX
        obtain ⟨b, hb⟩ : ∃ b, op.isSome = b := ⟨_, rfl⟩
        rw [hb] at hsend
        cases b with
        | false =>
          obtain rfl : op = none := by cases op with | none => rfl | some x => cases hb
          go_wp2_with (go_at_call 39; refine hsend.mono ?_; rintro e w3 ⟨kp, v, o3, rfl, hk', hov, hn4, hoo, hO4, hsp4⟩; obtain ⟨va, vc, rfl, hvc1, hvc2⟩ := SeqAt.form hov.at)
          have hOw : Only (· = p) W2 w3 := (hOr.trans hO3).trans hO4
          have hps3 := psep_step hps (hpk.only hO3 hpb) rfl hoo
          have hpk3 := (hpk.only hO3 hpb).only hO4 hpb
          have hos3 := os_step ((hos.only hO3 hpb).only hO4 hpb) HSO.out (hoo.imp id fun h => h.base (hOr.trans hO3).size)
          have hB3 : ∀ ob : Obj, Below w3.heap.size w3 (w3.alloc ob) := fun ob => allocB (Below.refl _ _) ob
          clear hsend hov hoo hk'
          go_roundw
          case rel =>
            refine ⟨k + 1, l, o3, hkn, by simp [go_sem], hpk3.only (Only.ofBelow (hB3 _)) hpb, Lib.hid ?_, ?_, ?_, hps3, hOw.alloc _⟩
            · rw [HSU.out, HSS.out, HX.out, HLL.out]; simp
            · rw [HSU.out, HSS.out, HX.out]; exact hn4.below (hB3 _)
            · rw [HSU.out, HSS.out, HX.out]; exact hos3.only (Only.ofBelow (hB3 _)) hpb
          case measure => simp [intOf]; omega
        | true =>
          have e := HX.out
          simp [sendM] at e
          obtain ⟨-, rfl⟩ := e
          cases hb
      · have q5 : (act == 5) = false := beq_eq_false_iff_ne.2 h5
        have q6 : (act == 6) = false := beq_eq_false_iff_ne.2 h6
        have HLE : Hid (setLeft S act = S) := Lib.hid (by unfold setLeft; rw [if_neg h5, if_neg h6])
        rw [HLE.out] at hgl
        have hos0 : (S).os = S.os := rfl
        have hn3 := hnr
        have hO3 := Only.refl (· = p) wr
        obtain ⟨S', hS'⟩ : ∃ x, (S : NegM) = x := ⟨_, rfl⟩
        have HSS : Hid (setLeft S act = S') := Lib.hid (HLE.out.trans hS')
        have HSO : Hid (S'.os = S.os) := Lib.hid (by first | (rw [← hS']; done) | (rw [← hS']; exact hos0))
        rw [hS'] at hgl hn3
        clear hS' HLE hos0
        have hlo := os_lt hos (fun k hk => Nat.lt_of_lt_of_le (HOL.out k hk) (Nat.le_trans hO2.size hOr.size))
        have hsend := send_any p t q o' po ov S' act r1 wr hn3 hgl (hrr.only hO3) (fun k hk => Nat.lt_of_lt_of_le (hlo k hk) hO3.size)
        unfold SendPost packCells at hsend
        obtain ⟨X, hX⟩ : ∃ X, sendM S' act r1 = X := ⟨_, rfl⟩
        rw [hX] at hsend
        have HX := Lib.hid hX
        obtain ⟨S3, op⟩ := X
        dsimp only at hsend
        clear hX
        obtain ⟨b, hb⟩ : ∃ b, op.isSome = b := ⟨_, rfl⟩
        rw [hb] at hsend
        cases b with
        | false =>
          obtain rfl : op = none := by cases op with | none => rfl | some x => cases hb
          go_wp2_with (go_at_call 39; refine hsend.mono ?_; rintro e w3 ⟨kp, v, o3, rfl, hk', hov, hn4, hoo, hO4, hsp4⟩; obtain ⟨va, vc, rfl, hvc1, hvc2⟩ := SeqAt.form hov.at)
          have hOw : Only (· = p) W2 w3 := (hOr.trans hO3).trans hO4
          have hps3 := psep_step hps (hpk.only hO3 hpb) rfl hoo
          have hpk3 := (hpk.only hO3 hpb).only hO4 hpb
          have hos3 := os_step ((hos.only hO3 hpb).only hO4 hpb) HSO.out (hoo.imp id fun h => h.base (hOr.trans hO3).size)
          have hB3 : ∀ ob : Obj, Below w3.heap.size w3 (w3.alloc ob) := fun ob => allocB (Below.refl _ _) ob
          clear hsend hov hoo hk'
          go_roundw
          case rel =>
            refine ⟨k + 1, l, o3, hkn, by simp [go_sem], hpk3.only (Only.ofBelow (hB3 _)) hpb, Lib.hid ?_, ?_, ?_, hps3, hOw.alloc _⟩
            · rw [HSU.out, HSS.out, HX.out, HLL.out]; simp
            · rw [HSU.out, HSS.out, HX.out]; exact hn4.below (hB3 _)
            · rw [HSU.out, HSS.out, HX.out]; exact hos3.only (Only.ofBelow (hB3 _)) hpb
          case measure => simp [intOf]; omega
        | true =>
          obtain ⟨kx, rfl⟩ : ∃ x, op = some x := by cases op with | none => cases hb | some x => exact ⟨x, rfl⟩
          have hB3 : ∀ (w3 : World) (ob : Obj), Below w3.heap.size w3 (w3.alloc ob) := fun w3 ob => allocB (Below.refl _ _) ob
          have hlen : (l.length + 1) * 56 ≤ 140737488355328 := by omega
          go_wp2_with (first
            | (go_at_call 39; refine hsend.mono ?_; rintro e w3 ⟨kp, v, o3, rfl, hk', hov, hn4, hoo, hO4, hsp4⟩; obtain ⟨va, vc, rfl, hvc1, hvc2⟩ := SeqAt.form hov.at; have hkk := hk' kx rfl; clear hk'; subst hkk)
            | (at_builtin; go_loud (refine wpList_appP rfl _ _ rfl W2.heap.size (Nat.le_trans (hOr.trans hO4).size (hB3 _ _).size) (.slice oa l.length oc) l kp va vc _ (((hpk.only hO4 hpb).1).below (hB3 _ _)) rfl _ rfl (by simp) hlen ?_); intro v' w5 hv5 ho5 hat5))
          have hOw : Only (· = p) W2 w3 := hOr.trans hO4
          have hpk3 := (hpk.only hO4 hpb).only (Only.ofBelow (hB3 w3 (.cells #[.int .i64 kp.code, .int .i64 kp.id, .slice va kp.opts.length vc, .string kp.data] 36))) hpb
          have hos3 := (os_step (hos.only hO4 hpb) HSO.out (hoo.imp id fun h => h.base hOr.size)).only (Only.ofBelow (hB3 w3 (.cells #[.int .i64 kp.code, .int .i64 kp.id, .slice va kp.opts.length vc, .string kp.data] 36))) hpb
          have hx3 : OwnE optE _ W2.heap.size (slOf (kp, va, vc)) kp.opts := (hov.base hOr.size).below (hB3 w3 (.cells #[.int .i64 kp.code, .int .i64 kp.id, .slice va kp.opts.length vc, .string kp.data] 36))
          have hn5 := ho5.heap (hn4.below (hB3 w3 _)) (fun e => by have := hpk.1.block p e; omega)
          have hps3 := (psep_step hps (hpk.only hO3 hpb) rfl hoo).snoc (x := (kp, va, vc)) hsp4
          have hpk5 := packs_more hpk3 hx3 hv5 ho5
          have hos5 := hos3.apart hpk3.1 ho5
          have hO5 : Only (· = p) W2 w5 := (hOw.alloc _).and ho5 (fun i hi => .inr (hpk.1.block i hi))
          clear hsend hov hoo hpk3 hos3 hx3 hn4
          go_roundw
          case rel =>
            refine ⟨k + 1, l ++ [(kp, va, vc)], o3, hkn, by simp [go_sem], hpk5, Lib.hid ?_, ?_, ?_, hps3, hO5⟩
            · rw [HSU.out, HSS.out, HX.out, List.map_append, HLL.out]; rfl
            · rw [HSU.out, HSS.out, HX.out]; exact hn5
            · rw [HSU.out, HSS.out, HX.out]; exact hos5
          case measure => simp [intOf]; omega

    · obtain rfl : k = n := by omega
      have hpk9 : PacksOwn wr w.heap.size (.slice oa l.length oc) l := ⟨hpk.1.base hsz, fun x hx => (hpk.2 x hx).base hsz⟩
      have hos9 : OsKept wr w.heap.size o o' s (actsTo s1 r1 acts k).1 := hos.imp id fun h => h.base hsz
      have hO9 : Only (fun b => b = p ∨ b = q) w wr := hO2.trans (hOr.mono fun _ _ h => .inl h)
      clear hpk hos hOr hO2 hr2 hn2
      go_wp2_with fail
      go_ret2
      rw [HA.out]
      exact ⟨_, l, o', rfl, hpk9, HL.out, hnr, ⟨hos9, hps⟩, hO9⟩
end Go.Proofs.YtagnbdenecphcaaGreatDoor
/-! neg.Do. -/
namespace Go.Proofs.YtagnbdenecphcaaGreatDoor
open Go.RowKit
set_option linter.unusedVariables false
set_option linter.unusedSimpArgs false
/-- a side in memory -/
structure Side (w : World) (p t : Nat) (o : Value) (s : NegM) : Prop where
  blk : NegBlk w p t o s
  tab : TableAt w t
  os : OptsAt w o s.os
  tp : t ≠ p
  op : ∀ k, o.ownBlock = some k → k ≠ p
  good : GoodM s
  mlp : p ≠ 0
theorem Side.only {S : Nat → Prop} {w w' : World} {p t : Nat} {o : Value} {s : NegM} (h : Side w p t o s) (ho : Only S w w') (hp : ¬ S p) (ht : ¬ S t) (hn : ∀ k, o.ownBlock = some k → ¬ S k) : Side w' p t o s :=
  ⟨h.blk |> fun b => ho.heap b hp, fun v s hv hs => ho.cell (h.tab v s hv hs) ht, SeqAt.only h.os ho hn, h.tp, h.op, h.good, h.mlp⟩
theorem Side.below {w w' : World} {p t : Nat} {o : Value} {s : NegM} (h : Side w p t o s) (hb : Below w.heap.size w w') : Side w' p t o s :=
  h.only (S := fun _ => False) (Only.ofBelow hb) id id fun _ _ h => h
theorem maxLen_only {S : Nat → Prop} {w w' : World} {ml : Int} (h : MaxLenIs w ml) (ho : Only S w w') (hn : ¬ S 0) : MaxLenIs w' ml := ho.cell h hn
theorem ndo_any (p t q : Nat) (o po ov : Value) (s : NegM) (ev ml : Int) (r : ReplyM) (w : World) (h : NegBlk w p t o s) (hg : GoodM s) (ht : TableAt w t) (hm : MaxLenIs w ml) (hr : RepAt w p q po ov r) (hpt : po.ownBlock ≠ some q ∧ ov.ownBlock ≠ some q) (hol : ∀ k, o.ownBlock = some k → k < w.heap.size) :
    Calls Tryz.prog 23 #[.pointer (some ⟨p, 0, none⟩), .int .i64 ev, .pointer (some ⟨q, 0, none⟩)] w fun e w' => ∃ v l o', e = .returned (.tuple #[v, .int .i64 (runM s ev r).2.2]) ∧ PacksOwn w' w.heap.size v l ∧ l.map (·.1) = (runM s ev r).2.1 ∧ NegBlk w' p t o' (runM s ev r).1 ∧ (OsKept w' w.heap.size o o' s (runM s ev r).1 ∧ PSep o' l) ∧ Only (fun k => k = p ∨ k = q) w w' := by
  by_cases he : (stepSays s.state ev).2.2 = 0
  · have e : (runM s ev r).2.2 = 0 := by unfold runM; rw [if_neg (by omega)]
    rw [e]
    exact ndo_good p t q o po ov s ev ml r w h hg ht hm hr hpt he hol
  · have e : runM s ev r = (s, [], 1501) := by unfold runM; rw [if_pos he]
    rw [e]
    refine (ndo_bad p t q o s ev ml w h ht hm he).mono ?_
    rintro e w' ⟨rfl, hb⟩
    exact ⟨.slice none 0 0, [], o, rfl, ⟨OwnE.nil _ _ _, fun x hx => absurd hx (by simp)⟩, rfl, h.below hb, ⟨.inl ⟨rfl, rfl⟩, PSep.nil _⟩, Only.ofBelow hb⟩
theorem reply_zero (w : World) : ReplyBlk (w.alloc (.cells #[.int .i64 0, .int .i64 0, .slice none 0 0, .string ⟨#[]⟩, .int .i64 0, .int .i64 0, .slice none 0 0] 65)) w.heap.size (.slice none 0 0) (.slice none 0 0) replyZ := heap_alloc_last _ _
/-- what Do and Take leave -/
def ActPost (p t : Nat) (o : Value) (s : NegM) (X : NegM × List PacketM × Int) (ml : Int) (w : World) (e : Ending) (w' : World) : Prop :=
  ∃ v l o', e = .returned (.tuple #[v, .int .i64 X.2.2]) ∧ PacksOwn w' w.heap.size v l ∧ l.map (·.1) = X.2.1 ∧ Side w' p t o' X.1 ∧ (OsKept w' w.heap.size o o' s X.1 ∧ PSep o' l) ∧ Only (· = p) w w' ∧ MaxLenIs w' ml
theorem ActPost.stay {p t : Nat} {o : Value} {s : NegM} {e ml : Int} {w w' : World} (h : Side w p t o s) (hm : MaxLenIs w ml) (hb : Below w.heap.size w w') : ActPost p t o s (s, [], e) ml w (.returned (.tuple #[.slice none 0 0, .int .i64 e])) w' :=
  ⟨.slice none 0 0, [], o, rfl, ⟨OwnE.nil _ _ _, fun x hx => absurd hx (by simp)⟩, rfl, h.below hb, ⟨.inl ⟨rfl, rfl⟩, PSep.nil _⟩, Only.ofBelow hb, hm.below hb⟩
/-- a run's end, seen from where the call began -/
theorem run_side {p t q : Nat} {o o' : Value} {s S X : NegM} {ml : Int} {w w1 w' : World} {v : Value} {l : List PackV} (h : Side w p t o s) (hm : MaxLenIs w ml) (h1 : Only (· = p) w w1) (hq : w.heap.size ≤ q) (hn : NegBlk w' p t o' X) (hg : GoodM X) (hk : OsKept w' w1.heap.size o o' S X) (hS : S.os = s.os) (ho : Only (fun k => k = p ∨ k = q) w1 w') (hl : PacksOwn w' w1.heap.size v l) :
    PacksOwn w' w.heap.size v l ∧ Side w' p t o' X ∧ OsKept w' w.heap.size o o' s X ∧ Only (· = p) w w' ∧ MaxLenIs w' ml := by
  have hO : Only (· = p) w w' := h1.and ho (fun i hi => hi.imp id fun e => by omega)
  have hK : OsKept w' w.heap.size o o' s X := by
    rcases hk with ⟨e1, e2⟩ | hk
    · exact .inl ⟨e1, e2.trans hS⟩
    · exact .inr (hk.base h1.size)
  refine ⟨⟨hl.1.base h1.size, fun x hx => (hl.2 x hx).base h1.size⟩, ⟨hn, fun v s hv hs => hO.cell (h.tab v s hv hs) h.tp, ?_, h.tp, ?_, hg, h.mlp⟩, hK, hO, maxLen_only hm hO fun e => h.mlp e.symm⟩
  · rcases hK with ⟨rfl, e⟩ | hk
    · rw [e]; exact SeqAt.only h.os hO h.op
    · exact hk.at
  · rcases hK with ⟨rfl, e⟩ | hk
    · exact h.op
    · intro k hkk e
      have := hk.block k hkk
      have := h.blk.lt
      omega
set_option maxRecDepth 100000 in
set_option maxHeartbeats 8000000 in
theorem nDo_run (p t : Nat) (o : Value) (s : NegM) (ev e2 ml : Int) (w : World) (h : Side w p t o s) (hm : MaxLenIs w ml) (he : (ev = 0 ∧ e2 = 0) ∨ (ev = 1 ∧ e2 = 1) ∨ (ev = 2 ∧ e2 = 2) ∨ (ev = 3 ∧ e2 = 3) ∨ (ev = 4 ∧ e2 = 5 ∧ s.left = 0) ∨ (ev = 4 ∧ e2 = 4 ∧ s.left ≠ 0)) :
    Calls Tryz.prog 8 #[.pointer (some ⟨p, 0, none⟩), .int .i64 ev] w (ActPost p t o s (runM s e2 replyZ) ml w) := by
  have hB : Below w.heap.size w (w.alloc (.cells #[.int .i64 0, .int .i64 0, .slice none 0 0, .string ⟨#[]⟩, .int .i64 0, .int .i64 0, .slice none 0 0] 65)) := allocB (Below.refl _ _) _
  have hpl := h.blk.lt
  have hdo := ndo_any p t w.heap.size o (.slice none 0 0) (.slice none 0 0) s e2 ml replyZ _ (h.blk.below hB) h.good (h.below hB).tab (hm.below hB) ⟨reply_zero w, SeqAt.nil _ _, SeqAt.nil _ _, by decide, by omega, fun k hk => (by cases hk), fun k hk => (by cases hk), by decide⟩ ⟨(fun e => by cases e), (fun e => by cases e)⟩ (fun k hk => Nat.lt_of_lt_of_le (h.os.lt k hk) hB.size)
  have c2 : w.cell? ⟨p, 2, none⟩ = some (.int .i64 s.left) := h.blk.cell 2
  have HS := Lib.hid h
  have HM := Lib.hid hm
  have HG := Lib.hid (good_run h.good e2 replyZ)
  obtain ⟨lf, hlf⟩ : ∃ x, s.left = x := ⟨_, rfl⟩
  rw [hlf] at c2 he
  clear h hm hlf
  obtain ⟨X, hX⟩ : ∃ X, runM s e2 replyZ = X := ⟨_, rfl⟩
  rw [hX] at hdo HG ⊢
  clear hX
  have fin : ∀ (e : Ending) (w' : World), (∃ v l o', e = .returned (.tuple #[v, .int .i64 X.2.2]) ∧ PacksOwn w' (w.alloc (.cells #[.int .i64 0, .int .i64 0, .slice none 0 0, .string ⟨#[]⟩, .int .i64 0, .int .i64 0, .slice none 0 0] 65)).heap.size v l ∧ l.map (·.1) = X.2.1 ∧ NegBlk w' p t o' X.1 ∧ (OsKept w' (w.alloc (.cells #[.int .i64 0, .int .i64 0, .slice none 0 0, .string ⟨#[]⟩, .int .i64 0, .int .i64 0, .slice none 0 0] 65)).heap.size o o' s X.1 ∧ PSep o' l) ∧ Only (fun k => k = p ∨ k = w.heap.size) (w.alloc (.cells #[.int .i64 0, .int .i64 0, .slice none 0 0, .string ⟨#[]⟩, .int .i64 0, .int .i64 0, .slice none 0 0] 65)) w') → ActPost p t o s X ml w e w' := by
    rintro e w' ⟨v, l, o', rfl, hl, hmap, hn, ⟨hk, hps⟩, ho⟩
    obtain ⟨k1, k2, k3, k4, k5⟩ := run_side HS.out HM.out (Only.ofBelow hB) (Nat.le_refl _) hn HG.out hk rfl ho hl
    exact ⟨v, l, o', rfl, k1, hmap, k2, ⟨k3, hps⟩, k4, k5⟩
  have HF := Lib.hid fin
  clear fin hB
  rcases he with ⟨rfl, rfl⟩ | ⟨rfl, rfl⟩ | ⟨rfl, rfl⟩ | ⟨rfl, rfl⟩ | ⟨rfl, rfl, rfl⟩ | ⟨rfl, rfl, hl0⟩
  case inr.inr.inr.inr.inr =>
    have q0 : (lf == 0) = false := beq_eq_false_iff_ne.2 hl0
    go_enter Tryz.func8, Tryz.ntmps8
    go_wp2_with fail
    refine hdo.mono ?_
    rintro e w1 ⟨v, l, o', rfl, hrest⟩
    have hf := HF.out _ _ ⟨v, l, o', rfl, hrest⟩
    clear hdo hrest
    go_wp2_with fail
    go_ret2
    exact hf
  all_goals
    go_enter Tryz.func8, Tryz.ntmps8
    go_wp2_with fail
    refine hdo.mono ?_
    rintro e w1 ⟨v, l, o', rfl, hrest⟩
    have hf := HF.out _ _ ⟨v, l, o', rfl, hrest⟩
    clear hdo hrest
    go_wp2_with fail
    go_ret2
    exact hf
set_option maxRecDepth 100000 in
theorem nDo_form (p : Nat) (ev : Int) (w : World) (he : ¬ (ev = 0 ∨ ev = 1 ∨ ev = 2 ∨ ev = 3) ∧ ev ≠ 4) :
    Calls Tryz.prog 8 #[.pointer (some ⟨p, 0, none⟩), .int .i64 ev] w fun e w' => e = .returned (.tuple #[.slice none 0 0, .int .i64 1500]) ∧ w' = w := by
  have q0 : (ev == 0) = false := beq_eq_false_iff_ne.2 (by omega)
  have q1 : (ev == 1) = false := beq_eq_false_iff_ne.2 (by omega)
  have q2 : (ev == 2) = false := beq_eq_false_iff_ne.2 (by omega)
  have q3 : (ev == 3) = false := beq_eq_false_iff_ne.2 (by omega)
  have q4 : (ev == 4) = false := beq_eq_false_iff_ne.2 (by omega)
  go_enter Tryz.func8, Tryz.ntmps8
  go_wp2_with fail
  go_ret2
  exact ⟨rfl, rfl⟩
theorem nDo_any (p t : Nat) (o : Value) (s : NegM) (ev ml : Int) (w : World) (h : Side w p t o s) (hm : MaxLenIs w ml) :
    Calls Tryz.prog 8 #[.pointer (some ⟨p, 0, none⟩), .int .i64 ev] w (ActPost p t o s (doM s ev) ml w) := by
  unfold doM
  by_cases h1 : ev = 0 ∨ ev = 1 ∨ ev = 2 ∨ ev = 3
  · rw [if_pos h1]
    exact nDo_run p t o s ev ev ml w h hm (by omega)
  rw [if_neg h1]
  by_cases h4 : ev = 4
  · rw [if_pos h4]
    by_cases hl : s.left = 0
    · rw [if_pos hl]
      exact nDo_run p t o s ev 5 ml w h hm (by omega)
    · rw [if_neg hl]
      exact nDo_run p t o s ev 4 ml w h hm (by omega)
  · rw [if_neg h4]
    refine (nDo_form p ev w ⟨h1, h4⟩).mono ?_
    rintro e w' ⟨rfl, rfl⟩
    exact ActPost.stay h hm (Below.refl _ _)
end Go.Proofs.YtagnbdenecphcaaGreatDoor
