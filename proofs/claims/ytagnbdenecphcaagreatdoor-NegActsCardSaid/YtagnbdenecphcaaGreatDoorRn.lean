/- The reference: run, a step that is good. -/
import Derived.Test.YtagnbdenecphcaaGreatDoorRm
namespace Go.Proofs.YtagnbdenecphcaaGreatDoor
open Go.RowKit
set_option linter.unusedVariables false
set_option linter.unusedSimpArgs false
set_option maxRecDepth 100000 in
set_option maxHeartbeats 4000000 in
theorem rrun_bad (p : Nat) (av po ov : Value) (s : NegM) (ev : Int) (r : ReplyM) (w : World) (h : RNegAt w p av s) (he : (stepSays s.state ev).2.2 ≠ 0) :
    Calls Tryz.prog 24 #[.pointer (some ⟨p, 0, none⟩), .int .i64 ev, .agg (packCells r.p po), .int .i64 r.verdict, ov] w fun e w' => e = .returned (.tuple #[.slice none 0 0, .int .i64 1501]) ∧ Below w.heap.size w w' := by
  have hst := fun W => rstep_any s.state ev W
  have c0 : w.cell? ⟨p, 0, none⟩ = some (.int .i64 s.state) := h.cell 0
  have hbx := allocB (Below.refl w.heap.size w) (.cells #[.int .i64 r.p.code, .int .i64 r.p.id, po, .string r.p.data] 36)
  have c0' := fsm_below_cell hbx c0
  have heb := bne_iff_ne.2 he
  obtain ⟨X, hX⟩ : ∃ X, stepSays s.state ev = X := ⟨_, rfl⟩
  rw [hX] at hst heb
  obtain ⟨X0, X1, X2⟩ := X
  dsimp only at hst heb
  unfold packCells
  clear h he hX c0
  go_enter Tryz.func24, Tryz.ntmps24
  go_wp2_with fail
  refine (hst _).mono ?_
  rintro e w1 ⟨o, rfl, ho, hb1⟩
  have hbw := seqB hbx hb1
  clear hst hbx hb1 c0' ho
  go_wp2_with fail
  go_ret2
  exact ⟨rfl, hbw⟩
set_option maxRecDepth 100000 in
set_option maxHeartbeats 16000000 in
theorem rrun_good (p : Nat) (av po ov : Value) (s : NegM) (ev : Int) (r : ReplyM) (w : World) (h : RNegAt w p av s) (hg : GoodM s) (hev : r.event = ev)
    (hpo : OptsIn w po r.p.opts) (hov : OptsIn w ov r.os) (hpp : r.p.opts ≠ [] → ∀ k, po.ownBlock = some k → k ≠ p) (hop : r.os ≠ [] → ∀ k, ov.ownBlock = some k → k ≠ p)
    (hsz : r.p.data.size ≤ 4611686018427387904) (hz : ∀ o ∈ r.p.opts, o.2.size ≤ 140737488351232) (hac8 : 8 ∈ (stepSays s.state ev).2.1 → r.p.opts = r.os) (he : (stepSays s.state ev).2.2 = 0) :
    Calls Tryz.prog 24 #[.pointer (some ⟨p, 0, none⟩), .int .i64 ev, .agg (packCells r.p po), .int .i64 r.verdict, ov] w (RRunPost p av s (runM s ev r) w) := by
  have hst := fun W => rstep_any s.state ev W
  have hst5 := step_state he
  have hsl := step_len he
  have hrun : runM s ev r = ({ (actsTo s r (stepSays s.state ev).2.1 (stepSays s.state ev).2.1.length).1 with state := (stepSays s.state ev).1 }, (actsTo s r (stepSays s.state ev).2.1 (stepSays s.state ev).2.1.length).2, 0) := by
    unfold runM
    rw [if_neg (by omega), show ({ r with event := ev } : ReplyM) = r from by rw [← hev]]
    unfold actsM
    rw [acts_state, actsTo_all]
    rfl
  rw [hrun]
  clear hrun
  dsimp only
  have hpl := h.lt
  have c0 : w.cell? ⟨p, 0, none⟩ = some (.int .i64 s.state) := h.cell 0
  have hbx := allocB (Below.refl w.heap.size w) (.cells #[.int .i64 r.p.code, .int .i64 r.p.id, po, .string r.p.data] 36)
  have hhx := heap_alloc_last w (.cells #[.int .i64 r.p.code, .int .i64 r.p.id, po, .string r.p.data] 36)
  have hn0 := h.below hbx
  replace hpo := hpo.below hbx
  replace hov := hov.below hbx
  have c0' := fsm_below_cell hbx c0
  obtain ⟨acts, hac⟩ : ∃ x, (stepSays s.state ev).2.1 = x := ⟨_, rfl⟩
  obtain ⟨nx, hto⟩ : ∃ x, (stepSays s.state ev).1 = x := ⟨_, rfl⟩
  rw [hac] at hst hsl hac8 ⊢
  rw [hto] at hst hst5 ⊢
  rw [he] at hst
  obtain ⟨pa, pc, rfl, hpc1, hpc2⟩ := hpo.form
  obtain ⟨oa0, oc0, rfl, hoc01, hoc02⟩ := hov.form
  have HAC := Lib.hid hac
  clear hac hto he h c0
  unfold packCells
  go_enter Tryz.func24, Tryz.ntmps24
  go_wp2_with fail
  obtain ⟨W0, hW0⟩ : ∃ W0, w.alloc (.cells #[.int .i64 r.p.code, .int .i64 r.p.id, .slice pa r.p.opts.length pc, .string r.p.data] 36) = W0 := ⟨_, rfl⟩
  rw [hW0] at hbx hhx hn0 hpo hov c0' ⊢
  clear hW0
  refine (hst _).mono ?_
  rintro e W2 ⟨va, rfl, hoI, hb1⟩
  clear hst c0'
  have hn2 := hn0.below hb1
  have hh2 : W2.heap[w.heap.size]? = some (.cells (packCells r.p (.slice pa r.p.opts.length pc)) 36 (0, 0)) := below_of hb1 hhx
  have hpo2 := hpo.below hb1
  have hov2 := hov.below hb1
  have hO2 : Only (· = p) w W2 := (Only.ofBelow hbx).trans (Only.ofBelow hb1)
  have hbs : w.heap.size ≤ W0.heap.size := hbx.size
  have hbs2 : w.heap.size < W2.heap.size := (Array.getElem?_eq_some_iff.1 hh2).1
  obtain ⟨aa, ac, rfl⟩ := OwnI.form hoI
  have hpk2 : OptsKept W2 W2.heap.size p (.slice pa r.p.opts.length pc) r.p.opts := .inl ⟨hpo2, fun hne k hk => ⟨SeqAt.lt (hpo2.at hne) k hk, hpp hne k hk⟩⟩
  have hok2 : OptsKept W2 W2.heap.size p (.slice oa0 r.os.length oc0) r.os := .inl ⟨hov2, fun hne k hk => ⟨SeqAt.lt (hov2.at hne) k hk, hop hne k hk⟩⟩
  clear hpo hov hpo2 hov2 hbx hhx hb1 hn0 hpp hop
  obtain ⟨n, hn⟩ : ∃ n, acts.length = n := ⟨_, rfl⟩
  have HN := Lib.hid hn
  have HI := Lib.hid hoI
  have HG := Lib.hid hg
  have HZ := Lib.hid hz
  have HA8 := Lib.hid hac8
  have HEV := Lib.hid hev
  rw [hn] at hsl ⊢
  clear hn hoI hg hz hac8 hev
  go_wp2_with fail
  go_loopw [15, 16] (fun out i wr => ∃ (k : Nat) (l : List PackV) (av' : Value), k ≤ n ∧ i = .int .i64 k ∧ RPacks wr W2.heap.size p out l ∧ Hid (l.map (·.1) = (actsTo s r acts k).2) ∧ RNegAt wr p av' (actsTo s r acts k).1 ∧ OsKept wr W2.heap.size av av' s (actsTo s r acts k).1 ∧ Only (· = p) W2 wr) (fun _ i _ => n - (intOf i).toNat)
  case atStart => exact ⟨0, [], av, Nat.zero_le _, rfl, ⟨OwnE.nil _ _ _, fun x hx => absurd hx (by simp)⟩, Lib.hid rfl, hn2, .inl ⟨rfl, rfl⟩, Only.refl _ _⟩
  case round =>
    obtain ⟨k, l, av', hk, rfl, hpk, HL, hnr, hos, hOr⟩ := hrel
    obtain ⟨oa, oc, rfl, hoc1, hoc2⟩ := SeqAt.form hpk.1.at
    by_cases hlt : k < n
    · have hkl : k < acts.length := by rw [HN.out]; exact hlt
      obtain ⟨g, rfl, hgw, d1, hnc, hnc1, hnc2⟩ := OwnI.cellOf HI.out k hkl
      have hgp : g ≠ p := by omega
      have hpw2 : p < W2.heap.size := by omega
      replace d1 := hOr.cell (a := ⟨g, k, none⟩) d1 hgp
      have hsu := actsTo_succ s r acts k hkl
      have hgk := actsTo_good HG.out r acts k
      have hlk := actsTo_len s r acts k (by omega)
      have hll : l.length ≤ k := by rw [← List.length_map (f := (·.1)), HL.out]; exact hlk
      have hmem : acts[k] ∈ acts := List.getElem_mem hkl
      obtain ⟨act, hact⟩ : ∃ x, acts[k] = x := ⟨_, rfl⟩
      rw [hact] at d1 hsu hmem
      obtain ⟨S, hS⟩ : ∃ x, (actsTo s r acts k).1 = x := ⟨_, rfl⟩
      obtain ⟨L, hL⟩ : ∃ x, (actsTo s r acts k).2 = x := ⟨_, rfl⟩
      obtain ⟨Y, hY⟩ : ∃ x, actsTo s r acts k = x := ⟨_, rfl⟩
      rw [hS] at hnr hos hgk
      have HLL : Hid (l.map (·.1) = L) := Lib.hid (by rw [HL.out, hL])
      have hSU : actsTo s r acts (k + 1) = ((sendM (setLeft S act) act r).1, L ++ (sendM (setLeft S act) act r).2.toList) := by
        rw [hsu]; unfold actM; rw [hS, hL]
      clear hact hS hL hY hsu HL hlk
      have hql : w.heap.size ≠ p := by omega
      have hhr : wr.heap[w.heap.size]? = some (.cells (packCells r.p (.slice pa r.p.opts.length pc)) 36 (0, 0)) := hOr.heap hh2 hql
      obtain ⟨b0, b1, b2, b3⟩ := packet_cell hhr
      have hpkr := hpk2.only hOr hpw2
      have hokr := hok2.only hOr hpw2
      obtain ⟨a0, a13, a14, a15, a16, a17⟩ := hnr.rest
      have f13 := hnr.frozen 13
      have f16 := hnr.frozen 16
      have f17 := hnr.frozen 17
      have hcn : ac ≤ 9223372036854775807 := by unfold maxLen at hnc2; omega
      have hkn : k + 1 ≤ n := hlt
      have hlen : (l.length + 1) * 56 ≤ 140737488355328 := by omega
      by_cases h5 : act = 5
      · subst h5
        have HSU : Hid (actsTo s r acts (k + 1) = ({ S with left := S.tries }, L)) := Lib.hid (by rw [hSU]; exact congrArg (Prod.mk _) (List.append_nil L))
        clear hSU
        have hn3 := hnr.set 13 (.int .i64 S.tries) av' { S with left := S.tries } rfl
        have hO3 := only_set wr p 13 (.int .i64 S.tries)
        have hpk3 := hpk.only hO3 hpw2
        have hos3 := OsKept.only (s' := { S with left := S.tries }) hos hO3 hpw2
        have hO4 := hOr.trans hO3
        go_wp2_with fail
        go_roundw
        case rel => exact ⟨k + 1, l, av', hkn, by simp [go_sem], hpk3, Lib.hid (by rw [HSU.out, HLL.out]), by rw [HSU.out]; exact hn3, by rw [HSU.out]; exact hos3, hO4⟩
        case measure => simp [intOf]; omega
      by_cases h6 : act = 6
      · subst h6
        have HSU : Hid (actsTo s r acts (k + 1) = ({ S with left := 0 }, L)) := Lib.hid (by rw [hSU]; exact congrArg (Prod.mk _) (List.append_nil L))
        clear hSU
        have hn3 := hnr.set 13 (.int .i64 0) av' { S with left := 0 } rfl
        have hO3 := only_set wr p 13 (.int .i64 0)
        have hpk3 := hpk.only hO3 hpw2
        have hos3 := OsKept.only (s' := { S with left := 0 }) hos hO3 hpw2
        have hO4 := hOr.trans hO3
        go_wp2_with fail
        go_roundw
        case rel => exact ⟨k + 1, l, av', hkn, by simp [go_sem], hpk3, Lib.hid (by rw [HSU.out, HLL.out]), by rw [HSU.out]; exact hn3, by rw [HSU.out]; exact hos3, hO4⟩
        case measure => simp [intOf]; omega
      by_cases h7 : act = 7
      · subst h7
        have HSU : Hid (actsTo s r acts (k + 1) = (reqM S, L ++ [⟨1, (S.id + 1) % 256, askM S.own, ⟨#[]⟩⟩])) := Lib.hid hSU
        clear hSU
        have hask := fun W => rask_any S.own W hgk.may
        simp only [linkCells_eq] at hask
        go_wp2_with fail
        refine (rless_any p av' S wr hnr hgk.left).mono ?_
        rintro e w3 ⟨rfl, hn3, ho3⟩
        obtain ⟨c1, c2, c3, c4, c5, c6⟩ := hn3.owns
        go_wp2_with fail
        refine (hask _).mono ?_
        rintro e w4 ⟨o, rfl, hown4, hb4⟩
        obtain ⟨va, vc, rfl, hvc1, hvc2⟩ := SeqAt.form hown4.at
        have hn4 := hn3.below hb4
        have hO4 : Only (· = p) W2 w4 := (hOr.trans ho3).trans (Only.ofBelow hb4)
        have hpk4 := (hpk.only ho3 hpw2).only (Only.ofBelow hb4) hpw2
        have e17 : w4.cell? ⟨p, 17, none⟩ = some av' := hn4.cell 17
        have g17 := hn4.frozen 17
        have hn5 := hn4.set 17 (.slice va (askM S.own).length vc) (.slice va (askM S.own).length vc) { countM S with os := askM S.own } rfl
        have hO5 := only_set w4 p 17 (.slice va (askM S.own).length vc)
        have hown5 : OwnE optE (w4.setCell ⟨p, 17, none⟩ (.slice va (askM S.own).length vc)) W2.heap.size (.slice va (askM S.own).length vc) (askM S.own) := (hown4.base (hOr.trans ho3).size).strip hO5 hpw2
        have hpk5 := hpk4.only hO5 hpw2
        replace hO5 := hO4.trans hO5
        clear hask hn4 hown4 hb4 hO4 hpk4 c1 c2 c3 c4 c5 c6 ho3 hn3
        go_wp2_with fail
        have hnx : Calls Tryz.prog 43 #[.pointer (some ⟨p, 0, none⟩)] (w4.setCell ⟨p, 17, none⟩ (.slice va (askM S.own).length vc)) fun e w' => e = .returned (.int .i64 ((S.id + 1) % 256)) ∧ RNegAt w' p (.slice va (askM S.own).length vc) { countM S with os := askM S.own, id := (S.id + 1) % 256 } ∧ Only (· = p) (w4.setCell ⟨p, 17, none⟩ (.slice va (askM S.own).length vc)) w' := rnext_any p _ _ _ hn5 hgk.id
        refine hnx.mono ?_
        rintro e w6 ⟨rfl, hn6, ho6⟩
        have e16 : w6.cell? ⟨p, 16, none⟩ = some (.int .i64 S.asked) := hn6.cell 16
        have g16 := hn6.frozen 16
        have hn7 := hn6.set 16 (.int .i64 ((S.id + 1) % 256)) (.slice va (askM S.own).length vc) (reqM S) rfl
        have hO7 := only_set w6 p 16 (.int .i64 ((S.id + 1) % 256))
        have e167 : (w6.setCell ⟨p, 16, none⟩ (.int .i64 ((S.id + 1) % 256))).cell? ⟨p, 16, none⟩ = some (.int .i64 ((S.id + 1) % 256)) := hn7.cell 16
        have hown7 := (hown5.strip ho6 hpw2).strip hO7 hpw2
        have hpk7 := (hpk5.only ho6 hpw2).only hO7 hpw2
        replace hO7 := (hO5.trans ho6).trans hO7
        have hos7 : OsKept (w6.setCell ⟨p, 16, none⟩ (.int .i64 ((S.id + 1) % 256))) W2.heap.size av (.slice va (askM S.own).length vc) s (reqM S) := .inr hown7
        clear hnx hn5 hown5 hpk5 hO5 hn6 ho6
        go_wp2_with (at_builtin; go_loud (refine wpList_appP rfl _ _ rfl W2.heap.size hO7.size (.slice oa l.length oc) l ⟨1, (S.id + 1) % 256, askM S.own, ⟨#[]⟩⟩ va vc _ hpk7.1 rfl _ rfl (by simp) hlen ?_); intro v' w5 hv5 ho5 hat5)
        have hn5 := RNegAt.only hn7 ho5 (fun e => by have := hpk7.1.block p e; omega)
        have hos5 := OsKept.apart hos7 hpk7.1 ho5
        have hpk5 := hpk7.more (x := (⟨1, (S.id + 1) % 256, askM S.own, ⟨#[]⟩⟩, va, vc)) (.inr hown7) hv5 ho5
        have hO5 : Only (· = p) W2 w5 := hO7.and ho5 (fun i hi => .inr (hpk7.1.block i hi))
        go_roundw
        case rel => exact ⟨k + 1, l ++ [(⟨1, (S.id + 1) % 256, askM S.own, ⟨#[]⟩⟩, va, vc)], _, hkn, by simp [go_sem], hpk5, Lib.hid (by rw [HSU.out, List.map_append, HLL.out]; rfl), by rw [HSU.out]; exact hn5, by rw [HSU.out]; exact hos5, hO5⟩
        case measure => simp [intOf]; omega
      by_cases h10 : act = 10
      · subst h10
        have HSU : Hid (actsTo s r acts (k + 1) = (nextM (countM S), L ++ [⟨5, (S.id + 1) % 256, [], ⟨#[]⟩⟩])) := Lib.hid hSU
        clear hSU
        go_wp2_with fail
        refine (rless_any p av' S wr hnr hgk.left).mono ?_
        rintro e w3 ⟨rfl, hn3, ho3⟩
        go_wp2_with fail
        have hnx : Calls Tryz.prog 43 #[.pointer (some ⟨p, 0, none⟩)] w3 fun e w' => e = .returned (.int .i64 ((S.id + 1) % 256)) ∧ RNegAt w' p av' (nextM (countM S)) ∧ Only (· = p) w3 w' := rnext_any p _ _ _ hn3 hgk.id
        refine hnx.mono ?_
        rintro e w4 ⟨rfl, hn4, ho4⟩
        have hO4 := (hOr.trans ho3).trans ho4
        have hpk4 := (hpk.only ho3 hpw2).only ho4 hpw2
        have hos4 := OsKept.only (s' := nextM (countM S)) (OsKept.only (s' := nextM (countM S)) hos ho3 hpw2) ho4 hpw2
        clear hnx hn3 ho3 ho4
        go_wp2_with (at_builtin; go_loud (refine wpList_appP rfl _ _ rfl W2.heap.size hO4.size (.slice oa l.length oc) l ⟨5, (S.id + 1) % 256, [], ⟨#[]⟩⟩ none 0 _ hpk4.1 rfl _ rfl (by simp) hlen ?_); intro v' w5 hv5 ho5 hat5)
        have hn5 := RNegAt.only hn4 ho5 (fun e => by have := hpk4.1.block p e; omega)
        have hos5 := OsKept.apart hos4 hpk4.1 ho5
        have hpk5 := hpk4.more (x := (⟨5, (S.id + 1) % 256, [], ⟨#[]⟩⟩, none, 0)) (.inr (OwnE.nil _ _ _)) hv5 ho5
        have hO5 : Only (· = p) W2 w5 := hO4.and ho5 (fun i hi => .inr (hpk4.1.block i hi))
        go_roundw
        case rel => exact ⟨k + 1, l ++ [(⟨5, (S.id + 1) % 256, [], ⟨#[]⟩⟩, none, 0)], av', hkn, by simp [go_sem], hpk5, Lib.hid (by rw [HSU.out, List.map_append, HLL.out]; rfl), by rw [HSU.out]; exact hn5, by rw [HSU.out]; exact hos5, hO5⟩
        case measure => simp [intOf]; omega
      by_cases h8 : act = 8
      · subst h8
        have hoo := HA8.out hmem
        have HSU : Hid (actsTo s r acts (k + 1) = ({ S with other := (takenM r.p.opts).1 }, L ++ [⟨2, r.p.id, r.p.opts, ⟨#[]⟩⟩])) := Lib.hid (by rw [hoo]; exact hSU)
        clear hSU hoo
        have htk := rtaken_any (.slice pa r.p.opts.length pc) r.p.opts wr hpkr.at
        obtain ⟨X, hX⟩ : ∃ x, takenM r.p.opts = x := ⟨_, rfl⟩
        rw [hX] at htk HSU
        clear hX
        obtain ⟨T, te⟩ := X
        dsimp only at htk HSU
        simp only [linkCells_eq] at htk
        go_wp2_with fail
        refine htk.mono ?_
        rintro e w3 ⟨rfl, hb3⟩
        have hn3 := hnr.below hb3
        have hh3 := below_of hb3 hhr
        go_upto_region 24 with fail
        have hb4 := allocB hb3 (.cells #[.int .i64 T.mru, .int .i64 T.magic, .int .i64 T.mrru, .bool T.short, .string T.disc, .int .i64 T.num] 23)
        have hb34 := allocB (Below.refl w3.heap.size w3) (.cells #[.int .i64 T.mru, .int .i64 T.magic, .int .i64 T.mrru, .bool T.short, .string T.disc, .int .i64 T.num] 23)
        have hhL : (w3.alloc (.cells #[.int .i64 T.mru, .int .i64 T.magic, .int .i64 T.mrru, .bool T.short, .string T.disc, .int .i64 T.num] 23)).heap[w3.heap.size]? = some (.cells (linkCells T) 23 (0, 0)) := heap_alloc_last w3 _
        obtain ⟨W4, hW4⟩ : ∃ W4, w3.alloc (.cells #[.int .i64 T.mru, .int .i64 T.magic, .int .i64 T.mrru, .bool T.short, .string T.disc, .int .i64 T.num] 23) = W4 := ⟨_, rfl⟩
        rw [hW4] at hb4 hb34 hhL ⊢
        clear hW4
        obtain ⟨c0, c1, c2, c3, c4, c5⟩ := link_cells hhL
        have hn4 := hn3.below hb34
        obtain ⟨e7, e8, e9, e10, e11, e12⟩ := hn4.others
        have g7 := hn4.frozen 7
        have g8 := hn4.frozen (7 + 1)
        have g9 := hn4.frozen (7 + 2)
        have g10 := hn4.frozen (7 + 3)
        have g11 := hn4.frozen (7 + 4)
        have g12 := hn4.frozen (7 + 5)
        go_upto_region 25 with fail
        have hW5 : (((((W4.setCell ⟨p, 7, none⟩ (.int .i64 T.mru)).setCell ⟨p, 8, none⟩ (.int .i64 T.magic)).setCell ⟨p, 9, none⟩ (.int .i64 T.mrru)).setCell ⟨p, 10, none⟩ (.bool T.short)).setCell ⟨p, 11, none⟩ (.string T.disc)).setCell ⟨p, 12, none⟩ (.int .i64 T.num) = setLink W4 p 7 T := rfl
        rw [hW5]
        clear hW5
        have hOA := setLink_only W4 p 7 T
        have hnA := rsetLink_other hn4 T
        have hh5 := hOA.heap (below_of hb34 hh3) hql
        obtain ⟨W5, hW5⟩ : ∃ W5, setLink W4 p 7 T = W5 := ⟨_, rfl⟩
        rw [hW5] at hOA hnA hh5 ⊢
        clear hW5 c0 c1 c2 c3 c4 c5 e7 e8 e9 e10 e11 e12 g7 g8 g9 g10 g11 g12 hn4 hhL b0 b1 b2 b3
        obtain ⟨b0, b1, b2, b3⟩ := packet_cell hh5
        have hpkA := (hpk.only (Only.ofBelow hb4) hpw2).only hOA hpw2
        have hosA := OsKept.only (s' := { S with other := T }) (OsKept.only (s' := { S with other := T }) hos (Only.ofBelow hb4) hpw2) hOA hpw2
        have hpoA := (hpkr.only (Only.ofBelow hb4) hpw2).only hOA hpw2
        replace hOA := (hOr.trans (Only.ofBelow hb4)).trans hOA
        go_wp2_with (at_builtin; go_loud (refine wpList_appP rfl _ _ rfl W2.heap.size hOA.size (.slice oa l.length oc) l ⟨2, r.p.id, r.p.opts, ⟨#[]⟩⟩ pa pc _ hpkA.1 rfl _ rfl (by simp) hlen ?_); intro v' w5 hv5 ho5 hat5)
        have hn5 := RNegAt.only hnA ho5 (fun e => by have := hpkA.1.block p e; omega)
        have hos5 := OsKept.apart hosA hpkA.1 ho5
        have hpk5 := hpkA.more (x := (⟨2, r.p.id, r.p.opts, ⟨#[]⟩⟩, pa, pc)) hpoA hv5 ho5
        have hO5 : Only (· = p) W2 w5 := hOA.and ho5 (fun i hi => .inr (hpkA.1.block i hi))
        go_roundw
        case rel => exact ⟨k + 1, l ++ [(⟨2, r.p.id, r.p.opts, ⟨#[]⟩⟩, pa, pc)], av', hkn, by simp [go_sem], hpk5, Lib.hid (by rw [HSU.out, List.map_append, HLL.out]; rfl), by rw [HSU.out]; exact hn5, by rw [HSU.out]; exact hos5, hO5⟩
        case measure => simp [intOf]; omega
      by_cases h9 : act = 9
      · subst h9
        have HSU : Hid (actsTo s r acts (k + 1) = (S, L ++ [⟨if r.verdict = 2 then 4 else 3, r.p.id, r.os, ⟨#[]⟩⟩])) := Lib.hid hSU
        clear hSU
        by_cases hv2 : r.verdict = 2
        · rw [if_pos hv2] at HSU
          have z2 : (r.verdict == 2) = true := beq_iff_eq.2 hv2
          clear hv2
          go_wp2_with (at_builtin; go_loud (refine wpList_appP rfl _ _ rfl W2.heap.size hOr.size (.slice oa l.length oc) l ⟨4, r.p.id, r.os, ⟨#[]⟩⟩ oa0 oc0 _ hpk.1 rfl _ rfl (by simp) hlen ?_); intro v' w5 hv5 ho5 hat5)
          have hn5 := RNegAt.only hnr ho5 (fun e => by have := hpk.1.block p e; omega)
          have hos5 := OsKept.apart hos hpk.1 ho5
          have hpk5 := hpk.more (x := (⟨4, r.p.id, r.os, ⟨#[]⟩⟩, oa0, oc0)) hokr hv5 ho5
          have hO5 : Only (· = p) W2 w5 := hOr.and ho5 (fun i hi => .inr (hpk.1.block i hi))
          go_roundw
          case rel => exact ⟨k + 1, l ++ [(⟨4, r.p.id, r.os, ⟨#[]⟩⟩, oa0, oc0)], av', hkn, by simp [go_sem], hpk5, Lib.hid (by rw [HSU.out, List.map_append, HLL.out]; rfl), by rw [HSU.out]; exact hn5, by rw [HSU.out]; exact hos5, hO5⟩
          case measure => simp [intOf]; omega
        · rw [if_neg hv2] at HSU
          have z2 : (r.verdict == 2) = false := beq_eq_false_iff_ne.2 hv2
          clear hv2
          go_wp2_with (at_builtin; go_loud (refine wpList_appP rfl _ _ rfl W2.heap.size hOr.size (.slice oa l.length oc) l ⟨3, r.p.id, r.os, ⟨#[]⟩⟩ oa0 oc0 _ hpk.1 rfl _ rfl (by simp) hlen ?_); intro v' w5 hv5 ho5 hat5)
          have hn5 := RNegAt.only hnr ho5 (fun e => by have := hpk.1.block p e; omega)
          have hos5 := OsKept.apart hos hpk.1 ho5
          have hpk5 := hpk.more (x := (⟨3, r.p.id, r.os, ⟨#[]⟩⟩, oa0, oc0)) hokr hv5 ho5
          have hO5 : Only (· = p) W2 w5 := hOr.and ho5 (fun i hi => .inr (hpk.1.block i hi))
          go_roundw
          case rel => exact ⟨k + 1, l ++ [(⟨3, r.p.id, r.os, ⟨#[]⟩⟩, oa0, oc0)], av', hkn, by simp [go_sem], hpk5, Lib.hid (by rw [HSU.out, List.map_append, HLL.out]; rfl), by rw [HSU.out]; exact hn5, by rw [HSU.out]; exact hos5, hO5⟩
          case measure => simp [intOf]; omega
      by_cases h11 : act = 11
      · subst h11
        have HSU : Hid (actsTo s r acts (k + 1) = (S, L ++ [⟨6, if r.event = 10 then r.p.id else 0, [], ⟨#[]⟩⟩])) := Lib.hid hSU
        clear hSU
        rw [HEV.out] at HSU
        by_cases hv2 : ev = 10
        · rw [if_pos hv2] at HSU
          have z2 : (ev == 10) = true := beq_iff_eq.2 hv2
          clear hv2
          go_wp2_with (at_builtin; go_loud (refine wpList_appP rfl _ _ rfl W2.heap.size hOr.size (.slice oa l.length oc) l ⟨6, r.p.id, [], ⟨#[]⟩⟩ none 0 _ hpk.1 rfl _ rfl (by simp) hlen ?_); intro v' w5 hv5 ho5 hat5)
          have hn5 := RNegAt.only hnr ho5 (fun e => by have := hpk.1.block p e; omega)
          have hos5 := OsKept.apart hos hpk.1 ho5
          have hpk5 := hpk.more (x := (⟨6, r.p.id, [], ⟨#[]⟩⟩, none, 0)) (.inr (OwnE.nil _ _ _)) hv5 ho5
          have hO5 : Only (· = p) W2 w5 := hOr.and ho5 (fun i hi => .inr (hpk.1.block i hi))
          go_roundw
          case rel => exact ⟨k + 1, l ++ [(⟨6, r.p.id, [], ⟨#[]⟩⟩, none, 0)], av', hkn, by simp [go_sem], hpk5, Lib.hid (by rw [HSU.out, List.map_append, HLL.out]; rfl), by rw [HSU.out]; exact hn5, by rw [HSU.out]; exact hos5, hO5⟩
          case measure => simp [intOf]; omega
        · rw [if_neg hv2] at HSU
          have z2 : (ev == 10) = false := beq_eq_false_iff_ne.2 hv2
          clear hv2
          go_wp2_with (at_builtin; go_loud (refine wpList_appP rfl _ _ rfl W2.heap.size hOr.size (.slice oa l.length oc) l ⟨6, 0, [], ⟨#[]⟩⟩ none 0 _ hpk.1 rfl _ rfl (by simp) hlen ?_); intro v' w5 hv5 ho5 hat5)
          have hn5 := RNegAt.only hnr ho5 (fun e => by have := hpk.1.block p e; omega)
          have hos5 := OsKept.apart hos hpk.1 ho5
          have hpk5 := hpk.more (x := (⟨6, 0, [], ⟨#[]⟩⟩, none, 0)) (.inr (OwnE.nil _ _ _)) hv5 ho5
          have hO5 : Only (· = p) W2 w5 := hOr.and ho5 (fun i hi => .inr (hpk.1.block i hi))
          go_roundw
          case rel => exact ⟨k + 1, l ++ [(⟨6, 0, [], ⟨#[]⟩⟩, none, 0)], av', hkn, by simp [go_sem], hpk5, Lib.hid (by rw [HSU.out, List.map_append, HLL.out]; rfl), by rw [HSU.out]; exact hn5, by rw [HSU.out]; exact hos5, hO5⟩
          case measure => simp [intOf]; omega
      by_cases h12 : act = 12
      · subst h12
        have HSU : Hid (actsTo s r acts (k + 1) = (nextM S, L ++ [⟨7, (S.id + 1) % 256, [], bytesOf ((controlM r.p).1.take 64)⟩])) := Lib.hid hSU
        clear hSU
        have hct := rcontrol_any (.slice pa r.p.opts.length pc) r.p wr hpkr.at HZ.out hsz
        have hS : bytesOf ((controlM r.p).1.take 64) = (bytesOf (controlM r.p).1).extract 0 (min (bytesOf (controlM r.p).1).size 64) := by
          rw [prefix_bytes, show (bytesOf (controlM r.p).1).data.toList = (controlM r.p).1 by simp [bytesOf]]
          congr 1
          rw [show (bytesOf (controlM r.p).1).size = (controlM r.p).1.length by simp [bytesOf, ByteArray.size]]
          rcases Nat.le_total (controlM r.p).1.length 64 with h | h
          · rw [Nat.min_eq_left h, List.take_of_length_le h, List.take_of_length_le (Nat.le_refl _)]
          · rw [Nat.min_eq_right h]
        rw [hS] at HSU
        obtain ⟨T, hSS⟩ : ∃ x, bytesOf (controlM r.p).1 = x := ⟨_, rfl⟩
        obtain ⟨er, her⟩ : ∃ x, (controlM r.p).2 = x := ⟨_, rfl⟩
        rw [hSS] at HSU
        rw [hSS, her] at hct
        clear hS hSS her
        obtain ⟨N, hN⟩ : ∃ x, min T.size 64 = x := ⟨_, rfl⟩
        have hNi : min (T.size : Int) 64 = (N : Int) := by omega
        have hN2 : N ≤ T.size := by omega
        rw [hN] at HSU
        clear hN
        unfold packCells at hct
        go_wp2_with fail
        refine hct.mono ?_
        rintro e w3 ⟨rfl, hb3⟩
        clear hct
        have hnA := hnr.below hb3
        have hOA : Only (· = p) W2 w3 := hOr.trans (Only.ofBelow hb3)
        have hpkA := hpk.only (Only.ofBelow hb3) hpw2
        have hosA := OsKept.only (s' := S) hos (Only.ofBelow hb3) hpw2
        go_wp2_with fail
        have hnx : Calls Tryz.prog 43 #[.pointer (some ⟨p, 0, none⟩)] w3.drew fun e w' => e = .returned (.int .i64 ((S.id + 1) % 256)) ∧ RNegAt w' p av' (nextM S) ∧ Only (· = p) w3.drew w' := rnext_any p _ _ w3.drew hnA hgk.id
        refine wp_schedL (fun w' => True) [(0, true), (1, true), (3, true), (4, true), (5, true), (6, true), (7, true), (2, false), (8, true), (9, false), (10, false), (11, true)] (by kernel_rfl) (by kernel_rfl) rfl (by kernel_rfl) (by kernel_rfl) trivial (fun _ d _ _ _ h => by cases d <;> exact h) ?_
        simp only [schedOps, List.filterMap_cons, List.filterMap_nil, List.getElem?_toArray, List.getElem?_cons_zero, List.getElem?_cons_succ, Option.map_some]
        repeat (first | (refine' wpSched_take _ (by rfl) (fun wS hS => ?_) ?_; rotate_left; (focus (obtain _ := hS; go_simp; first | done | rfl)); (try simp only [Act.put, List.setIfInBounds_toArray, List.set_cons_zero, List.set_cons_succ])) | (refine wpSched_skip (by rfl) ?_; try simp only [Act.put, List.setIfInBounds_toArray, List.set_cons_zero, List.set_cons_succ]))
        refine wpSched_run (fun K hK => ?_)
        go_wp2_with (go_at_call 43; refine hnx.mono ?_; rintro e w6 ⟨rfl, hn6, ho6⟩)
        refine QRun_normal (hK.out _ _ trivial ?_)
        clear hK K
        repeat (first | (refine' wpSched_take _ (by rfl) (fun wS hS => ?_) ?_; rotate_left; (focus (obtain _ := hS; go_simp; first | done | rfl)); (try simp only [Act.put, List.setIfInBounds_toArray, List.set_cons_zero, List.set_cons_succ])) | (refine wpSched_skip (by rfl) ?_; try simp only [Act.put, List.setIfInBounds_toArray, List.set_cons_zero, List.set_cons_succ]))
        refine wpSched_run (fun K hK => ?_)
        go_wp2_with fail
        refine QRun_normal (hK.out _ _ trivial ?_)
        clear hK K
        have hO6 : Only (· = p) W2 w6 := hOA.drew.trans ho6
        have hpk6 : RPacks w6 W2.heap.size p (.slice oa l.length oc) l := RPacks.only (w := w3.drew) (hpkA.only (Only.ofBelow (Below.refl _ _).drew) hpw2) ho6 hpw2
        have hos6 := OsKept.only (s' := nextM S) (w := w3.drew) (OsKept.only (s' := nextM S) hosA (Only.ofBelow (Below.refl _ _).drew) hpw2) ho6 hpw2
        refine wpSched_run (fun K hK => ?_)
        go_wp2_with (at_builtin; go_loud (refine wpList_appP rfl _ _ rfl W2.heap.size hO6.size (.slice oa l.length oc) l ⟨7, (S.id + 1) % 256, [], T.extract 0 N⟩ none 0 _ hpk6.1 rfl _ rfl (by simp) hlen ?_); intro v' w5 hv5 ho5 hat5)
        refine QRun_normal (hK.out _ _ trivial ?_)
        clear hK K
        repeat (first | (refine' wpSched_take _ (by rfl) (fun wS hS => ?_) ?_; rotate_left; (focus (obtain _ := hS; go_simp; first | done | rfl)); (try simp only [Act.put, List.setIfInBounds_toArray, List.set_cons_zero, List.set_cons_succ])) | (refine wpSched_skip (by rfl) ?_; try simp only [Act.put, List.setIfInBounds_toArray, List.set_cons_zero, List.set_cons_succ]))
        refine wpSched_done ?_
        have hn5 := RNegAt.only hn6 ho5 (fun e => by have := hpk6.1.block p e; omega)
        have hos5 := OsKept.apart hos6 hpk6.1 ho5
        have hpk5 := hpk6.more (x := (⟨7, (S.id + 1) % 256, [], T.extract 0 N⟩, none, 0)) (.inr (OwnE.nil _ _ _)) hv5 ho5
        have hO5 : Only (· = p) W2 w5 := hO6.and ho5 (fun i hi => .inr (hpk6.1.block i hi))
        go_wp2_with fail
        go_roundw
        case rel => exact ⟨k + 1, l ++ [(⟨7, (S.id + 1) % 256, [], T.extract 0 N⟩, none, 0)], av', hkn, by simp [go_sem], hpk5, Lib.hid (by rw [HSU.out, List.map_append, HLL.out]; rfl), by rw [HSU.out]; exact hn5, by rw [HSU.out]; exact hos5, hO5⟩
        case measure => simp [intOf]; omega
      by_cases h13 : act = 13
      · subst h13
        have hSU2 : actsTo s r acts (k + 1) = (S, L ++ (if r.p.code = 9 then some (⟨10, r.p.id, [], r.p.data⟩ : PacketM) else none).toList) := hSU
        clear hSU
        by_cases hv2 : r.p.code = 9
        · rw [if_pos hv2] at hSU2
          have HSU := Lib.hid hSU2
          have z2 : (r.p.code == 9) = true := beq_iff_eq.2 hv2
          clear hv2 hSU2
          go_wp2_with (at_builtin; go_loud (refine wpList_appP rfl _ _ rfl W2.heap.size hOr.size (.slice oa l.length oc) l ⟨10, r.p.id, [], r.p.data⟩ none 0 _ hpk.1 rfl _ rfl (by simp) hlen ?_); intro v' w5 hv5 ho5 hat5)
          have hn5 := RNegAt.only hnr ho5 (fun e => by have := hpk.1.block p e; omega)
          have hos5 := OsKept.apart hos hpk.1 ho5
          have hpk5 := hpk.more (x := (⟨10, r.p.id, [], r.p.data⟩, none, 0)) (.inr (OwnE.nil _ _ _)) hv5 ho5
          have hO5 : Only (· = p) W2 w5 := hOr.and ho5 (fun i hi => .inr (hpk.1.block i hi))
          go_roundw
          case rel => exact ⟨k + 1, l ++ [(⟨10, r.p.id, [], r.p.data⟩, none, 0)], av', hkn, by simp [go_sem], hpk5, Lib.hid (by rw [HSU.out, List.map_append, HLL.out]; rfl), by rw [HSU.out]; exact hn5, by rw [HSU.out]; exact hos5, hO5⟩
          case measure => simp [intOf]; omega
        · rw [if_neg hv2] at hSU2
          have HSU : Hid (actsTo s r acts (k + 1) = (S, L)) := Lib.hid (by rw [hSU2]; exact congrArg (Prod.mk _) (List.append_nil L))
          have z2 : (r.p.code == 9) = false := beq_eq_false_iff_ne.2 hv2
          clear hv2 hSU2
          go_wp2_with fail
          go_roundw
          case rel => exact ⟨k + 1, l, av', hkn, by simp [go_sem], hpk, Lib.hid (by rw [HSU.out, HLL.out]), by rw [HSU.out]; exact hnr, by rw [HSU.out]; exact hos, hOr⟩
          case measure => simp [intOf]; omega
      have hSS : sendM (setLeft S act) act r = (S, none) := by
        unfold setLeft sendM
        rw [if_neg h5, if_neg h6, if_neg h7, if_neg h10, if_neg h8, if_neg h9, if_neg h11, if_neg h12, if_neg h13]
      have HSU : Hid (actsTo s r acts (k + 1) = (S, L)) := Lib.hid (by rw [hSU, hSS]; exact congrArg (Prod.mk _) (List.append_nil L))
      clear hSU hSS
      have z5 : (act == 5) = false := beq_eq_false_iff_ne.2 h5
      have z6 : (act == 6) = false := beq_eq_false_iff_ne.2 h6
      have z7 : (act == 7) = false := beq_eq_false_iff_ne.2 h7
      have z10 : (act == 10) = false := beq_eq_false_iff_ne.2 h10
      have z8 : (act == 8) = false := beq_eq_false_iff_ne.2 h8
      have z9 : (act == 9) = false := beq_eq_false_iff_ne.2 h9
      have z11 : (act == 11) = false := beq_eq_false_iff_ne.2 h11
      have z12 : (act == 12) = false := beq_eq_false_iff_ne.2 h12
      have z13 : (act == 13) = false := beq_eq_false_iff_ne.2 h13
      go_wp2_with fail
      go_roundw
      case rel => exact ⟨k + 1, l, av', hkn, by simp [go_sem], hpk, Lib.hid (by rw [HSU.out, HLL.out]), by rw [HSU.out]; exact hnr, by rw [HSU.out]; exact hos, hOr⟩
      case measure => simp [intOf]; omega
    · obtain rfl : k = n := by omega
      obtain ⟨X, hX⟩ : ∃ X, actsTo s r acts k = X := ⟨_, rfl⟩
      have HX : Hid (actsTo s r acts acts.length = X) := Lib.hid (by rw [HN.out]; exact hX)
      rw [hX] at HL hnr hos
      have c0 : wr.cell? ⟨p, 0, none⟩ = some (.int .i64 X.1.state) := hnr.cell 0
      have f0 := hnr.frozen 0
      have hn9 := hnr.set 0 (.int .i64 nx) av' { X.1 with state := nx } rfl
      have hO9 := only_set wr p 0 (.int .i64 nx)
      have hpw2 : p < W2.heap.size := by omega
      have hpk9 := hpk.only hO9 hpw2
      have hos9 := OsKept.only (s' := { X.1 with state := nx }) hos hO9 hpw2
      have hos10 : OsKept (wr.setCell ⟨p, 0, none⟩ (.int .i64 nx)) w.heap.size av av' s { X.1 with state := nx } := hos9.imp id fun h => h.base (Nat.le_of_lt hbs2)
      have hO10 : Only (· = p) w _ := (hO2.trans hOr).trans hO9
      clear hX hos9
      go_wp2_with fail
      go_ret2
      unfold RRunPost
      refine ⟨_, l, av', rfl, hpk9.at, ?_, ?_, ?_, hO10⟩
      · rw [HX.out]; exact HL.out
      · rw [HX.out]; exact hn9
      · rw [HX.out]; exact hos10
end Go.Proofs.YtagnbdenecphcaaGreatDoor
