/- withylaw15.open: two sides that are open. -/
import Derived.Test.YtagnbdenecphcaaDoorTwo
import Derived.Test.YtagnbdenecphcaaDoorNegQ
namespace Go.Proofs.YtagnbdenecphcaaDoor
open Go.RowKit
set_option linter.unusedVariables false
set_option linter.unusedSimpArgs false
theorem up_quit (l m : LinkM) (k : Int) : quitS l k 0 = concN l m (upS k) := by
  rw [up_conc]
  simp [quitS]
theorem up_pack (l m : LinkM) : (⟨1, 1, askM l, ⟨#[]⟩⟩ : PacketM) = concP l m ⟨1, 1, false⟩ := rfl
theorem link_new (w : World) (l : LinkM) : (w.alloc (.cells (linkCells l) 23)).heap[w.heap.size]? = some (.cells (linkCells l) 23 (0, 0)) := heap_alloc_last _ _
set_option maxRecDepth 100000 in
set_option maxHeartbeats 64000000 in
theorem open_any (l m : LinkM) (ml : Int) (w : World) (hml : MaxLenIs w ml) (hl : mayM l = true) (hm : mayM m = true) (hf1 : farM l m) (hf2 : farM m l) :
    Calls Tryd.prog 17 #[.agg (linkCells l), .agg (linkCells m)] w fun e w' => ∃ B px tx py ty ox oy, e = .returned (.tuple #[.pointer (some ⟨px, 0, none⟩), .pointer (some ⟨py, 0, none⟩), .bool true]) ∧ TwoAt w' B px tx py ty ox oy (concN l m (finG l.short m.short).x) (concN m l (finG l.short m.short).y) ∧ w.heap.size ≤ px ∧ w.heap.size ≤ py ∧ B ≤ w'.heap.size ∧ MaxLenIs w' ml ∧ Below w.heap.size w w' := by
  obtain ⟨GF, hGF⟩ : ∃ x, finG l.short m.short = x := ⟨_, rfl⟩
  have hfr := fin_rounds l.short m.short
  rw [hGF] at hfr ⊢
  have HGF := Lib.hid hfr
  clear hfr hGF
  have hB : Below w.heap.size w ((w.alloc (.cells (linkCells l) 23)).alloc (.cells (linkCells m) 23)) := allocB (allocB (Below.refl _ _) _) _
  have hh1 := below_of (allocB (Below.refl _ (w.alloc (.cells (linkCells l) 23))) (.cells (linkCells m) 23)) (link_new w l)
  have hh2 := link_new (w.alloc (.cells (linkCells l) 23)) m
  rw [show (w.alloc (.cells (linkCells l) 23)).heap.size = w.heap.size + 1 by simp] at hh2
  have hmW := hml.below hB
  obtain ⟨c0, c1, c2, c3, c4, c5⟩ := link_cells hh1
  have hnx := fun W (hW : MaxLenIs W ml) => new_side l 8 ml W hW hl (by decide) (by decide)
  have hny := fun W (hW : MaxLenIs W ml) => new_side m 8 ml W hW hm (by decide) (by decide)
  unfold linkCells at hB hh2 hmW c0 c1 c2 c3 c4 c5 hnx hny ⊢
  clear hh1
  obtain ⟨W, hW⟩ : ∃ W, (w.alloc (.cells #[.int .i64 l.mru, .int .i64 l.magic, .int .i64 l.mrru, .bool l.short, .string l.disc, .int .i64 l.num] 23)).alloc (.cells #[.int .i64 m.mru, .int .i64 m.magic, .int .i64 m.mrru, .bool m.short, .string m.disc, .int .i64 m.num] 23) = W := ⟨_, rfl⟩
  rw [hW] at hB hh2 hmW c0 c1 c2 c3 c4 c5
  go_enter Tryd.func17, Tryd.ntmps17
  go_wp2_with fail
  refine (hnx _ hmW).mono ?_
  rintro e w1 ⟨px, tx, rfl, hsx1, hp1, hm1, hb1⟩
  have hh3 := below_of hb1 hh2
  obtain ⟨d0, d1, d2, d3, d4, d5⟩ := link_cells (l := m) hh3
  have hB1 := seqB hB hb1
  clear hW hnx c0 c1 c2 c3 c4 c5 hh2 hb1 hmW
  go_wp2_with fail
  refine (hny _ hm1).mono ?_
  rintro e w2 ⟨py, ty, rfl, hsy2, hp2, hm2, hb2⟩
  have hT2 := two_new hsx1 hsy2 hb2 hp2
  have hB2 := seqB hB1 hb2
  have hpw1 : w.heap.size ≤ px := Nat.le_trans hB.size hp1
  have hpw2 : w.heap.size ≤ py := Nat.le_trans hB1.size hp2
  clear hny d0 d1 d2 d3 d4 d5 hh3 hsx1 hsy2 hb2 hB1 hm1 hB
  obtain ⟨B, hBe⟩ : ∃ B, w2.heap.size = B := ⟨_, rfl⟩
  rw [hBe] at hT2
  have hd := nDo_any px tx (.slice none 0 0) _ 2 ml w2 hT2.x hm2
  rw [quit_open] at hd
  go_wp2_with (go_at_call 13; refine (num_any _ _).mono ?_; rintro e w' ⟨rfl, rfl⟩)
  refine hd.mono ?_
  rintro e w3 he3
  obtain ⟨v3, l3, ox3, rfl, -, -, hT3, hO3, hm3⟩ := hT2.act he3
  clear hd he3
  have hd := nDo_any py ty (.slice none 0 0) _ 2 ml w3 hT3.y hm3
  rw [quit_open] at hd
  go_wp2_with fail
  refine hd.mono ?_
  rintro e w4 he4
  obtain ⟨v4, l4, oy4, rfl, -, -, hT4, hO4, hm4⟩ := hT3.swap.act he4
  clear hd he4
  have hd := nDo_any px tx ox3 _ 0 ml w4 hT4.swap.x hm4
  rw [quit_up l 8 (by decide), up_quit l m, up_pack l m] at hd
  go_wp2_with fail
  refine hd.mono ?_
  rintro e w5 he5
  obtain ⟨v5, ly6, ox6, rfl, hpy5, hqy6, hT5, hO5, hm5⟩ := hT4.swap.act he5
  obtain ⟨a5, c5, rfl, -, -⟩ := SeqAt.form hpy5.1.at
  clear hd he5
  have hd := nDo_any py ty oy4 _ 0 ml w5 hT5.y hm5
  rw [quit_up m 8 (by decide), up_quit m l, up_pack m l] at hd
  go_wp2_with fail
  refine hd.mono ?_
  rintro e w6 he6
  obtain ⟨v6, lx6, oy6, rfl, hpx6, hqx6, hT6, hO6, hm6⟩ := hT5.swap.act he6
  obtain ⟨a6, c6, rfl, -, -⟩ := SeqAt.form hpx6.1.at
  have hB34 : B ≤ w4.heap.size := by rw [← hBe]; exact Nat.le_trans hO3.size hO4.size
  have hpy6 : PacksOwn w6 B (.slice a5 ly6.length c5) ly6 := (hpy5.base hB34).only hO6 hT6.pB.1
  replace hpx6 := hpx6.base (Nat.le_trans hB34 hO5.size)
  have hB6 : B ≤ w6.heap.size := Nat.le_trans hB34 (Nat.le_trans hO5.size hO6.size)
  replace hT6 := hT6.swap
  have hBp : Below w.heap.size w w6 := ((((Only.ofBelow (S := fun b => b = px ∨ b = py) hB2).trans (hO3.mono fun _ _ h => .inl h)).trans (hO4.mono fun _ _ h => .inr h)).trans ((hO5.mono fun _ _ h => .inl h).trans (hO6.mono fun _ _ h => .inr h))).below (Nat.le_refl _) (fun k e => by omega)
  clear hd he6 hT2 hT3 hT4 hT5 hm2 hm3 hm4 hm5 hO3 hO4 hO5 hO6 hpy5 hB2 hBe hB34
  go_wp2_with fail
  go_loopw [11, 13, 15] (fun vy vx i wr => ∃ (j r : Nat) (g : SyG) (ly lx : List PackV) (ox oy : Value), i = .int .i64 (j : Nat) ∧ j + r = 20 ∧ Hid (roundsG l.short m.short r g = some GF) ∧ TwoAt wr B px tx py ty ox oy (concN l m g.x) (concN m l g.y) ∧ PacksOwn wr B vy ly ∧ Hid (ly.map (·.1) = g.toy.map (concP l m)) ∧ PacksOwn wr B vx lx ∧ Hid (lx.map (·.1) = g.tox.map (concP m l)) ∧ MaxLenIs wr ml ∧ Only (fun b => b = px ∨ b = py) w6 wr) (fun _ _ i _ => 40 - (intOf i).toNat)
  case atStart => exact ⟨0, 20, initG 8, ly6, lx6, ox6, oy6, rfl, rfl, Lib.hid HGF.out.1, hT6, hpy6, Lib.hid hqy6, hpx6, Lib.hid hqx6, hm6, Only.refl _ _⟩
  case round =>
    obtain ⟨j, r, g, ly, lx, ox, oy, rfl, hjr, HR, hT, hpy, HY, hpx, HX, hmr, hOr⟩ := hrel
    obtain ⟨ya, yc, rfl, hyc1, hyc2⟩ := SeqAt.form hpy.1.at
    obtain ⟨xa, xc, rfl, hxc1, hxc2⟩ := SeqAt.form hpx.1.at
    obtain ⟨hfx, hfy⟩ := rounds_few HR.out
    have hly : ly.length = g.toy.length := by have := congrArg List.length HY.out; simpa using this
    have hlx : lx.length = g.tox.length := by have := congrArg List.length HX.out; simpa using this
    have hr1 : 1 ≤ r := by
      cases r with
      | zero => exact absurd HR.out (by simp [roundsG])
      | succ r => omega
    have hj40 : j < 40 := by omega
    have hB0 : B ≤ wr.heap.size := Nat.le_trans hB6 hOr.size
    obtain ⟨ny, hny⟩ : ∃ n, ly.length = n := ⟨_, rfl⟩
    obtain ⟨nx, hnx⟩ : ∃ n, lx.length = n := ⟨_, rfl⟩
    have HNY := Lib.hid hny
    have HNX := Lib.hid hnx
    rw [hny] at hly hyc1 hpy ⊢
    rw [hnx] at hlx hxc1 hpx ⊢
    have hyc9 : yc ≤ 9223372036854775807 := by unfold maxLen at hyc2; omega
    have hxc9 : xc ≤ 9223372036854775807 := by unfold maxLen at hxc2; omega
    clear hny hnx
    cases hd : doneG g with
    | true =>
      have hg := rounds_done HR.out hd
      have hz : ny = 0 ∧ nx = 0 := by
        unfold doneG at hd
        simp only [Bool.and_eq_true, List.isEmpty_iff] at hd
        rw [hd.1] at hlx; rw [hd.2] at hly
        exact ⟨hly, hlx⟩
      obtain ⟨rfl, rfl⟩ := hz
      have hfr := HGF.out
      have hgd : g.x.state = 9 ∧ g.y.state = 9 := by
        have e := hfr.2.1
        rw [hg] at e
        simp only [goodG, Bool.and_eq_true, decide_eq_true_eq] at e
        exact ⟨e.1.1.1, e.1.1.2⟩
      have hsx := state_any px tx ox _ wr hT.x.blk
      have hsy := state_any py ty oy _ wr hT.y.blk
      rw [show (concN l m g.x).state = 9 from hgd.1] at hsx
      rw [show (concN m l g.y).state = 9 from hgd.2] at hsy
      have HTF : Hid (TwoAt wr B px tx py ty ox oy (concN l m GF.x) (concN m l GF.y)) := Lib.hid (by rw [hg]; exact hT)
      have HMF := Lib.hid hmr
      have HBF : Hid (Below w.heap.size w wr) := Lib.hid (((Only.ofBelow (S := fun b => b = px ∨ b = py) hBp).trans hOr).below (Nat.le_refl _) (fun k e => by omega))
      have HBB := Lib.hid hB0
      have hsumw : IntKind.i64.wrap (((0 : Nat) : Int) + ((0 : Nat) : Int)) = 0 := by decide
      have hsumd : decide ((0 : Int) < 0) = false := by decide
      clear hT hpy hpx hmr hOr hfr hgd HR HX HY hd hg hly hlx hjr hqy6 hqx6 hpy6 hpx6 hT6 hBp hm6
      go_wp2_with (first
        | (go_at_call 16; first | (refine hsx.mono ?_; rintro e w' ⟨rfl, rfl⟩) | (refine hsy.mono ?_; rintro e w' ⟨rfl, rfl⟩)))
      go_ret3
      exact ⟨B, px, tx, py, ty, ox, oy, rfl, HTF.out, hpw1, hpw2, HBB.out, HMF.out, HBF.out⟩
    | false =>
      have hpos : 0 < ny + nx := by
        rcases Nat.eq_zero_or_pos (ny + nx) with h0 | h0
        · exfalso
          have e1 : g.toy = [] := List.eq_nil_of_length_eq_zero (by omega)
          have e2 : g.tox = [] := List.eq_nil_of_length_eq_zero (by omega)
          unfold doneG at hd
          rw [e1, e2] at hd
          cases hd
        · exact h0
      have hposd : decide ((0 : Int) < (nx : Int) + (ny : Int)) = true := decide_eq_true (by omega)
      have hposw : IntKind.i64.wrap ((nx : Int) + (ny : Int)) = (nx : Int) + (ny : Int) := IntWalk.i64_in _ (by omega)
      obtain ⟨r2, gy, tox, gx, toy, hrr, h1, h2, h3⟩ := rounds_next HR.out hd
      have H1 := Lib.hid h1
      have H2 := Lib.hid h2
      have H3 := Lib.hid h3
      obtain ⟨hfa, hfb⟩ := rounds_few h3
      dsimp only at hfa hfb
      obtain ⟨W0, hW0⟩ : ∃ W0, wr = W0 := ⟨_, rfl⟩
      rw [hW0] at hT hpy hpx hmr hOr hB0 ⊢
      have HLY := Lib.hid hly
      have HLX := Lib.hid hlx
      clear hW0 h1 h2 h3
      clear hqy6 hqx6 hpy6 hpx6 hT6 hm6
      have hnx8 : nx ≤ 8 := by omega
      have hny8 : ny ≤ 8 := by omega
      clear hly hlx
      go_wp2_with fail
      go_loopw [16, 18] (fun nv k wq => ∃ (kk : Nat) (ln : List PackV) (oy2 : Value) (s1 : SyN) (o1 : List SyP), k = .int .i64 (kk : Nat) ∧ kk ≤ ny ∧ PacksOwn wq W0.heap.size nv ln ∧ Hid (ln.map (·.1) = o1.map (concP m l)) ∧ Hid (takesS m.short l.short g.y (g.toy.take kk) = some (s1, o1)) ∧ TwoAt wq B px tx py ty ox oy2 (concN l m g.x) (concN m l s1) ∧ MaxLenIs wq ml ∧ Only (· = py) W0 wq) (fun _ k _ => ny - (intOf k).toNat)
      case atStart => exact ⟨0, [], oy, g.y, [], rfl, Nat.zero_le _, ⟨OwnE.nil _ _ _, fun x hx => absurd hx (by simp)⟩, Lib.hid rfl, Lib.hid (by simp [takesS]), hT, hmr, Only.refl _ _⟩
      case round =>
        obtain ⟨kk, ln, oy2, s1, o1, rfl, hkk, hpn, HLN, HT1, hT1, hm1, hO1⟩ := hrel
        obtain ⟨na, nc, rfl, hnc1, hnc2⟩ := SeqAt.form hpn.1.at
        by_cases hlt : kk < ny
        · have hkl : kk < ly.length := by rw [HNY.out]; exact hlt
          obtain ⟨gb, hgb, hgB, hgl, -, hc1, hc2, z0, z1, z2, z3⟩ := hpy.cells kk hkl
          cases hgb
          have hop := (hpy.2 ly[kk] (List.getElem_mem hkl))
          have hgp : gb ≠ py := by have := hT.pB; omega
          replace z0 := hO1.cell (a := ⟨gb, _, none⟩) z0 hgp
          replace z1 := hO1.cell (a := ⟨gb, _, none⟩) z1 hgp
          replace z2 := hO1.cell (a := ⟨gb, _, none⟩) z2 hgp
          replace z3 := hO1.cell (a := ⟨gb, _, none⟩) z3 hgp
          have hop2 := OwnE.strip hop hO1 (by have := hT.pB; omega)
          have hgt : kk < g.toy.length := by have e1 := HLY.out; have e2 := HLX.out; omega
          have hek : ly[kk].1 = concP l m g.toy[kk] := by
            have e := congrArg (fun x => x[kk]?) HY.out
            simp only [List.getElem?_map, List.getElem?_eq_getElem hkl, List.getElem?_eq_getElem hgt, Option.map_some] at e
            exact Option.some.inj e
          obtain ⟨s3, o3, hpf, hpl⟩ := takesS_prefix _ _ _ _ _ _ H1.out (kk + 1)
          have hsn := takesS_snoc m.short l.short (g.toy.take kk) g.y g.toy[kk]
          rw [← List.take_succ_eq_append_getElem hgt, hpf, HT1.out] at hsn
          dsimp only at hsn
          cases htk : takeS m.short l.short s1 g.toy[kk] with
          | none => rw [htk] at hsn; cases hsn
          | some X =>
            obtain ⟨s4, o4⟩ := X
            rw [htk] at hsn
            have hsn := Option.some.inj hsn
            simp only [Prod.mk.injEq] at hsn
            rw [hsn.1, hsn.2] at hpf
            rw [hsn.2] at hpl
            have hsim := sim_take hm hl hf2 _ _ _ _ htk
            obtain ⟨pk, hpk⟩ : ∃ x, concP l m g.toy[kk] = x := ⟨_, rfl⟩
            have hpkd : pk.data.size ≤ 4611686018427387904 := by rw [← hpk]; exact (show (⟨#[]⟩ : ByteArray).size ≤ 4611686018427387904 by decide)
            rw [hpk] at hsim hek
            obtain ⟨xe, hxe⟩ : ∃ x, ly[kk] = x := ⟨_, rfl⟩
            rw [hxe] at z0 z1 z2 z3 hek hop2
            rw [hek] at z0 z1 z3 hop2
            unfold slOf at z2
            rw [hek] at z2
            have ht := nTake_any py ty oy2 (slOf xe) _ pk ml _ hT1.y hm1 hop2.at hpkd
            rw [hsim] at ht
            unfold packCells slOf at ht
            rw [hek] at ht
            have H4 : Hid (takesS m.short l.short g.y (g.toy.take (kk + 1)) = some (s4, o1 ++ o4)) := Lib.hid hpf
            have hlen4 : o1.length + o4.length ≤ 8 := by rw [List.length_append] at hpl; omega
            have HLL : Hid (ln.length = o1.length) := Lib.hid (by have := congrArg List.length HLN.out; simpa using this)
            have hkc : kk < yc := by omega
            clear hpf hpk hxe htk hsim hop hpkd hop2 hsn
            go_wp2_with (first
              | (go_at_call 18; refine ht.mono ?_; rintro e w3 he3; obtain ⟨v3, l3, o5, rfl, hl3, hq3, hT3, hO3, hm3⟩ := hT1.swap.act he3; obtain ⟨a3, c3, rfl, hc31, hc32⟩ := SeqAt.form hl3.1.at; have HL3 : Hid (l3.length = o4.length) := Lib.hid (by have := congrArg List.length hq3; simpa using this); have HQ3 := Lib.hid hq3; clear hq3)
              | (at_builtin; refine wpList_appPs rfl _ _ rfl W0.heap.size (Nat.le_trans hO1.size hO3.size) (.slice na ln.length nc) (.slice a3 l3.length c3) ln l3 ((hpn.only hO3 (Nat.lt_of_lt_of_le hT.pB.2.1 hB0)).1) hl3.1.at rfl rfl (by have e1 := HLL.out; have e2 := HL3.out; omega) ?_; intro v5 w5 hv5 ho5 hat5))
            have hp3 := hpn.only hO3 (Nat.lt_of_lt_of_le hT.pB.2.1 hB0)
            have hp5 := packs_join hp3 hl3 hO1.size hv5 ho5
            have hT5 := TwoAt.swap (hT3.grow hp3.1 hB0 ho5)
            have hm5 : MaxLenIs w5 ml := maxLen_only hm3 ho5 (fun e => by have h1 := hp3.1.block _ e; have h2 := block_lt_of_cell hmr; dsimp only at h2; omega)
            have hO5 : Only (· = py) W0 w5 := (hO1.trans hO3).and ho5 (fun i hi => .inr (hp3.1.block i hi))
            have hkn : kk + 1 ≤ ny := hlt
            clear ht hl3 hv5 ho5 hp3 hT3 hm3 hO3
            go_roundw
            case rel =>
              refine ⟨kk + 1, ln ++ l3, o5, s4, o1 ++ o4, by simp [go_sem], hkn, hp5, Lib.hid ?_, H4, hT5, hm5, hO5⟩
              rw [List.map_append, HLN.out, HQ3.out, List.map_append]
            case measure => simp [intOf]; omega
        · obtain rfl : kk = ny := by omega
          have hst1 : s1 = gy ∧ o1 = tox := by
            have e := HT1.out
            rw [show g.toy.take kk = g.toy by rw [List.take_of_length_le (by have e1 := HLY.out; omega)], H1.out] at e
            cases e; exact ⟨rfl, rfl⟩
          obtain ⟨rfl, rfl⟩ := hst1
          obtain ⟨W1, hW1⟩ : ∃ W1, wr = W1 := ⟨_, rfl⟩
          rw [hW1] at hpn hT1 hm1 hO1 ⊢
          clear hW1
          have hpx1 : PacksOwn W1 B (.slice xa nx xc) lx := hpx.only hO1 hT.pB.2.1
          have hW01 := hO1.size
          clear hT hmr hpy hpx
          go_wp2_with fail
          go_loopw [17, 21] (fun nv k wq => ∃ (kk : Nat) (ln2 : List PackV) (ox2 : Value) (s2 : SyN) (o2 : List SyP), k = .int .i64 (kk : Nat) ∧ kk ≤ nx ∧ PacksOwn wq W1.heap.size nv ln2 ∧ Hid (ln2.map (·.1) = o2.map (concP l m)) ∧ Hid (takesS l.short m.short g.x (g.tox.take kk) = some (s2, o2)) ∧ TwoAt wq B px tx py ty ox2 oy2 (concN l m s2) (concN m l s1) ∧ MaxLenIs wq ml ∧ Only (· = px) W1 wq) (fun _ k _ => nx - (intOf k).toNat)
          case atStart => exact ⟨0, [], ox, g.x, [], rfl, Nat.zero_le _, ⟨OwnE.nil _ _ _, fun x hx => absurd hx (by simp)⟩, Lib.hid rfl, Lib.hid (by simp [takesS]), hT1, hm1, Only.refl _ _⟩
          case round =>
            obtain ⟨kq, ln2, ox2, s2, o2, rfl, hkq, hpn2, HLN2, HT2, hT2, hm2, hO2⟩ := hrel
            obtain ⟨nb, nd, rfl, hnd1, hnd2⟩ := SeqAt.form hpn2.1.at
            by_cases hlt : kq < nx
            · have hkl : kq < lx.length := by rw [HNX.out]; exact hlt
              obtain ⟨gb, hgb, hgB, hgl, -, hc1, hc2, z0, z1, z2, z3⟩ := hpx1.cells kq hkl
              cases hgb
              have hop := (hpx1.2 lx[kq] (List.getElem_mem hkl))
              have hgp : gb ≠ px := by have := hT1.pB; omega
              replace z0 := hO2.cell (a := ⟨gb, _, none⟩) z0 hgp
              replace z1 := hO2.cell (a := ⟨gb, _, none⟩) z1 hgp
              replace z2 := hO2.cell (a := ⟨gb, _, none⟩) z2 hgp
              replace z3 := hO2.cell (a := ⟨gb, _, none⟩) z3 hgp
              have hop2 := OwnE.strip hop hO2 (by have := hT1.pB; omega)
              have hgt : kq < g.tox.length := by have e1 := HLY.out; have e2 := HLX.out; omega
              have hek : lx[kq].1 = concP m l g.tox[kq] := by
                have e := congrArg (fun x => x[kq]?) HX.out
                simp only [List.getElem?_map, List.getElem?_eq_getElem hkl, List.getElem?_eq_getElem hgt, Option.map_some] at e
                exact Option.some.inj e
              obtain ⟨s3, o3, hpf, hpl⟩ := takesS_prefix _ _ _ _ _ _ H2.out (kq + 1)
              have hsn := takesS_snoc l.short m.short (g.tox.take kq) g.x g.tox[kq]
              rw [← List.take_succ_eq_append_getElem hgt, hpf, HT2.out] at hsn
              dsimp only at hsn
              cases htk : takeS l.short m.short s2 g.tox[kq] with
              | none => rw [htk] at hsn; cases hsn
              | some X =>
                obtain ⟨s4, o4⟩ := X
                rw [htk] at hsn
                have hsn := Option.some.inj hsn
                simp only [Prod.mk.injEq] at hsn
                rw [hsn.1, hsn.2] at hpf
                rw [hsn.2] at hpl
                have hsim := sim_take hl hm hf1 _ _ _ _ htk
                obtain ⟨pk, hpk⟩ : ∃ x, concP m l g.tox[kq] = x := ⟨_, rfl⟩
                have hpkd : pk.data.size ≤ 4611686018427387904 := by rw [← hpk]; exact (show (⟨#[]⟩ : ByteArray).size ≤ 4611686018427387904 by decide)
                rw [hpk] at hsim hek
                obtain ⟨xe, hxe⟩ : ∃ x, lx[kq] = x := ⟨_, rfl⟩
                rw [hxe] at z0 z1 z2 z3 hek hop2
                rw [hek] at z0 z1 z3 hop2
                unfold slOf at z2
                rw [hek] at z2
                have ht := nTake_any px tx ox2 (slOf xe) _ pk ml _ hT2.x hm2 hop2.at hpkd
                rw [hsim] at ht
                unfold packCells slOf at ht
                rw [hek] at ht
                have H4 : Hid (takesS l.short m.short g.x (g.tox.take (kq + 1)) = some (s4, o2 ++ o4)) := Lib.hid hpf
                have hlen4 : o2.length + o4.length ≤ 8 := by rw [List.length_append] at hpl; omega
                have HLL : Hid (ln2.length = o2.length) := Lib.hid (by have := congrArg List.length HLN2.out; simpa using this)
                have hkc : kq < xc := by omega
                clear hpf hpk hxe htk hsim hop hpkd hop2 hsn
                go_wp2_with (first
                  | (go_at_call 18; refine ht.mono ?_; rintro e w3 he3; obtain ⟨v3, l3, o5, rfl, hl3, hq3, hT3, hO3, hm3⟩ := hT2.act he3; obtain ⟨a3, c3, rfl, hc31, hc32⟩ := SeqAt.form hl3.1.at; have HL3 : Hid (l3.length = o4.length) := Lib.hid (by have := congrArg List.length hq3; simpa using this); have HQ3 := Lib.hid hq3; clear hq3)
                  | (at_builtin; refine wpList_appPs rfl _ _ rfl W1.heap.size (Nat.le_trans hO2.size hO3.size) (.slice nb ln2.length nd) (.slice a3 l3.length c3) ln2 l3 ((hpn2.only hO3 (Nat.lt_of_lt_of_le hT1.pB.1 (Nat.le_trans hB0 hW01))).1) hl3.1.at rfl rfl (by have e1 := HLL.out; have e2 := HL3.out; omega) ?_; intro v5 w5 hv5 ho5 hat5))
                have hp3 := hpn2.only hO3 (Nat.lt_of_lt_of_le hT1.pB.1 (Nat.le_trans hB0 hW01))
                have hp5 := packs_join hp3 hl3 hO2.size hv5 ho5
                have hT5 := hT3.grow hp3.1 (Nat.le_trans hB0 hW01) ho5
                have hm5 : MaxLenIs w5 ml := maxLen_only hm3 ho5 (fun e => by have h1 := hp3.1.block _ e; have h2 := block_lt_of_cell hm1; dsimp only at h2; omega)
                have hO5 : Only (· = px) W1 w5 := (hO2.trans hO3).and ho5 (fun i hi => .inr (hp3.1.block i hi))
                have hkn : kq + 1 ≤ nx := hlt
                clear ht hl3 hv5 ho5 hp3 hT3 hm3 hO3
                go_roundw
                case rel =>
                  refine ⟨kq + 1, ln2 ++ l3, o5, s4, o2 ++ o4, by simp [go_sem], hkn, hp5, Lib.hid ?_, H4, hT5, hm5, hO5⟩
                  rw [List.map_append, HLN2.out, HQ3.out, List.map_append]
                case measure => simp [intOf]; omega
            · obtain rfl : kq = nx := by omega
              have hst2 : s2 = gx ∧ o2 = toy := by
                have e := HT2.out
                rw [show g.tox.take kq = g.tox by rw [List.take_of_length_le (by have e1 := HLX.out; omega)], H2.out] at e
                cases e; exact ⟨rfl, rfl⟩
              obtain ⟨rfl, rfl⟩ := hst2
              have hpn3 : PacksOwn wr B (.slice na ln.length nc) ln := (hpn.base hB0).only hO2 hT2.pB.1
              have hpn4 : PacksOwn wr B (.slice nb ln2.length nd) ln2 := hpn2.base (by omega)
              have hOw : Only (fun b => b = px ∨ b = py) w6 wr := (hOr.trans (hO1.mono fun _ _ h => .inr h)).trans (hO2.mono fun _ _ h => .inl h)
              have hj1 : j + 1 + r2 = 20 := by omega
              clear hT1 hm1 hO1 hO2 hpn hpn2 hOr hpx1
              go_wp2_with fail
              go_roundw
              case rel => exact ⟨j + 1, r2, ⟨s2, s1, o1, o2⟩, ln2, ln, ox2, oy2, by simp [go_sem], hj1, H3, hT2, hpn4, HLN2, hpn3, HLN, hm2, hOw⟩
              case measure => simp [intOf]; omega
end Go.Proofs.YtagnbdenecphcaaDoor
