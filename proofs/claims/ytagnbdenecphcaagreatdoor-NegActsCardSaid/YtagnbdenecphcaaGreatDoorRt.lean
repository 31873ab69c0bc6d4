/- withylaw0: SpoilOpts, SpoilPackets. -/
import Derived.Test.YtagnbdenecphcaaGreatDoorRs
namespace Go.Proofs.YtagnbdenecphcaaGreatDoor
open Go.RowKit
set_option linter.unusedVariables false
set_option linter.unusedSimpArgs false
/-- the kinds of a slice's options are numbers, and may be written -/
def Kinds (w : World) (v : Value) : Prop := ∃ a n c, v = .slice a n c ∧ n ≤ c ∧ c ≤ maxLen ∧ ∀ j, j < n → ∃ g o, a = some ⟨g, o, none⟩ ∧ (∃ k : Int, w.cell? ⟨g, o + j * 2, none⟩ = some (.int .i64 k)) ∧ w.frozen? ⟨g, o + j * 2, none⟩ = false
theorem OwnE.unfrozen {P : Program} {α : Type} {E : Elem P α} {w : World} {b g o n c : Nat} {l : List α} (h : OwnE E w b (.slice (some ⟨g, o, none⟩) n c) l) (j : Nat) : o = 0 ∧ w.frozen? ⟨g, j, none⟩ = false := by
  rcases h.2 with ⟨h0, _⟩ | ⟨g', cap, cur, hv, hg, hh, _⟩
  · cases h0
  · simp only [Value.slice.injEq, Option.some.injEq, Addr.mk.injEq] at hv
    obtain ⟨⟨rfl, rfl, _⟩, _, rfl⟩ := hv
    exact ⟨rfl, by simp [World.frozen?, hh]⟩
theorem OwnE.kinds {w : World} {b : Nat} {v : Value} {l : List OptM} (h : OwnE optE w b v l) : Kinds w v := by
  obtain ⟨a, c, rfl, h1, h2⟩ := SeqAt.form h.at
  refine ⟨a, l.length, c, rfl, h1, h2, fun j hj => ?_⟩
  rcases OptsAt.or h.at with ⟨h0, _⟩ | ⟨g, o, c', hv⟩
  · rw [h0] at hj; cases hj
  · simp only [Value.slice.injEq] at hv
    obtain ⟨rfl, _, rfl⟩ := hv
    obtain ⟨_, _, _, hc⟩ := OptsAt.cells h.at
    exact ⟨g, o, rfl, ⟨_, (hc j hj).1⟩, by have := OwnE.unfrozen h (o + j * 2); exact this.2⟩
/-- a number is written where a number stood -/
theorem Kinds.set {w : World} {v : Value} (h : Kinds w v) (p : Addr) (k : Int) : Kinds (w.setCell p (.int .i64 k)) v := by
  obtain ⟨a, n, c, rfl, h1, h2, hc⟩ := h
  refine ⟨a, n, c, rfl, h1, h2, fun j hj => ?_⟩
  obtain ⟨g, o, rfl, ⟨k0, hk⟩, hf⟩ := hc j hj
  refine ⟨g, o, rfl, ?_, by rw [World.frozen?_setCell]; exact hf⟩
  by_cases e : (⟨g, o + j * 2, none⟩ : Addr) = p
  · subst e
    exact ⟨k, World.cell?_setCell_same w _ _ hk⟩
  · exact ⟨k0, by rw [World.cell?_setCell_other w p _ _ (fun h => e h.symm)]; exact hk⟩
set_option maxRecDepth 100000 in
set_option maxHeartbeats 8000000 in
theorem spoilopts_any (v : Value) (w : World) (h : Kinds w v) :
    Calls Tryz.prog 26 #[v] w fun e w' => e = .returned (.tuple #[]) ∧ Only (fun k => v.ownBlock = some k) w w' ∧ ∀ v', Kinds w v' → Kinds w' v' := by
  have h0 := h
  obtain ⟨a, n, c, rfl, h1, h2, -⟩ := h
  have hcm : c ≤ 9223372036854775807 := by unfold maxLen at h2; omega
  have hn : n ≤ 9223372036854775807 := by omega
  have H0 := Lib.hid h0
  clear h0
  go_enter Tryz.func26, Tryz.ntmps26
  go_wp2_with fail
  go_loopw [2] (fun i wr => ∃ j : Nat, j ≤ n ∧ i = .int .i64 j ∧ Only (fun k => (Value.slice a n c).ownBlock = some k) w wr ∧ Hid (∀ v', Kinds w v' → Kinds wr v')) (fun i _ => n - (intOf i).toNat)
  case atStart => exact ⟨0, Nat.zero_le _, rfl, Only.refl _ _, Lib.hid fun v' h => h⟩
  case round =>
    obtain ⟨j, hj, rfl, hO, HK⟩ := hrel
    by_cases hlt : j < n
    · obtain ⟨a', n', c', hv, _, _, hc⟩ := HK.out _ H0.out
      simp only [Value.slice.injEq] at hv
      obtain ⟨rfl, rfl, rfl⟩ := hv
      obtain ⟨g, o, rfl, ⟨k, hk⟩, hf⟩ := hc j hlt
      clear hc
      have hO2 := hO.set (a := ⟨g, o + j * 2, none⟩) (.inl rfl) (.int .i64 (bits BinOp.xor IntKind.i64 k 90))
      have HK2 : Hid (∀ v', Kinds w v' → Kinds (wr.setCell ⟨g, o + j * 2, none⟩ (.int .i64 (bits BinOp.xor IntKind.i64 k 90))) v') := Lib.hid fun v' h => (HK.out v' h).set _ _
      have hjn : j + 1 ≤ n := hlt
      go_wp2_with fail
      go_roundw
      case rel => exact ⟨j + 1, hjn, by go_num, hO2, HK2⟩
      case measure => simp [intOf]; omega
    · obtain rfl : j = n := by omega
      go_wp2_with fail
      go_end0
      exact ⟨rfl, hO, HK.out⟩
/-- packets that are a call's own: each may be written over -/
structure Packs (w : World) (v : Value) (l : List PackV) : Prop where
  form : ∃ g c, v = .slice g l.length c ∧ l.length ≤ c ∧ c ≤ maxLen
  cell : ∀ j (h : j < l.length), ∃ g, v.ownBlock = some g ∧ (∃ x, v = .slice (some ⟨g, 0, none⟩) l.length x) ∧ (∃ k : Value, w.cell? ⟨g, j * 4, none⟩ = some k) ∧ w.cell? ⟨g, j * 4 + 2, none⟩ = some (slOf l[j]) ∧ (∃ k : Value, w.cell? ⟨g, j * 4 + 3, none⟩ = some k) ∧ w.frozen? ⟨g, j * 4, none⟩ = false ∧ w.frozen? ⟨g, j * 4 + 3, none⟩ = false
  kinds : ∀ x ∈ l, Kinds w (slOf x) ∧ ∀ k, (slOf x).ownBlock = some k → v.ownBlock ≠ some k
theorem PacksOwn.packs {w : World} {b : Nat} {v : Value} {l : List PackV} (h : PacksOwn w b v l) : Packs w v l := by
  obtain ⟨a, c, rfl, h1, h2⟩ := SeqAt.form h.1.at
  refine ⟨⟨a, c, rfl, h1, h2⟩, fun j hj => ?_, fun x hx => ⟨(h.2 x hx).kinds, fun k hk hv => own_ne opt_pack_ne (h.2 x hx) h.1 k hk hv⟩⟩
  obtain ⟨g, o, rfl, hg, _, _, _, k0, k1, k2, k3⟩ := PacksAt.cells (PacksOwn.at h) j hj
  obtain ⟨rfl, hf⟩ := OwnE.unfrozen h.1 (j * 4)
  obtain ⟨_, hf3⟩ := OwnE.unfrozen h.1 (j * 4 + 3)
  simp only [Nat.zero_add] at k0 k1 k2 k3
  exact ⟨g, rfl, ⟨c, rfl⟩, ⟨_, k0⟩, k2, ⟨_, k3⟩, hf, hf3⟩
theorem Kinds.only {S : Nat → Prop} {w w' : World} {v : Value} (h : Kinds w v) (ho : Only S w w') (hl : ∀ k, v.ownBlock = some k → k < w.heap.size) (hn : ∀ k, v.ownBlock = some k → ¬ S k) : Kinds w' v := by
  obtain ⟨a, n, c, rfl, h1, h2, hc⟩ := h
  refine ⟨a, n, c, rfl, h1, h2, fun j hj => ?_⟩
  obtain ⟨g, o, rfl, ⟨k0, hk⟩, hf⟩ := hc j hj
  have hb := ho.block g (hl g rfl) (hn g rfl)
  exact ⟨g, o, rfl, ⟨k0, by rw [← hk]; exact World.cell?_of_block hb⟩, by rw [← hf]; simp [World.frozen?, hb]⟩
theorem Kinds.lt {w : World} {v : Value} {l : List OptM} {b : Nat} (h : OwnE optE w b v l) : ∀ k, v.ownBlock = some k → k < w.heap.size := h.lt
/-- the packets, and where their options lie -/
structure PacksL (w : World) (v : Value) (l : List PackV) : Prop extends Packs w v l where
  lt : ∀ k, v.ownBlock = some k → k < w.heap.size
  olt : ∀ x ∈ l, ∀ k, (slOf x).ownBlock = some k → k < w.heap.size
theorem PacksOwn.packsL {w : World} {b : Nat} {v : Value} {l : List PackV} (h : PacksOwn w b v l) : PacksL w v l := ⟨h.packs, h.1.lt, fun x hx => (h.2 x hx).lt⟩
theorem PacksL.opts {w w' : World} {v : Value} {l : List PackV} (h : PacksL w v l) (x : PackV) (hx : x ∈ l) (ho : Only (fun k => (slOf x).ownBlock = some k) w w') (hk : ∀ v', Kinds w v' → Kinds w' v') : PacksL w' v l := by
  refine ⟨⟨h.form, fun j hj => ?_, fun y hy => ⟨hk _ (h.kinds y hy).1, (h.kinds y hy).2⟩⟩, fun k hk => Nat.lt_of_lt_of_le (h.lt k hk) ho.size, fun y hy k hk => Nat.lt_of_lt_of_le (h.olt y hy k hk) ho.size⟩
  obtain ⟨g, hg, hv, ⟨k0, hk0⟩, hk2, ⟨k3, hk3⟩, hf, hf3⟩ := h.cell j hj
  have hb := ho.block g (h.lt g hg) (fun e => (h.kinds x hx).2 g e hg)
  exact ⟨g, hg, hv, ⟨k0, by rw [← hk0]; exact World.cell?_of_block hb⟩, by rw [← hk2]; exact World.cell?_of_block hb, ⟨k3, by rw [← hk3]; exact World.cell?_of_block hb⟩, by rw [← hf]; simp [World.frozen?, hb], by rw [← hf3]; simp [World.frozen?, hb]⟩
theorem PacksL.set {w : World} {v : Value} {l : List PackV} (h : PacksL w v l) (g i : Nat) (x : Value) (hg : v.ownBlock = some g) (hi : i % 4 = 0 ∨ i % 4 = 3) : PacksL (w.setCell ⟨g, i, none⟩ x) v l := by
  have ho := only_set w g i x
  refine ⟨⟨h.form, fun j hj => ?_, fun y hy => ⟨Kinds.only (h.kinds y hy).1 ho (h.olt y hy) (fun k hk e => (h.kinds y hy).2 k hk (by rw [e]; exact hg)), (h.kinds y hy).2⟩⟩, fun k hk => Nat.lt_of_lt_of_le (h.lt k hk) ho.size, fun y hy k hk => Nat.lt_of_lt_of_le (h.olt y hy k hk) ho.size⟩
  obtain ⟨g', hg', hv, ⟨k0, hk0⟩, hk2, ⟨k3, hk3⟩, hf, hf3⟩ := h.cell j hj
  obtain rfl : g = g' := by rw [hg] at hg'; exact Option.some.inj hg'
  have hc : ∀ (m : Nat) (y : Value), w.cell? ⟨g, m, none⟩ = some y → ∃ z, (w.setCell ⟨g, i, none⟩ x).cell? ⟨g, m, none⟩ = some z := by
    intro m y hy
    by_cases e : m = i
    · subst e; exact ⟨x, World.cell?_setCell_same w _ _ hy⟩
    · exact ⟨y, by rw [World.cell?_setCell_other w _ _ _ (fun h => e (by injection h.symm))]; exact hy⟩
  refine ⟨g, hg, hv, hc _ _ hk0, ?_, hc _ _ hk3, by rw [World.frozen?_setCell]; exact hf, by rw [World.frozen?_setCell]; exact hf3⟩
  rw [World.cell?_setCell_other w _ _ _ (fun h => ?_)]
  · exact hk2
  · injection h with _ h2
    omega
set_option maxRecDepth 100000 in
set_option maxHeartbeats 8000000 in
theorem spoilpacks_any (v : Value) (l : List PackV) (w : World) (h : PacksL w v l) :
    Calls Tryz.prog 11 #[v] w fun e w' => e = .returned (.tuple #[]) ∧ Only (fun k => v.ownBlock = some k ∨ ∃ x ∈ l, (slOf x).ownBlock = some k) w w' := by
  obtain ⟨a, c, rfl, h1, h2⟩ := h.form
  have hcm : c ≤ 9223372036854775807 := by unfold maxLen at h2; omega
  have H0 := Lib.hid h
  obtain ⟨n, hn⟩ : ∃ n, l.length = n := ⟨_, rfl⟩
  have HN := Lib.hid hn
  rw [hn] at h1 H0 ⊢
  clear h hn
  go_enter Tryz.func11, Tryz.ntmps11
  go_wp2_with fail
  go_loopw [2] (fun i wr => ∃ j : Nat, j ≤ n ∧ i = .int .i64 j ∧ Only (fun k => (Value.slice a n c).ownBlock = some k ∨ ∃ x ∈ l, (slOf x).ownBlock = some k) w wr ∧ Hid (PacksL wr (.slice a n c) l)) (fun i _ => n - (intOf i).toNat)
  case atStart => exact ⟨0, Nat.zero_le _, rfl, Only.refl _ _, H0⟩
  case round =>
    obtain ⟨j, hj, rfl, hO, HK⟩ := hrel
    by_cases hlt : j < n
    · have hjl : j < l.length := by rw [HN.out]; exact hlt
      obtain ⟨g, hg, ⟨x0, hv⟩, ⟨k0, hk0⟩, hk2, ⟨k3, hk3⟩, hf, hf3⟩ := HK.out.cell j hjl
      simp only [Value.slice.injEq] at hv
      obtain ⟨rfl, -, rfl⟩ := hv
      clear hg
      have hmem := List.getElem_mem hjl
      obtain ⟨x, hx⟩ : ∃ x, l[j] = x := ⟨_, rfl⟩
      rw [hx] at hk2 hmem
      have hsp := spoilopts_any (slOf x) wr (HK.out.kinds x hmem).1
      have hxg := (HK.out.kinds x hmem).2
      have HX := Lib.hid hx
      clear hx
      unfold slOf at hk2 hsp
      have hjn : j + 1 ≤ n := hlt
      go_wp2_with fail
      refine hsp.mono ?_
      rintro e w1 ⟨rfl, ho1, hK1⟩
      have hP1 := HK.out.opts x hmem ho1 hK1
      have hb := ho1.block g (HK.out.lt g rfl) (fun e => hxg g e rfl)
      have d0 : w1.cell? ⟨g, j * 4, none⟩ = some k0 := by rw [← hk0]; exact World.cell?_of_block hb
      have e0 : w1.frozen? ⟨g, j * 4, none⟩ = false := by rw [← hf]; simp [World.frozen?, hb]
      have d3 : w1.cell? ⟨g, j * 4 + 3, none⟩ = some k3 := by rw [← hk3]; exact World.cell?_of_block hb
      have e3 : w1.frozen? ⟨g, j * 4 + 3, none⟩ = false := by rw [← hf3]; simp [World.frozen?, hb]
      have hP2 := hP1.set g (j * 4) (.int .i64 (-7)) rfl (by omega)
      have HP3 := Lib.hid (hP2.set g (j * 4 + 3) (.string ⟨#[115, 112, 111, 105, 108, 116]⟩) rfl (by omega))
      have hO1 := hO.and ho1 (fun i hi => .inl (.inr ⟨x, hmem, hi⟩))
      have hO3 := (hO1.set (a := ⟨g, j * 4, none⟩) (.inl (.inl rfl)) (.int .i64 (-7))).set (a := ⟨g, j * 4 + 3, none⟩) (.inl (.inl rfl)) (.string ⟨#[115, 112, 111, 105, 108, 116]⟩)
      clear hsp ho1 hK1 hP1 hP2 hb hk0 hk2 hk3 hf hf3 hO1 hO HK
      go_wp2_with fail
      go_roundw
      case rel => exact ⟨j + 1, hjn, by go_num, hO3, HP3⟩
      case measure => simp [intOf]; omega
    · obtain rfl : j = n := by omega
      go_wp2_with fail
      go_end0
      exact ⟨rfl, hO⟩
end Go.Proofs.YtagnbdenecphcaaGreatDoor
