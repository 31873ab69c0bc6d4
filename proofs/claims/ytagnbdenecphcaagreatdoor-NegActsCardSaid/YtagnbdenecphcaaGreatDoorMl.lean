/- Plain facts of policy: what a side asks for reads back. Plain facts of policy and control: how a side answers what another asks for. Plain: what stays true of a side. -/
import Derived.Test.YtagnbdenecphcaaGreatDoorMg1
/-! Plain facts of policy: what a side asks for reads back. -/
namespace Go.Proofs.YtagnbdenecphcaaGreatDoor
open Go.RowKit
set_option linter.unusedVariables false
set_option linter.unusedSimpArgs false
theorem valueStep_nat (x : Nat) (b : UInt8) (h : x < 16777216) : valueStep (x : Int) b = ((x * 256 + b.toNat : Nat) : Int) := by
  unfold valueStep
  have hb := b.toNat_lt
  have e : wrap64 ((x : Int) * 256) = ((x * 256 : Nat) : Int) := by
    rw [IntWalk.wrap64_in _ ⟨by omega, by omega⟩]; omega
  rw [e, i64_or_nat _ _ (by omega) (by omega)]
  congr 1
  rw [show x * 256 = x <<< 8 by rw [Nat.shiftLeft_eq], Nat.shiftLeft_add_eq_or_of_lt hb]
theorem u8_of (n : Nat) (h : n < 256) : (UInt8.ofNat n).toNat = n := by simp; omega
theorem byteP_of (x : Nat) (d : Nat) : (UInt8.ofNat (((x : Int) / (d : Nat)) % 256).toNat).toNat = x / d % 256 := by
  have e : (((x : Int) / (d : Nat)) % 256).toNat = x / d % 256 := by omega
  rw [e, u8_of _ (Nat.mod_lt _ (by decide))]
theorem numP2 (x : Nat) : numB x 2 = [UInt8.ofNat (((x : Int) / (256 : Nat)) % 256).toNat, UInt8.ofNat (((x : Int) / (1 : Nat)) % 256).toNat] := rfl
theorem numP4 (x : Nat) : numB x 4 = [UInt8.ofNat (((x : Int) / (16777216 : Nat)) % 256).toNat, UInt8.ofNat (((x : Int) / (65536 : Nat)) % 256).toNat, UInt8.ofNat (((x : Int) / (256 : Nat)) % 256).toNat, UInt8.ofNat (((x : Int) / (1 : Nat)) % 256).toNat] := rfl
theorem value_numB2 (x : Int) (h0 : 0 ≤ x) (h1 : x ≤ 65535) : valueM (numB x 2) = x := by
  obtain ⟨n, rfl⟩ : ∃ n : Nat, x = n := ⟨x.toNat, by omega⟩
  rw [numP2]
  unfold valueM
  simp only [List.foldl_cons, List.foldl_nil]
  rw [show (0 : Int) = ((0 : Nat) : Int) from rfl, valueStep_nat _ _ (by decide), byteP_of, valueStep_nat _ _ (by omega), byteP_of]
  omega
theorem value_numB4 (x : Int) (h0 : 0 ≤ x) (h1 : x ≤ 4294967295) : valueM (numB x 4) = x := by
  obtain ⟨n, rfl⟩ : ∃ n : Nat, x = n := ⟨x.toNat, by omega⟩
  rw [numP4]
  unfold valueM
  simp only [List.foldl_cons, List.foldl_nil]
  rw [show (0 : Int) = ((0 : Nat) : Int) from rfl, valueStep_nat _ _ (by decide), byteP_of, valueStep_nat _ _ (by omega), byteP_of, valueStep_nat _ _ (by omega), byteP_of, valueStep_nat _ _ (by omega), byteP_of]
  omega
theorem bytesOf_list (l : List UInt8) : (bytesOf l).data.toList = l := by simp [bytesOf]
theorem bytesOf_size' (l : List UInt8) : (bytesOf l).size = l.length := by rw [show (bytesOf l).size = (bytesOf l).data.size from rfl, ← Array.length_toList, bytesOf_list]
theorem bytesOf_empty (d : ByteArray) (h : d.data.toList = []) : d = ⟨#[]⟩ := by
  cases d with | mk a => cases a; simp_all
structure MayM (l : LinkM) : Prop where
  mru : l.mru = 0 ∨ (128 ≤ l.mru ∧ l.mru ≤ 1500)
  mrru : l.mrru = 0 ∨ (128 ≤ l.mrru ∧ l.mrru ≤ 1500)
  m0 : 0 ≤ l.magic
  m1 : l.magic ≤ 4294967295
  disc : l.disc.size ≤ 20
  n0 : 0 ≤ l.num
  n1 : l.num ≤ 65535
theorem may_of {l : LinkM} (h : mayM l = true) : MayM l := by
  simp only [mayM, unitM, Bool.and_eq_true, Bool.or_eq_true, decide_eq_true_eq] at h
  obtain ⟨⟨⟨⟨⟨⟨h1, h2⟩, h3⟩, h4⟩, h5⟩, h6⟩, h7⟩ := h
  exact ⟨h1, h2, h3, h4, h5, h6, h7⟩
theorem of_may {l : LinkM} (h : MayM l) : mayM l = true := by
  simp only [mayM, unitM, Bool.and_eq_true, Bool.or_eq_true, decide_eq_true_eq]
  exact ⟨⟨⟨⟨⟨⟨h.mru, h.mrru⟩, h.m0⟩, h.m1⟩, h.disc⟩, h.n0⟩, h.n1⟩
/-- what is asked for, spelt out -/
theorem askM_eq (l : LinkM) : askM l =
    (if l.mru = 0 then [] else [((1 : Int), bytesOf (numB l.mru 2))]) ++ ((if l.magic = 0 then [] else [((5 : Int), bytesOf (numB l.magic 4))]) ++ ((if l.mrru = 0 then [] else [((17 : Int), bytesOf (numB l.mrru 2))]) ++
    ((if l.short then [((18 : Int), (⟨#[]⟩ : ByteArray))] else []) ++ ((if l.disc.data.toList = [] then [] else [((19 : Int), l.disc)]) ++ (if l.num = 0 then [] else [((23 : Int), bytesOf (numB l.num 2))]))))) := by
  obtain ⟨mru, magic, mrru, short, disc, num⟩ := l
  unfold askM kindsM
  simp only [List.filter_cons, List.filter_nil, asksM, fieldM, optOf, sizeM]
  by_cases h1 : mru = 0 <;> by_cases h2 : magic = 0 <;> by_cases h3 : mrru = 0 <;> cases short <;> by_cases h5 : disc.data.toList = [] <;> by_cases h6 : num = 0 <;> simp [h1, h2, h3, h5, h6, optOf, fieldM, sizeM]
/-- the options of a link that may be, and their numbers -/
theorem ask_mem {l : LinkM} (hm : MayM l) {o : OptM} (h : o ∈ askM l) :
    (o = (1, bytesOf (numB l.mru 2)) ∧ l.mru ≠ 0) ∨ (o = (5, bytesOf (numB l.magic 4)) ∧ l.magic ≠ 0) ∨ (o = (17, bytesOf (numB l.mrru 2)) ∧ l.mrru ≠ 0) ∨ (o = (18, ⟨#[]⟩) ∧ l.short = true) ∨ (o = (19, l.disc) ∧ l.disc.data.toList ≠ []) ∨ (o = (23, bytesOf (numB l.num 2)) ∧ l.num ≠ 0) := by
  rw [askM_eq] at h
  simp only [List.mem_append] at h
  rcases h with h | h | h | h | h | h <;> split at h <;> simp at h <;> simp_all
theorem ask_right {l : LinkM} (hm : MayM l) {o : OptM} (h : o ∈ askM l) : rightM o = true ∧ fitM o = true := by
  have hd : ∀ x n, (bytesOf (numB x n)).size = n := fun x n => by rw [bytesOf_size']; simp [numB]
  rcases ask_mem hm h with ⟨rfl, _⟩ | ⟨rfl, _⟩ | ⟨rfl, _⟩ | ⟨rfl, _⟩ | ⟨rfl, h5⟩ | ⟨rfl, _⟩
  · simp [rightM, fitM, sizeM, hd]
  · simp [rightM, fitM, sizeM, hd]
  · simp [rightM, fitM, sizeM, hd]
  · have hz : (⟨#[]⟩ : ByteArray).size = 0 := rfl
    simp [rightM, fitM, sizeM, hz]
  · have h1 : 1 ≤ l.disc.size := by
      rcases Nat.eq_zero_or_pos l.disc.size with h | h
      · exact absurd (List.eq_nil_of_length_eq_zero (by rw [Array.length_toList]; exact h)) h5
      · exact h
    have := hm.disc
    simp [rightM, fitM, sizeM]; omega
  · simp [rightM, fitM, sizeM, hd]
/-- taken apart again: the link itself -/
theorem fold_set_ask {l : LinkM} (hm : MayM l) : (askM l).foldl setM linkZ = l := by
  have v1 := fun h => value_numB2 l.mru h (by have := hm.mru; omega)
  have v2 := value_numB4 l.magic hm.m0 hm.m1
  have v3 := fun h => value_numB2 l.mrru h (by have := hm.mrru; omega)
  have v4 := value_numB2 l.num hm.n0 hm.n1
  have w1 := v1 (by have := hm.mru; omega)
  have w3 := v3 (by have := hm.mrru; omega)
  clear v1 v3 hm
  rw [askM_eq]
  obtain ⟨mru, magic, mrru, short, disc, num⟩ := l
  dsimp only at w1 v2 w3 v4 ⊢
  have hdz : disc.data.toList = [] → disc = ⟨#[]⟩ := bytesOf_empty disc
  by_cases h1 : mru = 0 <;> by_cases h2 : magic = 0 <;> by_cases h3 : mrru = 0 <;> cases short <;> by_cases h5 : disc.data.toList = [] <;> by_cases h6 : num = 0 <;> simp [h1, h2, h3, h5, h6, setM, putF, linkZ, bytesOf_list, w1, v2, w3, v4, hdz] <;> simp_all
end Go.Proofs.YtagnbdenecphcaaGreatDoor
/-! Plain facts of policy and control: how a side answers what another asks for. -/
namespace Go.Proofs.YtagnbdenecphcaaGreatDoor
open Go.RowKit
set_option linter.unusedVariables false
set_option linter.unusedSimpArgs false
theorem range_filterMap {α β : Type} (l : List α) (g : Nat → α → Option β) (f : α → Option β) (h : ∀ i o, l[i]? = some o → g i o = f o) :
    (List.range l.length).filterMap (fun i => (l[i]?).bind (g i)) = l.filterMap f := by
  induction l generalizing g with
  | nil => rfl
  | cons a l ih =>
    rw [List.length_cons, List.range_succ_eq_map, List.filterMap_cons, List.filterMap_map]
    have h0 := h 0 a rfl
    have ih2 := ih (fun i o => g (i + 1) o) (fun i o ho => h (i + 1) o (by simpa using ho))
    simp only [List.getElem?_cons_zero, List.filterMap_cons, Option.bind_some, h0]
    have e : ((fun i => ((a :: l)[i]?).bind (g i)) ∘ Nat.succ) = (fun i => (l[i]?).bind (g (i + 1))) := by
      funext i; simp only [Function.comp, Nat.succ_eq_add_one, List.getElem?_cons_succ]
    rw [e, ih2]
theorem ask_kinds (l : LinkM) : (askM l).map (·.1) = kindsM.filter (asksM l) := by
  unfold askM
  rw [List.map_map]
  exact (List.map_congr_left (g := id) fun k _ => rfl).trans (List.map_id _)
theorem ask_nodup (l : LinkM) : ((askM l).map (·.1)).Nodup := by
  rw [ask_kinds]
  exact List.Pairwise.filter _ (by decide : kindsM.Nodup)
/-- no kind comes twice -/
theorem ask_once (l : LinkM) (i : Nat) (o : OptM) (h : (askM l)[i]? = some o) : (((askM l).take i).any fun q => decide (q.1 = o.1)) = false := by
  rw [List.any_eq_false]
  intro q hq hk
  have hk : q.1 = o.1 := of_decide_eq_true hk
  obtain ⟨j, hj, rfl⟩ := List.getElem_of_mem hq
  rw [List.getElem_take] at hk
  rw [List.length_take] at hj
  have hi := (List.getElem?_eq_some_iff.1 h)
  obtain ⟨hi, rfl⟩ := hi
  have := (List.nodup_iff_pairwise_ne.1 (ask_nodup l))
  rw [List.pairwise_iff_getElem] at this
  exact this j i (by simp; omega) (by simpa using hi) (by omega) (by simpa using hk)
/-- a link that asks may be judged by one whose magic is another -/
def farM (own l : LinkM) : Prop := l.magic = 0 ∨ l.magic ≠ own.magic
theorem ask_better {own l : LinkM} (hm : MayM l) (hf : farM own l) {o : OptM} (h : o ∈ askM l) : betterM own o = none := by
  have u1 : l.mru ≠ 0 → unitM l.mru = true := fun h => by have := hm.mru; simp [unitM]; omega
  have u2 : l.mrru ≠ 0 → unitM l.mrru = true := fun h => by have := hm.mrru; simp [unitM]; omega
  have v1 := value_numB2 l.mru (by have := hm.mru; omega) (by have := hm.mru; omega)
  have v2 := value_numB4 l.magic hm.m0 hm.m1
  have v3 := value_numB2 l.mrru (by have := hm.mrru; omega) (by have := hm.mrru; omega)
  rcases ask_mem hm h with ⟨rfl, h1⟩ | ⟨rfl, h1⟩ | ⟨rfl, h1⟩ | ⟨rfl, h1⟩ | ⟨rfl, h1⟩ | ⟨rfl, h1⟩
  · simp [betterM, bytesOf_list, v1, u1 h1]
  · rcases hf with hf | hf
    · exact absurd hf h1
    · simp [betterM, bytesOf_list, v2, h1, hf]
  · simp [betterM, bytesOf_list, v3, u2 h1]
  · simp [betterM]
  · simp [betterM]
  · simp [betterM]
theorem ask_bads {own l : LinkM} (hm : MayM l) : badsTo own (askM l) (askM l).length = if own.short = false ∧ l.short = true then [(18, ⟨#[]⟩)] else [] := by
  have e : badsTo own (askM l) (askM l).length = (List.range (askM l).length).filterMap (fun i => ((askM l)[i]?).bind fun o => if badM own ((askM l).take i) o then some o else none) := by
    unfold badsTo
    congr 1
    funext i
    cases (askM l)[i]? <;> rfl
  rw [e]
  refine (range_filterMap (askM l) (fun i o => if badM own ((askM l).take i) o then some o else none) (fun o => if o.1 = 18 ∧ own.short = false then some o else none) ?_).trans ?_
  rotate_left
  · by_cases h1 : own.short = false ∧ l.short = true
    · rw [if_pos h1, askM_eq]
      obtain ⟨h1, h2⟩ := h1
      simp only [List.filterMap_append, h1, h2]
      by_cases g1 : l.mru = 0 <;> by_cases g2 : l.magic = 0 <;> by_cases g3 : l.mrru = 0 <;> by_cases g5 : l.disc.data.toList = [] <;> by_cases g6 : l.num = 0 <;> simp [g1, g2, g3, g5, g6]
    · rw [if_neg h1, List.filterMap_eq_nil_iff]
      intro o ho
      rw [if_neg]
      rintro ⟨h2, h3⟩
      rcases ask_mem hm ho with ⟨rfl, h⟩ | ⟨rfl, h⟩ | ⟨rfl, h⟩ | ⟨rfl, h⟩ | ⟨rfl, h⟩ | ⟨rfl, h⟩
      all_goals first | (exact absurd h2 (by dsimp only; decide)) | exact h1 ⟨h3, h⟩
  · intro i o ho
    have h1 := (ask_right hm (List.mem_of_getElem? ho)).1
    have h2 := ask_once l i o ho
    simp only [badM, h1, h2]
    simp
theorem ask_betters {own l : LinkM} (hm : MayM l) (hf : farM own l) : bettersTo own (askM l) (askM l).length = [] := by
  unfold bettersTo
  rw [List.filterMap_eq_nil_iff]
  intro i hi
  cases h : (askM l)[i]? with
  | none => rfl
  | some o =>
    simp only []
    split
    · rfl
    · exact ask_better hm hf (List.mem_of_getElem? h)
theorem ask_fit {l : LinkM} (hm : MayM l) : (askM l).any (fun o => !fitM o) = false := by
  rw [List.any_eq_false]
  intro o ho
  simp [(ask_right hm ho).2]
/-- what another asks for is acked, or its short heads are refused -/
theorem judge_ask {own l : LinkM} (ho : mayM own = true) (hm : MayM l) (hf : farM own l) :
    judgeM own (askM l) = if own.short = false ∧ l.short = true then (2, [(18, ⟨#[]⟩)], 0) else (0, askM l, 0) := by
  unfold judgeM
  rw [if_neg (by rw [ho, ask_fit hm]; simp), ask_bads hm, ask_betters hm hf]
  split <;> simp
theorem taken_ask {l : LinkM} (hm : mayM l = true) : takenM (askM l) = (l, 0) := by
  have hM := may_of hm
  unfold takenM
  rw [fold_set_ask hM, hm]
  have : takenBad (askM l) (askM l).length = false := by
    unfold takenBad
    rw [List.any_eq_false]
    intro i hi
    cases h : (askM l)[i]? with
    | none => simp
    | some o =>
      simp only [(ask_right hM (List.mem_of_getElem? h)).1, ask_once l i o h]
      simp
  rw [this]
  simp
def cutM (l : LinkM) : LinkM := { l with short := false }
theorem learn_cut {l : LinkM} (hm : mayM l = true) (hs : l.short = true) : learnM l 4 [(18, ⟨#[]⟩)] = (cutM l, 0) := by
  have hr : rightM (18, ⟨#[]⟩) = true := by
    have hz : (⟨#[]⟩ : ByteArray).size = 0 := rfl
    simp [rightM, sizeM, hz]
  unfold learnM
  rw [if_neg (by rw [hm]; simp)]
  simp only [List.foldl_cons, List.foldl_nil, learnStep, hr, asksM, hs, clearM, cutM]
  simp
theorem cut_may {l : LinkM} (hm : mayM l = true) : mayM (cutM l) = true := hm
/-! ### packets that may be sent -/
theorem optBP_len (o : OptM) : (optB o).length = 2 + o.2.size := by
  unfold optB
  rw [List.length_cons, List.length_cons, Array.length_toList, show o.2.data.size = o.2.size from rfl]; omega
theorem optsTo_len (os : List OptM) (h : ∀ o ∈ os, o.2.size ≤ 20) (k : Nat) : (optsTo os k).length ≤ 22 * k := by
  unfold optsTo
  induction os generalizing k with
  | nil => simp
  | cons a l ih =>
    cases k with
    | zero => simp
    | succ k =>
      rw [List.take_succ_cons, List.flatMap_cons, List.length_append, optBP_len]
      have := ih (fun o ho => h o (List.mem_cons_of_mem _ ho)) k
      have := h a (List.mem_cons_self ..)
      omega
theorem opts_fit (os : List OptM) (hn : os.length ≤ 6) (hz : ∀ o ∈ os, o.2.size ≤ 20 ∧ 0 ≤ o.1 ∧ o.1 ≤ 255) : (optsM os).2 = 0 ∧ (optsM os).1.length ≤ 132 := by
  have hz1 : ∀ o ∈ os, o.2.size ≤ 20 := fun o ho => (hz o ho).1
  unfold optsM
  rw [if_neg, if_neg]
  · exact ⟨rfl, Nat.le_trans (optsTo_len os hz1 _) (by omega)⟩
  · simp only [List.any_eq_true, List.mem_range, not_exists, not_and]
    intro k hk h
    unfold optLong at h
    rw [List.getElem?_eq_getElem hk] at h
    have h1 := optsTo_len os hz1 k
    have h2 := hz1 _ (List.getElem_mem hk)
    simp at h
    omega
  · simp only [List.any_eq_true, not_exists, not_and]
    intro o ho h
    have := (hz o ho).2
    simp at h
    omega
theorem control_opts (c id : Int) (os : List OptM) (hc : 1 ≤ c ∧ c ≤ 4) (hi : 0 ≤ id ∧ id ≤ 255) (hn : os.length ≤ 6) (hz : ∀ o ∈ os, o.2.size ≤ 20 ∧ 0 ≤ o.1 ∧ o.1 ≤ 255) : (controlM ⟨c, id, os, ⟨#[]⟩⟩).2 = 0 := by
  obtain ⟨h1, h2⟩ := opts_fit os hn hz
  have hd : (⟨#[]⟩ : ByteArray).size = 0 := rfl
  unfold controlM
  rw [if_neg, if_neg, if_neg]
  · simp only [hd]; omega
  · simp [h1, confM]; omega
  · simp [octetM]; omega
theorem ask_small {l : LinkM} (hm : MayM l) : ∀ o ∈ askM l, o.2.size ≤ 20 ∧ 0 ≤ o.1 ∧ o.1 ≤ 255 := by
  intro o ho
  have hd : ∀ x n, (bytesOf (numB x n)).size = n := fun x n => by rw [bytesOf_size']; simp [numB]
  have hz : (⟨#[]⟩ : ByteArray).size = 0 := rfl
  have := hm.disc
  rcases ask_mem hm ho with ⟨rfl, _⟩ | ⟨rfl, _⟩ | ⟨rfl, _⟩ | ⟨rfl, _⟩ | ⟨rfl, _⟩ | ⟨rfl, _⟩ <;> simp [hd, hz] <;> omega
theorem ask_le (l : LinkM) : (askM l).length ≤ 6 := by
  unfold askM
  rw [List.length_map]
  exact Nat.le_trans (List.length_filter_le _ _) (by decide)
theorem control_ask (c id : Int) {l : LinkM} (hm : mayM l = true) (hc : 1 ≤ c ∧ c ≤ 4) (hi : 0 ≤ id ∧ id ≤ 255) : (controlM ⟨c, id, askM l, ⟨#[]⟩⟩).2 = 0 :=
  control_opts c id _ hc hi (ask_le l) (ask_small (may_of hm))
theorem control_plain (c id : Int) (d : ByteArray) (hc : 5 ≤ c ∧ c ≤ 255) (hi : 0 ≤ id ∧ id ≤ 255) (hd : d.size ≤ 2044) : (controlM ⟨c, id, [], d⟩).2 = 0 := by
  have h0 : optsM [] = ([], 0) := rfl
  unfold controlM
  rw [if_neg, if_neg, if_neg]
  · simp [h0]; omega
  · simp [h0, confM]; omega
  · simp [octetM]; omega
theorem take_some {s s1 : NegM} {p : PacketM} {r : ReplyM} {e : Int} (hc : (controlM p).2 = 0) (hst : ¬ (s.state = 0 ∨ s.state = 1)) (he : eventM s p = (s1, r, some e)) : takeM s p = runM s1 e r := by
  unfold takeM
  rw [if_neg (by rw [hc]; simp), if_neg hst, he]
theorem take_none {s s1 : NegM} {p : PacketM} {r : ReplyM} (hc : (controlM p).2 = 0) (hst : ¬ (s.state = 0 ∨ s.state = 1)) (he : eventM s p = (s1, r, none)) : takeM s p = (s1, [], 0) := by
  unfold takeM
  rw [if_neg (by rw [hc]; simp), if_neg hst, he]
end Go.Proofs.YtagnbdenecphcaaGreatDoor
/-! Plain: what stays true of a side. -/
namespace Go.Proofs.YtagnbdenecphcaaGreatDoor
open Go.RowKit
set_option linter.unusedVariables false
set_option linter.unusedSimpArgs false
structure GoodM (s : NegM) : Prop where
  st : 0 ≤ s.state ∧ s.state ≤ 9
  left : 0 ≤ s.left ∧ s.left ≤ 10
  tries : 1 ≤ s.tries ∧ s.tries ≤ 10
  id : 0 ≤ s.id ∧ s.id ≤ 255
  may : mayM s.own = true
theorem good_new {l : LinkM} {tries : Int} (hm : mayM l = true) (h1 : 1 ≤ tries) (h2 : tries ≤ 10) : GoodM (newM l tries) :=
  ⟨⟨Int.le_refl 0, (by decide : (0 : Int) ≤ 9)⟩, ⟨Int.le_refl 0, (by decide : (0 : Int) ≤ 10)⟩, ⟨h1, h2⟩, ⟨Int.le_refl 0, (by decide : (0 : Int) ≤ 255)⟩, hm⟩
theorem good_left {s : NegM} (h : GoodM s) (act : Int) : GoodM (setLeft s act) := by
  obtain ⟨h1, h2, h3, h4, h5⟩ := h
  unfold setLeft
  split
  · exact ⟨h1, ⟨by dsimp only; omega, by dsimp only; omega⟩, h3, h4, h5⟩
  · split
    · exact ⟨h1, ⟨by dsimp only; omega, by dsimp only; omega⟩, h3, h4, h5⟩
    · exact ⟨h1, h2, h3, h4, h5⟩
theorem good_send {s : NegM} (h : GoodM s) (act : Int) (r : ReplyM) : GoodM (sendM s act r).1 := by
  obtain ⟨h1, h2, h3, h4, h5⟩ := h
  have hid : 0 ≤ (s.id + 1) % 256 ∧ (s.id + 1) % 256 ≤ 255 := by omega
  have hl : 0 ≤ max 0 (s.left - 1) ∧ max 0 (s.left - 1) ≤ 10 := by omega
  unfold sendM
  split
  · exact ⟨h1, hl, h3, hid, h5⟩
  split
  · exact ⟨h1, hl, h3, hid, h5⟩
  split
  · exact ⟨h1, h2, h3, h4, h5⟩
  split
  · exact ⟨h1, h2, h3, h4, h5⟩
  split
  · exact ⟨h1, h2, h3, h4, h5⟩
  split
  · exact ⟨h1, h2, h3, hid, h5⟩
  split <;> exact ⟨h1, h2, h3, h4, h5⟩
theorem good_acts {s : NegM} (h : GoodM s) (r : ReplyM) (acts : List Int) (out : List PacketM) : GoodM (acts.foldl (actM r) (s, out)).1 := by
  induction acts generalizing s out with
  | nil => exact h
  | cons a l ih =>
    rw [List.foldl_cons]
    exact ih (good_send (good_left h a) a r) _
theorem steps_good : (List.range 16).all (fun v => (List.range 10).all fun s => decide ((stepSays s v).2.2 ≠ 0) || (decide (0 ≤ (stepSays s v).1) && decide ((stepSays s v).1 ≤ 9))) = true := by decide +kernel
theorem steps_len : (List.range 16).all (fun v => (List.range 10).all fun s => decide ((stepSays s v).2.1.length ≤ 16)) = true := by decide +kernel
theorem step_range {s v : Int} (h : (stepSays s v).2.2 = 0) : ∃ a b : Nat, s = a ∧ v = b ∧ a < 10 ∧ b < 16 := by
  unfold stepSays at h
  split at h
  · cases h
  · exact ⟨s.toNat, v.toNat, by omega, by omega, by omega, by omega⟩
theorem step_state {s v : Int} (h : (stepSays s v).2.2 = 0) : 0 ≤ (stepSays s v).1 ∧ (stepSays s v).1 ≤ 9 := by
  obtain ⟨a, b, rfl, rfl, ha, hb⟩ := step_range h
  have := List.all_eq_true.1 (List.all_eq_true.1 steps_good b (List.mem_range.2 hb)) a (List.mem_range.2 ha)
  simp only [Bool.or_eq_true, Bool.and_eq_true, decide_eq_true_eq] at this
  omega
theorem step_len {s v : Int} (h : (stepSays s v).2.2 = 0) : (stepSays s v).2.1.length ≤ 16 := by
  obtain ⟨a, b, rfl, rfl, ha, hb⟩ := step_range h
  simpa using List.all_eq_true.1 (List.all_eq_true.1 steps_len b (List.mem_range.2 hb)) a (List.mem_range.2 ha)
theorem good_run {s : NegM} (h : GoodM s) (ev : Int) (r : ReplyM) : GoodM (runM s ev r).1 := by
  unfold runM
  split
  · exact h
  · rename_i he
    have hs := step_state (s := s.state) (v := ev) (by omega)
    exact good_acts (s := { s with state := (stepSays s.state ev).1 }) ⟨hs, h.left, h.tries, h.id, h.may⟩ _ _ _
theorem good_do {s : NegM} (h : GoodM s) (ev : Int) : GoodM (doM s ev).1 := by
  unfold doM
  split
  · exact good_run h _ _
  · split
    · exact good_run h _ _
    · exact h
theorem valueM_two (l : List UInt8) (h : l.length = 2) : 0 ≤ valueM l ∧ valueM l ≤ 65535 := by
  match l, h with
  | [a, b], _ =>
    have ha := a.toNat_lt; have hb := b.toNat_lt
    unfold valueM
    simp only [List.foldl_cons, List.foldl_nil]
    rw [show (0 : Int) = ((0 : Nat) : Int) from rfl, valueStep_nat _ _ (by decide), valueStep_nat _ _ (by omega)]
    omega
theorem valueM_four (l : List UInt8) (h : l.length = 4) : 0 ≤ valueM l ∧ valueM l ≤ 4294967295 := by
  match l, h with
  | [a, b, c, d], _ =>
    have ha := a.toNat_lt; have hb := b.toNat_lt; have hc := c.toNat_lt; have hd := d.toNat_lt
    unfold valueM
    simp only [List.foldl_cons, List.foldl_nil]
    rw [show (0 : Int) = ((0 : Nat) : Int) from rfl, valueStep_nat _ _ (by decide), valueStep_nat _ _ (by omega), valueStep_nat _ _ (by omega), valueStep_nat _ _ (by omega)]
    omega
theorem clear_may {l : LinkM} (h : MayM l) (k : Int) : MayM (clearM l k) := by
  obtain ⟨h1, h2, h3, h4, h5, h6, h7⟩ := h
  unfold clearM putF
  split
  · exact ⟨h1, h2, h3, h4, h5, h6, h7⟩
  split
  · exact ⟨h1, h2, h3, h4, Nat.zero_le 20, h6, h7⟩
  split
  · exact ⟨.inl rfl, h2, h3, h4, h5, h6, h7⟩
  split
  · exact ⟨h1, h2, Int.le_refl 0, (by decide : (0 : Int) ≤ 4294967295), h5, h6, h7⟩
  split
  · exact ⟨h1, .inl rfl, h3, h4, h5, h6, h7⟩
  · exact ⟨h1, h2, h3, h4, h5, Int.le_refl 0, (by decide : (0 : Int) ≤ 65535)⟩
theorem right_size {o : OptM} (h : rightM o = true) : (o.1 = 1 ∨ o.1 = 17 ∨ o.1 = 23 → o.2.data.toList.length = 2) ∧ (o.1 = 5 → o.2.data.toList.length = 4) ∧ (o.1 = 19 → o.2.size ≤ 20) := by
  have hz : o.2.data.toList.length = o.2.size := by rw [Array.length_toList]; rfl
  unfold rightM sizeM at h
  simp only [Bool.or_eq_true, Bool.and_eq_true, decide_eq_true_eq] at h
  rw [hz]
  refine ⟨?_, ?_, ?_⟩
  · rintro (h1 | h1 | h1) <;> simp [h1] at h <;> omega
  · intro h1
    simp [h1] at h; omega
  · intro h1
    simp [h1] at h; omega
theorem learnOne_may {l : LinkM} (h : MayM l) {o : OptM} (hr : rightM o = true) (ha : asksM l o.1 = true) : MayM (learnOne l o) := by
  obtain ⟨h1, h2, h3, h4, h5, h6, h7⟩ := h
  obtain ⟨r2, r4, r19⟩ := right_size hr
  unfold learnOne
  split
  · exact ⟨h1, h2, h3, h4, h5, h6, h7⟩
  · rename_i hc
    unfold setM
    split
    · exact ⟨h1, h2, h3, h4, h5, h6, h7⟩
    split
    · exact ⟨h1, h2, h3, h4, r19 (by assumption), h6, h7⟩
    unfold putF
    split
    · rename_i e
      refine ⟨.inr ?_, h2, h3, h4, h5, h6, h7⟩
      have : unitM (valueM o.2.data.toList) = true := by
        cases hu : unitM (valueM o.2.data.toList) with
        | true => rfl
        | false => exact absurd (.inl ⟨.inl e, hu⟩) hc
      simpa [unitM] using this
    split
    · rename_i e
      have := valueM_four _ (r4 e)
      exact ⟨h1, h2, this.1, this.2, h5, h6, h7⟩
    split
    · rename_i e
      refine ⟨h1, .inr ?_, h3, h4, h5, h6, h7⟩
      have : unitM (valueM o.2.data.toList) = true := by
        cases hu : unitM (valueM o.2.data.toList) with
        | true => rfl
        | false => exact absurd (.inl ⟨.inr e, hu⟩) hc
      simpa [unitM] using this
    · rename_i e18 e19 e1 e5 e17
      have e23 : o.1 = 23 := by
        unfold asksM fieldM at ha
        rw [if_neg e18, if_neg e19, if_neg e1, if_neg e5, if_neg e17] at ha
        split at ha
        · rename_i h
          split at h
          · assumption
          · cases h
        · cases ha
      have := valueM_two _ (r2 (.inr (.inr e23)))
      exact ⟨h1, h2, h3, h4, h5, this.1, this.2⟩
theorem learn_may {l : LinkM} (h : mayM l = true) (code : Int) (hc : code = 3 ∨ code = 4) (os : List OptM) : mayM (learnM l code os).1 = true := by
  unfold learnM
  rw [if_neg (by rw [h]; simp; omega)]
  apply of_may
  replace h := may_of h
  dsimp only
  induction os generalizing l with
  | nil => exact h
  | cons o os ih =>
    rw [List.foldl_cons]
    refine ih ?_
    unfold learnStep
    split
    · exact h
    · rename_i hn
      split
      · exact clear_may h _
      · exact learnOne_may h (by cases e : rightM o <;> simp_all) (by cases e : asksM l o.1 <;> simp_all)
theorem good_event {s : NegM} (h : GoodM s) (p : PacketM) : GoodM (eventM s p).1 := by
  unfold eventM
  split
  · exact h
  split
  · exact h
  split
  · rename_i hc
    split
    · exact ⟨h.st, h.left, h.tries, h.id, learn_may h.may _ hc _⟩
    · exact h
  · exact h
theorem good_take {s : NegM} (h : GoodM s) (p : PacketM) : GoodM (takeM s p).1 := by
  unfold takeM
  split
  · exact h
  split
  · exact h
  split
  · exact good_event h p
  · exact good_run (good_event h p) _ _
end Go.Proofs.YtagnbdenecphcaaGreatDoor
