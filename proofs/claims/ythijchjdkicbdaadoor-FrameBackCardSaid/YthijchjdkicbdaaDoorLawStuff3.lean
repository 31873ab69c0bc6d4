/- The walk of StuffJoins. -/
import Derived.Test.YthijchjdkicbdaaDoorLawStuff4
namespace Go.Proofs.YthijchjdkicbdaaDoor
open Go.RowKit
/-- a slice of texts that came in -/
def TextsIn (w : World) (pa : Option Addr) (l : List ByteArray) : Prop := ∀ j (h : j < l.length), ∃ g o, pa = some ⟨g, o, none⟩ ∧ w.cell? ⟨g, o + j, none⟩ = some (.string l[j])
theorem TextsIn.below {w w' : World} {pa : Option Addr} {l : List ByteArray} (h : TextsIn w pa l) (hb : Below w.heap.size w w') : TextsIn w' pa l := by
  intro j hj
  obtain ⟨g, o, e, hc⟩ := h j hj
  exact ⟨g, o, e, below_cellx hb hc⟩
def joined (a : List UInt8) (ps : List (List UInt8)) : List UInt8 := a ++ ps.flatMap (126 :: ·)
theorem joined_snoc (a : List UInt8) (ps : List (List UInt8)) (p : List UInt8) : joined a (ps ++ [p]) = joined a ps ++ 126 :: p := by simp [joined]
theorem cut_joined (ps : List (List UInt8)) : ∀ (a b : List UInt8), 126 ∉ a → (∀ p ∈ ps, 126 ∉ p) → 126 ∉ b → cut (joined a ps ++ 126 :: b) = a :: (ps ++ [b]) := by
  induction ps with
  | nil => intro a b ha _ hb; simp only [joined, List.flatMap_nil, List.append_nil]; rw [cut_append a b ha, cut_none b hb]; rfl
  | cons p ps ih =>
    intro a b ha hp hb
    have e : joined a (p :: ps) ++ 126 :: b = a ++ 126 :: (joined p ps ++ 126 :: b) := by simp [joined]
    rw [e, cut_append a _ ha, ih p b (hp p (by simp)) (fun q hq => hp q (by simp [hq])) hb]; rfl
theorem got_joined (a b : List UInt8) (ps : List (List UInt8)) (ha : 126 ∉ a) (hp : ∀ p ∈ ps, 126 ∉ p) (hb : 126 ∉ b) :
    gotOf (joined a ps ++ 126 :: b) = ps.filter (fun p => !p.isEmpty) ∧ restOf (joined a ps ++ 126 :: b) = b := by
  unfold gotOf restOf
  simp only [cut_joined ps a b ha hp hb]
  refine ⟨?_, by rw [List.getLast_cons (by simp), List.getLast_concat]⟩
  have : (a :: (ps ++ [b])).tail.dropLast = ps := by rw [List.tail_cons, List.dropLast_concat]
  rw [this]
def stuffs (l : List ByteArray) : List (List UInt8) := l.map fun p => stuff 0 p.data.toList
theorem stuffs_no (l : List ByteArray) : ∀ p ∈ stuffs l, 126 ∉ p := by
  intro p hp
  obtain ⟨x, _, rfl⟩ := List.mem_map.1 hp
  exact stuff_noflag _ _
set_option maxRecDepth 100000 in
set_option maxHeartbeats 4000000 in
theorem stuffJoins_walk (pa : Option Addr) (ca : Nat) (l : List ByteArray) (first last : ByteArray) (ml : Int) (w : World) (hl : TextsIn w pa l) (hn : l.length ≤ 9223372036854775807) (hz : ∀ j (h : j < l.length), l[j].size ≤ 1048576)
    (hf : first.size ≤ 1048576) (hla : last.size ≤ 1048576) (hml : MaxLenIs w ml) :
    Calls Tryd.prog 5 #[.slice pa l.length ca, .string first, .string last] w fun e w' => e = .returned (.bool true) ∧ Below w.heap.size w w' := by
  obtain ⟨A, hA⟩ : ∃ A, bytesOf (stuff 0 first.data.toList) = A := ⟨_, rfl⟩
  obtain ⟨B, hB⟩ : ∃ B, bytesOf (stuff 0 last.data.toList) = B := ⟨_, rfl⟩
  have zA : A.size ≤ 2097152 := by rw [← hA, bytesOf_size]; have := stuff_length 0 first.data.toList; rw [len_toList] at this; omega
  have zB : B.size ≤ 2097152 := by rw [← hB, bytesOf_size]; have := stuff_length 0 last.data.toList; rw [len_toList] at this; omega
  have hAl : A.data.toList = joined (stuff 0 first.data.toList) (stuffs (l.take 0)) := by rw [← hA]; simp [bytesOf, joined, stuffs]
  have hBl : B.data.toList = stuff 0 last.data.toList := by rw [← hB]; rfl
  obtain ⟨n, hnl⟩ : ∃ n, l.length = n := ⟨_, rfl⟩
  rw [hnl] at hn ⊢
  have HA := Lib.hid hA
  have HB := Lib.hid hB
  have HAl := Lib.hid hAl
  have HBl := Lib.hid hBl
  have Hnl := Lib.hid hnl
  clear hA hB hAl hBl hnl
  go_enter Tryd.func5, Tryd.ntmps5
  go_wp2_with fail
  refine (awake2_any ml _ hml).mono ?_
  rintro e w1 ⟨rfl, hb1⟩
  go_wp2_with fail
  refine (sput_any _ _ _ (by omega)).mono ?_
  rintro e w2 ⟨rfl, hb2⟩
  rw [HA.out]
  go_wp2_with fail
  refine (sput_any _ _ _ (by omega)).mono ?_
  rintro e w3 ⟨rfl, hb3⟩
  rw [HB.out]
  have hB3 := seqB (seqB hb1 hb2) hb3
  clear hb1 hb2 hb3
  go_wp2_with fail
  go_loopw [9, 10, 11] (fun x v i wr => ∃ (k : Nat) (X : ByteArray), k ≤ n ∧ k ≤ 10 ∧ i = .int .i64 k ∧ x = .string X ∧ X.size ≤ (k + 1) * 2097153 ∧ Hid (X.data.toList = joined (stuff 0 first.data.toList) (stuffs (l.take k))) ∧ OwnT wr w.heap.size v (((stuffs (l.take k)).filter (fun p => !p.isEmpty)).map bytesOf) ∧ Below w.heap.size w wr) (fun _ _ i _ => n - (intOf i).toNat)
  case atStart => exact ⟨0, A, Nat.zero_le _, Nat.zero_le _, rfl, rfl, by omega, HAl, OwnT.nil _ _, hB3⟩
  case round =>
    obtain ⟨k, X, hk, hk10, rfl, rfl, zX, hX, hown, hbl⟩ := hrel
    clear hB3
    have hwl : (((stuffs (l.take k)).filter (fun p => !p.isEmpty)).map bytesOf).length ≤ 10 := by
      rw [List.length_map]
      refine Nat.le_trans (List.length_filter_le _ _) ?_
      simp [stuffs]; omega
    by_cases hlt : k < n
    · by_cases hlt2 : k < 10
      · obtain ⟨g, o, rfl, hc0⟩ := hl k (by rw [Hnl.out]; exact hlt)
        have hc := below_cellx hbl hc0
        have hzk := hz k (by rw [Hnl.out]; exact hlt)
        have htk : l.take (k + 1) = l.take k ++ [l[k]'(by rw [Hnl.out]; exact hlt)] := List.take_succ_eq_append_getElem _
        have hst : stuffs (l.take (k + 1)) = stuffs (l.take k) ++ [stuff 0 (l[k]'(by rw [Hnl.out]; exact hlt)).data.toList] := by rw [htk]; unfold stuffs; rw [List.map_append]; rfl
        obtain ⟨y, hy⟩ : ∃ y, l[k]'(by rw [Hnl.out]; exact hlt) = y := ⟨_, rfl⟩
        rw [hy] at hc hzk hst
        have Hst := Lib.hid hst
        clear hy hst htk hc0
        obtain ⟨P, hP⟩ : ∃ P, bytesOf (stuff 0 y.data.toList) = P := ⟨_, rfl⟩
        have zP : P.size ≤ 2097152 := by rw [← hP, bytesOf_size]; have := stuff_length 0 y.data.toList; rw [len_toList] at this; omega
        have HP := Lib.hid hP
        clear hP
        have n1 : ¬ (9223372036854775807 : Int) < X.size + 1 := by omega
        have n2 : ¬ (9223372036854775807 : Int) < X.size + 1 + P.size := by omega
        go_wp2_with fail
        refine (sput_any _ _ _ (by omega)).mono ?_
        rintro e w4 ⟨rfl, hb4⟩
        rw [HP.out]
        replace hown := hown.below hb4
        replace hbl := seqB hbl hb4
        clear hb4
        have z1 : (⟨#[126]⟩ : ByteArray).size = 1 := rfl
        have zX' : (X ++ (⟨#[126]⟩ : ByteArray) ++ P).size ≤ (k + 1 + 1) * 2097153 := by simp only [ByteArray.size_append, z1]; omega
        have hX' : Hid ((X ++ (⟨#[126]⟩ : ByteArray) ++ P).data.toList = joined (stuff 0 first.data.toList) (stuffs (l.take (k + 1)))) := Lib.hid (by
          rw [Hst.out, joined_snoc, ← hX.out, ← HP.out]; simp [bytesOf])
        clear z1
        by_cases hp0 : P.data.toList = []
        · have q : P.toList = [] := by rw [ba_toList]; exact hp0
          have hsame : Hid ((stuffs (l.take (k + 1))).filter (fun p => !p.isEmpty) = (stuffs (l.take k)).filter (fun p => !p.isEmpty)) := Lib.hid (by
            rw [Hst.out, List.filter_append]
            have : stuff 0 y.data.toList = [] := by rw [← HP.out] at hp0; exact hp0
            rw [this]; simp)
          clear hp0
          go_wp2_with fail
          go_roundw
          case rel => exact ⟨k + 1, _, by omega, by omega, by go_num, rfl, zX', hX', by rw [hsame.out]; exact hown, hbl⟩
          case measure => simp [intOf]; omega
        · obtain ⟨c0, cs, q⟩ : ∃ c0 cs, P.toList = c0 :: cs := by
            rw [ba_toList]
            cases h : P.data.toList with
            | nil => exact absurd h hp0
            | cons c0 cs => exact ⟨c0, cs, rfl⟩
          have hsame : Hid (((stuffs (l.take (k + 1))).filter (fun p => !p.isEmpty)).map bytesOf = ((stuffs (l.take k)).filter (fun p => !p.isEmpty)).map bytesOf ++ [P]) := Lib.hid (by
            rw [Hst.out, List.filter_append, List.map_append]
            have : (stuff 0 y.data.toList).isEmpty = false := by
              rw [← HP.out] at hp0
              cases h : stuff 0 y.data.toList with
              | nil => exact absurd (by rw [h]; rfl) hp0
              | cons _ _ => rfl
            simp [this, HP.out])
          clear hp0
          go_wp2_with (at_builtin; refine wpList_appT rfl _ _ rfl w _ _ P 1 hown rfl rfl (by omega) hbl ?_; intro v' w5 hown1 hbl1)
          go_roundw
          case rel => exact ⟨k + 1, _, by omega, by omega, by go_num, rfl, zX', hX', by rw [hsame.out]; exact hown1, hbl1⟩
          case measure => simp [intOf]; omega
      · obtain rfl : k = 10 := by omega
        have n1 : ¬ (9223372036854775807 : Int) < X.size + 1 := by omega
        have n2 : ¬ (9223372036854775807 : Int) < X.size + 1 + B.size := by omega
        obtain ⟨Y, hY⟩ : ∃ Y, X ++ (⟨#[126]⟩ : ByteArray) ++ B = Y := ⟨_, rfl⟩
        have zY : Y.size < 4294967281 := by
          have z1 : (⟨#[126]⟩ : ByteArray).size = 1 := rfl
          rw [← hY]; simp only [ByteArray.size_append, z1]; omega
        have hYl : Y.data.toList = joined (stuff 0 first.data.toList) (stuffs (l.take 10)) ++ 126 :: stuff 0 last.data.toList := by
          rw [← hY, ← hX.out, ← HBl.out]; simp
        obtain ⟨g1, g2⟩ := got_joined (stuff 0 first.data.toList) (stuff 0 last.data.toList) (stuffs (l.take 10)) (stuff_noflag _ _) (stuffs_no _) (stuff_noflag _ _)
        rw [← hYl] at g1 g2
        have G1 := Lib.hid g1
        have G2 := Lib.hid g2
        clear g1 g2 hYl
        go_wp2_with fail
        refine (ssplit_any _ ml _ zY (hml.below hbl)).mono ?_
        rintro e w4 ⟨v, rfl, hown2, hb4⟩
        rw [G2.out, HB.out]
        rw [G1.out] at hown2
        replace hown := hown.below hb4
        have hB4 := seqB hbl hb4
        clear hbl hb4
        go_wp2_with fail
        refine (same_any _ _ _ _ hown2.at hown.at (by omega)).mono ?_
        rintro e w5 ⟨rfl, hb5⟩
        have hB5 := seqB hB4 hb5
        go_wp2_with fail
        go_ret
        exact ⟨rfl, hB5⟩
    · obtain rfl : k = n := by omega
      have n1 : ¬ (9223372036854775807 : Int) < X.size + 1 := by omega
      have n2 : ¬ (9223372036854775807 : Int) < X.size + 1 + B.size := by omega
      obtain ⟨Y, hY⟩ : ∃ Y, X ++ (⟨#[126]⟩ : ByteArray) ++ B = Y := ⟨_, rfl⟩
      have zY : Y.size < 4294967281 := by
        have z1 : (⟨#[126]⟩ : ByteArray).size = 1 := rfl
        rw [← hY]; simp only [ByteArray.size_append, z1]; omega
      have hYl : Y.data.toList = joined (stuff 0 first.data.toList) (stuffs (l.take k)) ++ 126 :: stuff 0 last.data.toList := by
        rw [← hY, ← hX.out, ← HBl.out]; simp
      obtain ⟨g1, g2⟩ := got_joined (stuff 0 first.data.toList) (stuff 0 last.data.toList) (stuffs (l.take k)) (stuff_noflag _ _) (stuffs_no _) (stuff_noflag _ _)
      rw [← hYl] at g1 g2
      have G1 := Lib.hid g1
      have G2 := Lib.hid g2
      clear g1 g2 hYl
      go_wp2_with fail
      refine (ssplit_any _ ml _ zY (hml.below hbl)).mono ?_
      rintro e w4 ⟨v, rfl, hown2, hb4⟩
      rw [G2.out, HB.out]
      rw [G1.out] at hown2
      replace hown := hown.below hb4
      have hB4 := seqB hbl hb4
      clear hbl hb4
      go_wp2_with fail
      refine (same_any _ _ _ _ hown2.at hown.at (by omega)).mono ?_
      rintro e w5 ⟨rfl, hb5⟩
      have hB5 := seqB hB4 hb5
      go_wp2_with fail
      go_ret
      exact ⟨rfl, hB5⟩
end Go.Proofs.YthijchjdkicbdaaDoor
