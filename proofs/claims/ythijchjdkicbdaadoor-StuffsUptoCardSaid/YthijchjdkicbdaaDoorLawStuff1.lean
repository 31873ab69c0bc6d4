/- The walk of Stuffs. -/
import Derived.Test.YthijchjdkicbdaaDoorLawStuff
namespace Go.Proofs.YthijchjdkicbdaaDoor
open Go.RowKit
theorem OwnT.store {w : World} {base : Nat} {v : Value} {l : List ByteArray} (h : OwnT w base v l) {a : Addr} (ha : a.block < base) (u : Value) : OwnT (w.setCell a u) base v l := ownsRow_setCell_below h ha u
theorem OwnT.lt {w : World} {base : Nat} {v : Value} {l : List ByteArray} (h : OwnT w base v l) : ∀ k, v.ownBlock = some k → k < w.heap.size := by
  intro k hk
  rcases h.2 with ⟨rfl, _⟩ | ⟨g, cap, cur, rfl, hg, hh, _⟩
  · cases hk
  · cases hk; exact (Array.getElem?_eq_some_iff.1 hh).1
set_option maxHeartbeats 4000000 in
theorem stuffs_walk (s : ByteArray) (m : Int) (ml : Int) (w : World) (hs : s.size ≤ 1048576) (hml : MaxLenIs w ml) :
    Calls Tryd.prog 3 #[.string s, .int .i64 m] w fun e w' => e = .returned (.bool true) ∧ Below w.heap.size w w' := by
  obtain ⟨l, hl⟩ : ∃ l, (gotOf s.data.toList).map bytesOf = l := ⟨_, rfl⟩
  have hll : l.length ≤ 9223372036854775807 := by
    rw [← hl, List.length_map]; have := got_len s.data.toList; rw [len_toList] at this; omega
  obtain ⟨R, hR⟩ : ∃ R, bytesOf (restOf s.data.toList) = R := ⟨_, rfl⟩
  obtain ⟨U, hU⟩ : ∃ U, bytesOf (unstuff s.data.toList).1 = U := ⟨_, rfl⟩
  obtain ⟨e0, he0⟩ : ∃ e0, (unstuff s.data.toList).2 = e0 := ⟨_, rfl⟩
  have h1 : s.size ≤ 140737488355328 := by omega
  have h2 : s.size < 4294967281 := by omega
  have h3 : 2 * s.size ≤ 140737488355328 := by omega
  go_enter Tryd.func3, Tryd.ntmps3
  go_wp2_with fail
  refine (sget_any _ _ h1).mono ?_
  rintro e w1 ⟨rfl, hb1⟩
  rw [hU, he0]
  go_wp2_with fail
  refine (runstuff_any _ _ h1).mono ?_
  rintro e w2 ⟨rfl, hb2⟩
  rw [hU, he0]
  have hB2 := seqB hb1 hb2
  clear hb1 hb2 hU he0
  go_wp2_with fail
  refine (ssplit_any _ ml _ h2 (hml.below hB2)).mono ?_
  rintro e w3 ⟨vc, rfl, hoc, hb3⟩
  rw [hR]
  rw [hl] at hoc
  have hB3 := seqB hB2 hb3
  have hltc := hoc.lt
  go_wp2_with fail
  refine (ssplit_any _ ml _ h2 (hml.below hB3)).mono ?_
  rintro e w4 ⟨vg, rfl, hog, hb4⟩
  rw [hR]
  rw [hl] at hog
  have hB4 := seqB hB3 hb4
  have hz5 : w3.heap.size ≤ w4.heap.size := hb4.size
  replace hoc := hoc.below hb4
  clear hb4
  go_wp2_with fail
  refine (rsplit_any _ _ h2).mono ?_
  rintro e w5 ⟨vi, rfl, hoi, hb5⟩
  rw [hR]
  rw [hl] at hoi
  have hB5 := seqB hB4 hb5
  replace hoc := hoc.below hb5
  replace hog := hog.below hb5
  clear hb5 hR hl
  go_wp2_with fail
  refine (sput_any _ _ _ h3).mono ?_
  rintro e w6 ⟨rfl, hb6⟩
  have hB6 := seqB hB5 hb6
  replace hoc := hoc.below hb6
  replace hog := hog.below hb6
  replace hoi := hoi.below hb6
  clear hb6
  go_wp2_with fail
  refine (rstuff_any _ _ _ h3).mono ?_
  rintro e w7 ⟨rfl, hb7⟩
  have hB7 := seqB hB6 hb7
  replace hoc := hoc.below hb7
  replace hog := hog.below hb7
  replace hoi := hoi.below hb7
  clear hb7
  go_wp2_with fail
  refine (num_any _ _).mono ?_
  rintro e w8 ⟨rfl, rfl⟩
  go_wp2_with fail
  refine (same_any _ _ l _ hoc.at hoi.at hll).mono ?_
  rintro e w8 ⟨rfl, hb8⟩
  have hB8 := seqB hB7 hb8
  replace hoc := hoc.below hb8
  replace hog := hog.below hb8
  replace hoi := hoi.below hb8
  clear hb8
  have hz3 : w2.heap.size ≤ w3.heap.size := hb3.size
  have hz4 : w.heap.size ≤ w2.heap.size := hB2.size
  go_wp2_with fail
  rcases hoc.2 with ⟨rfl, h0⟩ | ⟨B, cap, cur, rfl, hgB, hh, hn, hm, hcs, ht⟩
  · clear hoc hltc
    go_loopw [15] (fun i wr => i = .int .i64 0 ∧ w8 = wr) (fun i _ => 0)
    case atStart => exact ⟨rfl, rfl⟩
    case round =>
      obtain ⟨rfl, rfl⟩ := hrel
      go_wp2_with fail
      refine (same_any _ _ l _ hog.at hoi.at hll).mono ?_
      rintro e w9 ⟨rfl, hb9⟩
      have hB9 := seqB hB8 hb9
      go_wp2_with fail
      refine (awake2_any ml _ (hml.below hB9)).mono ?_
      rintro e w10 ⟨rfl, hb10⟩
      go_wp2_with fail
      go_ret
      exact ⟨rfl, seqB hB9 hb10⟩
  · have hBl : B < w3.heap.size := hltc B rfl
    clear hoc hltc ht
    have hcs' : cur.size = cap := by omega
    go_loopw [15] (fun i wr => ∃ k : Nat, k ≤ l.length ∧ i = .int .i64 k ∧ Below w.heap.size w wr ∧ OwnT wr w3.heap.size vg l ∧ OwnT wr w4.heap.size vi l ∧ ∃ cur, wr.heap[B]? = some (.cells cur 9 (0, 0)) ∧ cur.size = cap) (fun i _ => l.length - (intOf i).toNat)
    case atStart => exact ⟨0, Nat.zero_le _, rfl, hB8, hog, hoi, cur, hh, hcs'⟩
    case round =>
      obtain ⟨k, hk, rfl, hbl, hog', hoi', cur', hh', hcz⟩ := hrel
      clear hog hoi hB8 hh
      by_cases hlt : k < l.length
      · have hkc : k < cur'.size := by omega
        have hcell : wr.cell? ⟨B, k, none⟩ = some cur'[k] := by simp [World.cell?, hh', hkc]
        have hfz : wr.frozen? ⟨B, k, none⟩ = false := by simp [World.frozen?, hh']
        have hnew := heap_setCell_same wr B k cur' 9 (.string ⟨#[115, 112, 111, 105, 108, 116]⟩) hh'
        have hbs := hbl.setCell (p := ⟨B, k, none⟩) (show w.heap.size ≤ B by omega) (.string ⟨#[115, 112, 111, 105, 108, 116]⟩)
        have hog2 := hog'.store (a := ⟨B, k, none⟩) hBl (.string ⟨#[115, 112, 111, 105, 108, 116]⟩)
        have hoi2 := hoi'.store (a := ⟨B, k, none⟩) (show B < w4.heap.size by omega) (.string ⟨#[115, 112, 111, 105, 108, 116]⟩)
        go_wp2_with fail
        go_roundw
        case rel => exact ⟨k + 1, by omega, by go_num, hbs, hog2, hoi2, _, hnew, by simpa using hcz⟩
        case measure => simp [intOf]; omega
      · obtain rfl : k = l.length := by omega
        clear hh'
        go_wp2_with fail
        refine (same_any _ _ l _ hog'.at hoi'.at hll).mono ?_
        rintro e w9 ⟨rfl, hb9⟩
        have hB9 := seqB hbl hb9
        go_wp2_with fail
        refine (awake2_any ml _ (hml.below hB9)).mono ?_
        rintro e w10 ⟨rfl, hb10⟩
        go_wp2_with fail
        go_ret
        exact ⟨rfl, seqB hB9 hb10⟩
end Go.Proofs.YthijchjdkicbdaaDoor
