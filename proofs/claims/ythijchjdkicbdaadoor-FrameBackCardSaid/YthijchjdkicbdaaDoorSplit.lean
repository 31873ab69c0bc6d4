/- Package stuff: Split. -/
import Derived.Test.YthijchjdkicbdaaDoorShelfSplit
import Derived.Test.YthijchjdkicbdaaDoorText
import Derived.Test.YthijchjdkicbdaaDoorStuff
namespace Go.Proofs.YthijchjdkicbdaaDoor
open Go.RowKit
/-- a text cut at each flag -/
def cut : List UInt8 → List (List UInt8)
  | [] => [[]]
  | c :: l => if c = 126 then [] :: cut l else match cut l with
    | [] => [[c]]
    | p :: ps => (c :: p) :: ps
theorem cut_ne (l : List UInt8) : cut l ≠ [] := by
  cases l with
  | nil => simp [cut]
  | cons c l =>
    unfold cut
    split
    · simp
    · split <;> simp
theorem splitK_cut : ∀ l : List UInt8, Lib.splitK [126] 0 (Lib.count l [126]) l = cut l
  | [] => by rw [Lib.count_miss (by simp [Lib.index])]; rfl
  | c :: l => by
    have ih := splitK_cut l
    by_cases h : c = 126
    · subst h
      have hix : Lib.index (126 :: l) [126] = ((0 : Nat) : Int) := by rw [Lib.index]; simp [List.isPrefixOf]
      rw [Lib.count_cons_eq, Nat.add_comm, Lib.splitK, hix]
      simp [cut, ih]
    · have hp : ([126] : List UInt8).isPrefixOf (c :: l) = false := by simp [List.isPrefixOf, Ne.symm h]
      have hix : Lib.index (c :: l) [126] = if Lib.index l [126] == -1 then -1 else Lib.index l [126] + 1 := by rw [Lib.index, hp]; simp
      rw [Lib.count_cons_ne _ _ _ h]
      unfold cut
      rw [if_neg h, ← ih]
      by_cases hm : Lib.index l [126] = -1
      · rw [Lib.count_miss hm]; rfl
      · have hge := Lib.index_ge l [126]
        obtain ⟨j, hj⟩ : ∃ j : Nat, Lib.index l [126] = j := ⟨(Lib.index l [126]).toNat, by omega⟩
        have hix' : Lib.index (c :: l) [126] = ((j + 1 : Nat) : Int) := by rw [hix, if_neg (fun e => hm (beq_iff_eq.1 e)), hj]; omega
        rw [Lib.count_hit (by simp) hj, Nat.add_comm, Lib.splitK, Lib.splitK, hix', hj]
        simp
        have : ¬ ((j : Int) + 1 = -1) := by omega
        have : ¬ ((j : Int) = -1) := by omega
        simp [*]
/-- the texts between flags, and what is left behind the last flag -/
def gotOf (l : List UInt8) : List (List UInt8) := (cut l).tail.dropLast.filter (fun p => !p.isEmpty)
def restOf (l : List UInt8) : List UInt8 := (cut l).getLast (cut_ne l)
theorem pieces_cut (s : ByteArray) : Lib.splitB (bytesOf [126]) 0 (Lib.countB s (bytesOf [126])) s = (cut s.data.toList).map bytesOf := by
  have h := Lib.splitB_data (bytesOf [126]) 0 (Lib.countB s (bytesOf [126])) s
  have h2 : Lib.splitK (bytesOf [126]).data.toList 0 (Lib.countB s (bytesOf [126])) s.data.toList = cut s.data.toList := splitK_cut _
  rw [h2] at h
  rw [← h, List.map_map]
  have : (bytesOf ∘ fun x : ByteArray => x.data.toList) = id := funext fun x => bytesOf_of x
  rw [this, List.map_id]
theorem cut_length (s : ByteArray) : Lib.countB s (bytesOf [126]) + 1 = (cut s.data.toList).length := by
  have h := congrArg List.length (pieces_cut s)
  rw [Lib.splitB_all _ (by decide) _ _ s rfl, List.length_map] at h
  exact h
theorem OwnT.mono {w : World} {b b' : Nat} {v : Value} {l : List ByteArray} (h : OwnT w b v l) (hb : b' ≤ b) : OwnT w b' v l := by
  refine ⟨h.1, ?_⟩
  rcases h.2 with h2 | ⟨g, cap, cur, hv, hg, r⟩
  · exact .inl h2
  · exact .inr ⟨g, cap, cur, hv, Nat.le_trans hb hg, r⟩
theorem keep_snoc (l : List (List UInt8)) (k : Nat) (h : k < l.length) :
    (l.take (k + 1)).filter (fun p => !p.isEmpty) = (l.take k).filter (fun p => !p.isEmpty) ++ (if l[k].isEmpty then [] else [l[k]]) := by
  rw [List.take_succ_eq_append_getElem h, List.filter_append]
  congr 1
  cases l[k] <;> simp
set_option maxHeartbeats 1000000 in
theorem ssplit_any (s : ByteArray) (m : Int) (w : World) (hs : s.size < 4294967281) (hm : MaxLenIs w m) :
    Calls Tryd.prog 12 #[.string s] w fun e w' => ∃ v, e = .returned (.tuple #[v, .string (bytesOf (restOf s.data.toList))]) ∧ OwnT w' w.heap.size v ((gotOf s.data.toList).map bytesOf) ∧ Below w.heap.size w w' := by
  obtain ⟨ps, hps⟩ : ∃ ps, cut s.data.toList = ps := ⟨_, rfl⟩
  have hne : ps ≠ [] := hps ▸ cut_ne _
  have hcnt := cut_length s
  have hle := Lib.countB_le (bytesOf [126]) (by decide) s.size s (Nat.le_refl _)
  have hpc := pieces_cut s
  have hgot : gotOf s.data.toList = ps.tail.dropLast.filter (fun p => !p.isEmpty) := by unfold gotOf; rw [hps]
  have hrest : restOf s.data.toList = ps.getLast hne := by unfold restOf; simp only [hps]
  rw [hgot, hrest]
  rw [hps] at hcnt hpc
  clear hgot hrest
  obtain ⟨n, hn⟩ : ∃ n, Lib.countB s (bytesOf [126]) = n := ⟨_, rfl⟩
  have hsp := fun w hm => split_any s m w hs hm
  rw [hpc] at hsp
  rw [hn] at hcnt hle hsp
  have hn63 : n + 1 ≤ 9223372036854775807 := by omega
  have Hps := Lib.hid hps
  have Hcnt := Lib.hid hcnt
  clear hps hpc hn hcnt
  go_enter Tryd.func12, Tryd.ntmps12
  go_wp2_with fail
  refine (flag_any _).mono ?_
  rintro e w1 ⟨rfl, hb1⟩
  go_wp2_with fail
  refine (hsp _ ((hb1.cell (block_lt_of_cell hm)).trans hm)).mono ?_
  rintro e w2 ⟨rfl, rfl⟩
  have hcell : ∀ j (h : j < ps.length), (w1.alloc (.cells (textsRow (ps.map bytesOf)) 9)).cell? ⟨w1.heap.size, j, none⟩ = some (.string (bytesOf ps[j])) := by
    intro j h
    rw [World.cell?_alloc_new]; simp [textsRow, h]
  have hB2 := allocB hb1 (.cells (textsRow (ps.map bytesOf)) 9)
  generalize w1.alloc (.cells (textsRow (ps.map bytesOf)) 9) = w2 at hcell hB2 ⊢
  by_cases h1 : n = 0
  · subst h1
    obtain ⟨x, rfl⟩ : ∃ x, ps = [x] := by
      have := Hcnt.out
      match ps, this with
      | [x], _ => exact ⟨x, rfl⟩
    have hx : bytesOf x = s := by
      have h := congrArg List.length (pieces_cut s)
      rw [Hps.out] at h
      have hp := pieces_cut s
      rw [Hps.out] at hp
      have hc : Lib.countB s (bytesOf [126]) = 0 := by
        have := cut_length s
        rw [Hps.out] at this
        simpa using this
      rw [hc, Lib.splitB_zero] at hp
      simpa using hp.symm
    go_wp2_with fail
    go_ret2
    exact ⟨.slice none 0 0, by rw [List.getLast_singleton, hx]; rfl, OwnT.nil _ _, hB2⟩
  · have h2 : 1 ≤ n := by omega
    have hl1 : ((n : Int) + 1 == 1) = false := by rw [beq_eq_false_iff_ne]; omega
    go_wp2_with fail
    go_loopw [5, 21] (fun v i wr => ∃ k : Nat, k ≤ n - 1 ∧ i = .int .i64 k ∧ OwnT wr w2.heap.size v (((ps.tail.dropLast.take k).filter (fun p => !p.isEmpty)).map bytesOf) ∧ Below w2.heap.size w2 wr) (fun _ i _ => n - (intOf i).toNat)
    case atStart => exact ⟨0, Nat.zero_le _, rfl, OwnT.nil _ _, Below.refl _ _⟩
    case round =>
      obtain ⟨k, hk, rfl, hown, hbl⟩ := hrel
      by_cases hlt : k < n - 1
      · have hkm : k < ps.tail.dropLast.length := by simp [← Hcnt.out]; omega
        have hlen : (((ps.tail.dropLast.take k).filter (fun p => !p.isEmpty)).map bytesOf).length ≤ k := by
          rw [List.length_map]
          refine Nat.le_trans (List.length_filter_le _ _) ?_
          simp; omega
        have hsn := keep_snoc ps.tail.dropLast k hkm
        have hpk : ps.tail.dropLast[k] = ps[1 + k]'(by simp [← Hcnt.out]; omega) := by
          rw [List.getElem_dropLast, List.getElem_tail]; congr 1; omega
        have hc := (hbl.cell (block_lt_of_cell (hcell (1 + k) (by simp [← Hcnt.out]; omega)))).trans (hcell (1 + k) (by simp [← Hcnt.out]; omega))
        rw [← hpk] at hc
        obtain ⟨x, hx⟩ : ∃ x, ps.tail.dropLast[k] = x := ⟨_, rfl⟩
        rw [hx] at hc hsn
        have Hsn := Lib.hid hsn
        clear hsn hx hpk
        cases x with
        | nil =>
          have hq : (bytesOf []).toList = [] := ba_toList _
          go_wp2_with fail
          go_roundw
          case rel => exact ⟨k + 1, by omega, by go_num, by rw [Hsn.out]; simpa using hown, hbl⟩
          case measure => simp [intOf]; omega
        | cons b bs =>
          have hq : (bytesOf (b :: bs)).toList = b :: bs := ba_toList _
          obtain ⟨x, hx⟩ : ∃ x, bytesOf (b :: bs) = x := ⟨_, rfl⟩
          rw [hx] at hq hc
          go_wp2_with (at_builtin; refine wpList_appT rfl _ _ rfl w2 _ _ x 1 hown rfl rfl (by omega) hbl ?_; intro v' w3 hown1 hbl1)
          go_roundw
          case rel => exact ⟨k + 1, by omega, by go_num, by rw [Hsn.out]; simpa [hx] using hown1, hbl1⟩
          case measure => simp [intOf]; omega
      · obtain rfl : k = n - 1 := by omega
        have hcl := (hbl.cell (block_lt_of_cell (hcell n (by rw [← Hcnt.out]; omega)))).trans (hcell n (by rw [← Hcnt.out]; omega))
        have hall : ps.tail.dropLast.take (n - 1) = ps.tail.dropLast := List.take_of_length_le (by simp [← Hcnt.out])
        rw [hall] at hown
        have hlast : ps.getLast hne = ps[n]'(by rw [← Hcnt.out]; omega) := by
          rw [List.getLast_eq_getElem]; congr 1; rw [← Hcnt.out]; omega
        obtain ⟨x, hx⟩ : ∃ x, ps[n]'(by rw [← Hcnt.out]; omega) = x := ⟨_, rfl⟩
        rw [hx] at hcl hlast
        have Hlast := Lib.hid hlast
        clear hlast hx hall
        obtain ⟨l, hl⟩ : ∃ l, (ps.tail.dropLast.filter (fun p => !p.isEmpty)).map bytesOf = l := ⟨_, rfl⟩
        rw [hl] at hown
        have Hl := Lib.hid hl
        clear hl
        obtain ⟨a, c, rfl⟩ := hown.form
        go_wp2_with fail
        go_region
        go_wp2_with fail
        go_ret2
        exact ⟨.slice a l.length c, by rw [Hlast.out]; rfl, by rw [Hl.out]; exact (hown.mono hB2.size).below (by repeat (first | exact Below.refl _ _ | apply drewB)), by repeat (first | exact seqB hB2 hbl | apply drewB)⟩
end Go.Proofs.YthijchjdkicbdaaDoor
