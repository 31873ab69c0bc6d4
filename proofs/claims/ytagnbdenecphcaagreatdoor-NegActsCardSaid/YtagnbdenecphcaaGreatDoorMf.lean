/- The shelf's contracts of strings.Builder, laid at this translation. opts.Put. opts.Put: the loop. opts.Put, whole. -/
import Derived.Shelf.Strings.Builder1
import Derived.Test.YtagnbdenecphcaaGreatDoorRows
import Derived.Test.YtagnbdenecphcaaGreatDoorMg1
import Derived.Test.YtagnbdenecphcaaGreatDoorMe
import Derived.Outline
/-! The shelf's contracts of strings.Builder, laid at this translation. -/
namespace Go.Proofs.YtagnbdenecphcaaGreatDoor
open Go.Shelf Go.RowKit Go.Proofs
set_option maxRecDepth 100000
def ren166 : Go.Shelf.Ren := ⟨fun | 166 => 72 | 240 => 89 | 276 => 94 | n => n, fun | 0 => 0 | 3 => 3 | 4 => 4 | 5 => 5 | 9 => 9 | 20 => 20 | 37 => 97 | 70 => 121 | 72 => 123 | 75 => 125 | 80 => 128 | 164 => 147 | n => n, fun | n => n⟩
theorem lays166 : Go.Proofs.Lays.n166 Tryz.prog ren166 := {
  mixed := by kernel_rfl
  f166 := Tryz.func72.trans (congrArg some (by kernel_rfl))
  f240 := Tryz.func89.trans (congrArg some (by kernel_rfl))
  f276 := Tryz.func94.trans (congrArg some (by kernel_rfl))
  t0 := Tryz.underlying0
  a0 := Tryz.isAgg0
  z0 := Tryz.sizeOf0
  v0 := Tryz.zeroValue0
  t3 := Tryz.underlying3
  a3 := Tryz.isAgg3
  z3 := Tryz.sizeOf3
  v3 := Tryz.zeroValue3
  t4 := Tryz.underlying4
  a4 := Tryz.isAgg4
  z4 := Tryz.sizeOf4
  v4 := Tryz.zeroValue4
  t9 := Tryz.underlying9
  a9 := Tryz.isAgg9
  z9 := Tryz.sizeOf9
  v9 := Tryz.zeroValue9
  t20 := Tryz.underlying20
  a20 := Tryz.isAgg20
  z20 := Tryz.sizeOf20
  v20 := Tryz.zeroValue20
  t37 := Tryz.underlying97
  a37 := Tryz.isAgg97
  z37 := Tryz.sizeOf97
  v37 := Tryz.zeroValue97
  t70 := Tryz.underlying121
  a70 := Tryz.isAgg121
  z70 := Tryz.sizeOf121
  v70 := Tryz.zeroValue121
  t72 := Tryz.underlying123
  a72 := Tryz.isAgg123
  z72 := Tryz.sizeOf123
  v72 := Tryz.zeroValue123
  t75 := Tryz.underlying125
  a75 := Tryz.isAgg125
  z75 := Tryz.sizeOf125
  v75 := Tryz.zeroValue125
  t164 := Tryz.underlying147
  a164 := Tryz.isAgg147
  z164 := Tryz.sizeOf147
  v164 := Tryz.zeroValue147 }
def ren169 : Go.Shelf.Ren := ⟨fun | 169 => 73 | n => n, fun | 0 => 0 | 3 => 3 | 5 => 5 | 9 => 9 | 37 => 97 | 70 => 121 | 72 => 123 | 127 => 145 | n => n, fun | n => n⟩
theorem lays169 : Go.Proofs.Lays.n169 Tryz.prog ren169 := {
  mixed := by kernel_rfl
  f169 := Tryz.func73.trans (congrArg some (by kernel_rfl))
  t0 := Tryz.underlying0
  a0 := Tryz.isAgg0
  z0 := Tryz.sizeOf0
  v0 := Tryz.zeroValue0
  t3 := Tryz.underlying3
  a3 := Tryz.isAgg3
  z3 := Tryz.sizeOf3
  v3 := Tryz.zeroValue3
  t9 := Tryz.underlying9
  a9 := Tryz.isAgg9
  z9 := Tryz.sizeOf9
  v9 := Tryz.zeroValue9
  t37 := Tryz.underlying97
  a37 := Tryz.isAgg97
  z37 := Tryz.sizeOf97
  v37 := Tryz.zeroValue97
  t70 := Tryz.underlying121
  a70 := Tryz.isAgg121
  z70 := Tryz.sizeOf121
  v70 := Tryz.zeroValue121
  t72 := Tryz.underlying123
  a72 := Tryz.isAgg123
  z72 := Tryz.sizeOf123
  v72 := Tryz.zeroValue123
  t127 := Tryz.underlying145
  a127 := Tryz.isAgg145
  z127 := Tryz.sizeOf145
  v127 := Tryz.zeroValue145 }
def ren170 : Go.Shelf.Ren := ⟨fun | 170 => 71 | n => n, fun | 0 => 0 | 3 => 3 | 5 => 5 | 37 => 97 | 70 => 121 | 72 => 123 | n => n, fun | n => n⟩
theorem lays170 : Go.Proofs.Lays.n170 Tryz.prog ren170 := {
  mixed := by kernel_rfl
  f170 := Tryz.func71.trans (congrArg some (by kernel_rfl))
  t0 := Tryz.underlying0
  a0 := Tryz.isAgg0
  z0 := Tryz.sizeOf0
  v0 := Tryz.zeroValue0
  t3 := Tryz.underlying3
  a3 := Tryz.isAgg3
  z3 := Tryz.sizeOf3
  v3 := Tryz.zeroValue3
  t37 := Tryz.underlying97
  a37 := Tryz.isAgg97
  z37 := Tryz.sizeOf97
  v37 := Tryz.zeroValue97
  t70 := Tryz.underlying121
  a70 := Tryz.isAgg121
  z70 := Tryz.sizeOf121
  v70 := Tryz.zeroValue121
  t72 := Tryz.underlying123
  a72 := Tryz.isAgg123
  z72 := Tryz.sizeOf123
  v72 := Tryz.zeroValue123 }
theorem bx166 : Go.Proofs.Builder.Extra Tryz.prog ren166 := {
  sizeBuilder := by kernel_rfl
  liesBuilder := by kernel_rfl
  t5 := Tryz.underlying5
  a5 := Tryz.isAgg5
  z5 := Tryz.sizeOf5
  v5 := Tryz.zeroValue5
  infoByte := by kernel_rfl
  cellsByte := by kernel_rfl
  sizeByte := by kernel_rfl
  neB5 := by decide }
theorem bx169 : Go.Proofs.Builder.Extra Tryz.prog ren169 := {
  sizeBuilder := by kernel_rfl
  liesBuilder := by kernel_rfl
  t5 := Tryz.underlying5
  a5 := Tryz.isAgg5
  z5 := Tryz.sizeOf5
  v5 := Tryz.zeroValue5
  infoByte := by kernel_rfl
  cellsByte := by kernel_rfl
  sizeByte := by kernel_rfl
  neB5 := by decide }
/-- a Builder that reads as l -/
def BuildAt (B b : Nat) (l : List UInt8) (w : World) : Prop := Lib.IsBuilder 123 5 B b (Lib.byteCells l) w
theorem strCells_eq (s : ByteArray) : Lib.strCells s = Lib.byteCells s.data.toList := rfl
/-- a Builder's WriteString -/
theorem writeString (B b : Nat) (l : List UInt8) (s : ByteArray) (w : World) (h : BuildAt B b l w) (hlen : l.length + s.size ≤ 140737488355328) (hBw : B ≤ w.heap.size) :
    Calls Tryz.prog 72 #[.pointer (some ⟨b, 0, none⟩), .string s] w fun e w' => e = .returned (.tuple #[.int .i64 s.size, .nilIface]) ∧ BuildAt B b (l ++ s.data.toList) w' ∧ Below B w w' := by
  refine (Any.Builder_WriteString lays166 bx166 B b (Lib.byteCells l) s w h (by rw [Lib.byteCells_length]; exact hlen) hBw).mono fun e w' ⟨he, hb, hl⟩ => ⟨he, .inr ?_, hl⟩
  have e1 : Lib.byteCells (l ++ s.data.toList) = Lib.byteCells l ++ Lib.strCells s := by rw [strCells_eq]; simp [Lib.byteCells]
  rw [e1]; exact hb
/-- a Builder's Len -/
theorem builderLen (B b : Nat) (l : List UInt8) (w : World) (h : BuildAt B b l w) :
    Calls Tryz.prog 71 #[.pointer (some ⟨b, 0, none⟩)] w fun e w' => e = .returned (.int .i64 l.length) ∧ w' = w := by
  refine (Any.Builder_Len lays170 B b (Lib.byteCells l) w h).mono fun e w' ⟨he, hw⟩ => ⟨?_, hw⟩
  rw [he, Lib.byteCells_length]
/-- a Builder's String -/
theorem builderString (B b : Nat) (l : List UInt8) (w : World) (h : BuildAt B b l w) (hBw : B ≤ w.heap.size) :
    Calls Tryz.prog 73 #[.pointer (some ⟨b, 0, none⟩)] w fun e w' => e = .returned (.string (bytesOf l)) ∧ Below B w w' := Any.Builder_String_any lays169 bx169 B b l w h hBw
theorem BuildAt.lt {B b : Nat} {l : List UInt8} {w : World} (h : BuildAt B b l w) : b < w.heap.size := by
  rcases h with h | h <;> exact Lib.BuilderAt.lt h
/-- a Builder that was just made -/
theorem BuildAt.new {B b : Nat} {w : World} (hB : B ≤ b) (h : w.heap[b]? = some (.cells #[.pointer none, .slice none 0 0] 123 (0, 0))) : BuildAt B b [] w :=
  .inl ⟨hB, .slice none 0 0, h, ⟨rfl, .inl ⟨rfl, rfl⟩⟩, by simp [Value.ownBlock]⟩
/-- blocks below b, and those that were made later, may turn -/
theorem BuildAt.below {B b : Nat} {l : List UInt8} {w w' : World} (h : BuildAt B b l w) (hb : Below w.heap.size w w') : BuildAt B b l w' := by
  have key : ∀ p, Lib.BuilderAt 123 5 B b p (Lib.byteCells l) w → Lib.BuilderAt 123 5 B b p (Lib.byteCells l) w' := by
    rintro p ⟨h1, v, h2, h3, h4⟩
    refine ⟨h1, v, ?_, ⟨h3.1, ?_⟩, h4⟩
    · rw [hb.block b (Array.getElem?_eq_some_iff.1 h2).1]; exact h2
    · rcases h3.2 with h5 | ⟨g, cap, cur, hv, hg, hh, r⟩
      · exact .inl h5
      · exact .inr ⟨g, cap, cur, hv, hg, (hb.block g (Array.getElem?_eq_some_iff.1 hh).1).trans hh, r⟩
  rcases h with h | h
  · exact .inl (key _ h)
  · exact .inr (key _ h)
end Go.Proofs.YtagnbdenecphcaaGreatDoor
/-! opts.Put. -/
namespace Go.Proofs.YtagnbdenecphcaaGreatDoor
open Go.RowKit
set_option linter.unusedVariables false
set_option linter.unusedSimpArgs false
def kindBad (o : OptM) : Bool := decide (o.1 < 0) || decide (255 < o.1)
theorem put1_any (o : OptM) (w : World) : Calls Tryz.prog 70 #[.agg #[.int .i64 o.1, .string o.2]] w fun e w' => e = .returned (.bool (kindBad o)) ∧ Below w.heap.size w w' := by
  by_cases h : o.1 < 0
  · have HB : Hid (kindBad o = true) := Lib.hid (by unfold kindBad; simp [h])
    go_enter Tryz.func70, Tryz.ntmps70
    go_wp2_with fail
    go_ret
    exact ⟨by rw [HB.out]; rfl, allocB (Below.refl _ _) _⟩
  · have HB : Hid (kindBad o = decide (255 < o.1)) := Lib.hid (by unfold kindBad; simp [h])
    go_enter Tryz.func70, Tryz.ntmps70
    go_wp2_with fail
    go_ret
    exact ⟨by rw [HB.out]; rfl, allocB (Below.refl _ _) _⟩
def findBad (l : List OptM) : Int := match l.findIdx? kindBad with | some i => (i : Int) | none => -1
theorem findBad_hit (l : List OptM) (j : Nat) (hj : j < l.length) (h : ∀ i (hi : i < j), kindBad (l[i]'(by omega)) = false) (hx : kindBad l[j] = true) : findBad l = (j : Int) := by
  unfold findBad
  have : l.findIdx? kindBad = some j := by
    rw [List.findIdx?_eq_some_iff_getElem]
    exact ⟨hj, hx, fun i hi => by rw [h i hi]; simp⟩
  rw [this]
theorem findBad_none (l : List OptM) (h : ∀ i (hi : i < l.length), kindBad l[i] = false) : findBad l = -1 := by
  unfold findBad
  have : l.findIdx? kindBad = none := by
    rw [List.findIdx?_eq_none_iff]
    intro x hx
    obtain ⟨i, hi, rfl⟩ := List.mem_iff_getElem.1 hx
    exact h i hi
  rw [this]
theorem findBad_any (l : List OptM) : decide (0 ≤ findBad l) = l.any kindBad := by
  unfold findBad
  cases e : l.findIdx? kindBad with
  | none =>
    rw [List.findIdx?_eq_none_iff] at e
    symm
    simp only [show decide ((0 : Int) ≤ -1) = false by decide]
    rw [List.any_eq_false]
    intro x hx
    rw [e x hx]; simp
  | some i =>
    obtain ⟨hi, hx, _⟩ := List.findIdx?_eq_some_iff_getElem.1 e
    have : decide ((0 : Int) ≤ (i : Int)) = true := by simp
    rw [this]
    symm
    rw [List.any_eq_true]
    exact ⟨l[i], List.getElem_mem hi, hx⟩
set_option maxHeartbeats 1000000 in
theorem indexFunc_bad (g o c : Nat) (l : List OptM) (w : World) (h : OptsAt w (.slice (some ⟨g, o, none⟩) l.length c) l) (hl : l.length ≤ 9223372036854775807) :
    Calls Tryz.prog 88 #[.slice (some ⟨g, o, none⟩) l.length c, .func (.func 70) #[] #[]] w fun e w' => e = .returned (.int .i64 (findBad l)) ∧ Below w.heap.size w w' := by
  obtain ⟨-, -, -, hc⟩ := h.cells
  obtain ⟨n, hn⟩ : ∃ n, l.length = n := ⟨_, rfl⟩
  have HN := Lib.hid hn
  have HC := Lib.hid hc
  rw [hn] at hl ⊢
  clear h hc hn
  go_enter Tryz.func88, Tryz.ntmps88
  go_wp2_with fail
  go_loopw [8] (fun i wr => ∃ j : Nat, j ≤ n ∧ i = .int .i64 j ∧ Below w.heap.size w wr ∧ ∀ i (hi : i < l.length), i < j → kindBad l[i] = false) (fun i _ => n - (intOf i).toNat)
  case atStart => exact ⟨0, Nat.zero_le _, rfl, Below.refl _ _, fun i _ h => absurd h (Nat.not_lt_zero _)⟩
  case round =>
    obtain ⟨j, hj, rfl, hbl, hno⟩ := hrel
    have HNO := Lib.hid hno
    clear hno
    by_cases hlt : j < n
    · have hjl : j < l.length := by rw [HN.out]; exact hlt
      obtain ⟨c1, c2⟩ := HC.out j hjl
      replace c1 := (hbl.cell (block_lt_of_cell c1)).trans c1
      replace c2 := (hbl.cell (block_lt_of_cell c2)).trans c2
      obtain ⟨x, hx⟩ : ∃ x, l[j] = x := ⟨_, rfl⟩
      rw [hx] at c1 c2
      have HX := Lib.hid hx
      have hcl := fun w => put1_any x w
      clear hx
      cases heq : kindBad x with
      | true =>
        rw [heq] at hcl
        have hr : Hid (findBad l = (j : Int)) := Lib.hid (findBad_hit l j hjl (fun i hi => HNO.out i (by omega) hi) (by rw [HX.out]; exact heq))
        clear heq
        go_wp2_with fail
        refine (hcl _).mono ?_
        rintro e w3 ⟨rfl, hb3⟩
        go_wp2_with fail
        go_ret
        exact ⟨by rw [hr.out]; rfl, seqB hbl hb3⟩
      | false =>
        rw [heq] at hcl
        have HQ := Lib.hid heq
        clear heq
        go_wp2_with fail
        refine (hcl _).mono ?_
        rintro e w3 ⟨rfl, hb3⟩
        go_wp2_with fail
        go_roundw
        case rel =>
          refine ⟨j + 1, by omega, by go_num, seqB hbl hb3, fun i hi hij => ?_⟩
          by_cases hjk : i = j
          · subst hjk; rw [HX.out]; exact HQ.out
          · exact HNO.out i hi (by omega)
        case measure => simp [intOf]; omega
    · obtain rfl : j = n := by omega
      have hr : Hid (findBad l = -1) := Lib.hid (findBad_none l (fun i hi => HNO.out i hi (by rw [← HN.out]; exact hi)))
      go_wp2_with fail
      go_ret
      exact ⟨by rw [hr.out]; rfl, hbl⟩
theorem containsFunc_any (v : Value) (l : List OptM) (w : World) (h : OptsAt w v l) :
    Calls Tryz.prog 69 #[v, .func (.func 70) #[] #[]] w fun e w' => e = .returned (.bool (l.any kindBad)) ∧ Below w.heap.size w w' := by
  have hl := SeqAt.le h
  have hfa := findBad_any l
  rcases h.or with ⟨rfl, rfl⟩ | ⟨g, o, c, rfl⟩
  · clear hfa
    go_enter Tryz.func69, Tryz.ntmps69
    go_wp2_with fail
    refine (indexFunc_none 0 _ _ _).mono ?_
    rintro e w' ⟨rfl, rfl⟩
    go_wp2_with fail
    go_ret
    exact ⟨rfl, Below.refl _ _⟩
  · have hi := indexFunc_bad g o c l w h hl
    obtain ⟨z, hz⟩ : ∃ z, findBad l = z := ⟨_, rfl⟩
    rw [hz] at hi hfa
    have HA : Hid (l.any kindBad = decide (0 ≤ z)) := Lib.hid hfa.symm
    clear hz hfa
    go_enter Tryz.func69, Tryz.ntmps69
    go_wp2_with fail
    refine hi.mono ?_
    rintro e w' ⟨rfl, hb⟩
    go_wp2_with fail
    go_ret
    exact ⟨by rw [HA.out]; rfl, hb⟩
end Go.Proofs.YtagnbdenecphcaaGreatDoor
/-! opts.Put: the loop. -/
namespace Go.Proofs.YtagnbdenecphcaaGreatDoor
open Go.RowKit
set_option linter.unusedVariables false
set_option linter.unusedSimpArgs false
theorem optsTo_succ (os : List OptM) (k : Nat) (hk : k < os.length) : optsTo os (k + 1) = optsTo os k ++ optB os[k] := by
  unfold optsTo
  rw [List.take_succ_eq_append_getElem hk, List.flatMap_append]; simp
theorem optB_len (o : OptM) : (optB o).length = 2 + o.2.size := by unfold optB; simp [len_toList]; omega
theorem optLong_at (os : List OptM) (k : Nat) (hk : k < os.length) : optLong os k = (decide (253 < os[k].2.size) || decide (2048 < (optsTo os k).length + 2 + os[k].2.size)) := by
  unfold optLong; rw [List.getElem?_eq_getElem hk]
theorem head2 (x : OptM) (h0 : 0 ≤ x.1) (h1 : x.1 ≤ 255) (h2 : x.2.size ≤ 253) : (strOfNums [x.1, (2 : Int) + x.2.size] ++ x.2).data.toList = optB x := by
  have e : (((2 : Int) + x.2.size).toNat) = 2 + x.2.size := by omega
  rw [strOfNums_bytes]
  simp only [List.map_cons, List.map_nil, e]
  unfold optB bytesOf
  simp
theorem head2_size (x : OptM) : (strOfNums [x.1, (2 : Int) + x.2.size] ++ x.2).size = 2 + x.2.size := by
  rw [ByteArray.size_append, strOfNums_size]; rfl
/-- a row of bytes, wherever it lies, as a text -/
theorem conv_at (W : World) (B n : Nat) (xs : List Int) (T : TypeId) (fz : Nat × Nat) (cells : Array Value) (h : W.heap[B]? = some (.cells cells T fz)) (hc : cells = (xs.map (Value.int .u8)).toArray) (hn : xs.length = n) :
    (convert 97 9 (.slice (some ⟨B, 0, none⟩) n n)).run Tryz.prog W = .ok (.string (strOfNums xs)) W := by
  subst hc
  refine run_convert_bytes_arg W 97 5 Tryz.underlying97 Tryz.underlying5 B 0 n n xs hn (fun i hi => ?_) 9 Tryz.underlying9
  have hx : i < xs.length := by omega
  simp [World.cell?, h, List.getD, hx]
set_option maxRecDepth 100000 in
set_option maxHeartbeats 8000000 in
theorem oput_some (g o c : Nat) (os : List OptM) (w : World) (h : OptsAt w (.slice (some ⟨g, o, none⟩) os.length c) os) (hg : os.any kindBad = false) :
    Calls Tryz.prog 45 #[.slice (some ⟨g, o, none⟩) os.length c] w fun e w' => e = .returned (.tuple #[.string (bytesOf (optsM os).1), .int .i64 (optsM os).2]) ∧ Below w.heap.size w w' := by
  have hn := SeqAt.le h
  have hcon := fun w h => containsFunc_any (.slice (some ⟨g, o, none⟩) os.length c) os w h
  rw [hg] at hcon
  have HG := Lib.hid hg
  have HM : Hid (optsM os = if (List.range os.length).any (optLong os) = true then ([], 401) else (optsTo os os.length, 0)) := Lib.hid (by
    unfold optsM; rw [if_neg (by rw [show (os.any fun o => decide (o.1 < 0) || decide (255 < o.1)) = os.any kindBad from rfl, hg]; simp)])
  clear hg
  obtain ⟨n, hnn⟩ : ∃ n, os.length = n := ⟨_, rfl⟩
  have HN := Lib.hid hnn
  rw [hnn] at h hcon hn ⊢
  clear hnn
  go_enter Tryz.func45, Tryz.ntmps45
  go_wp2_with fail
  refine (hcon _ h).mono ?_
  rintro e w1 ⟨rfl, hb1⟩
  clear hcon
  go_wp2_with fail
  have hcell := (OptsAt.cells (h.below hb1)).2.2.2
  have HC := Lib.hid hcell
  have hbd : BuildAt w1.heap.size w1.heap.size [] (w1.alloc (.cells #[.pointer none, .slice none 0 0] 123)) := BuildAt.new (Nat.le_refl _) (heap_alloc_last _ _)
  have hbw : Below w1.heap.size w1 (w1.alloc (.cells #[.pointer none, .slice none 0 0] 123)) := allocB (Below.refl _ _) _
  clear h hcell
  go_loopw [11] (fun i wr => ∃ k : Nat, k ≤ n ∧ i = .int .i64 k ∧ BuildAt w1.heap.size w1.heap.size (optsTo os k) wr ∧ Below w1.heap.size w1 wr ∧ (optsTo os k).length ≤ 2048 ∧ Hid (∀ j, j < k → optLong os j = false)) (fun i _ => n - (intOf i).toNat)
  case atStart => exact ⟨0, Nat.zero_le _, rfl, hbd, hbw, by simp [optsTo], Lib.hid fun j hj => absurd hj (Nat.not_lt_zero _)⟩
  case round =>
    obtain ⟨k, hk, rfl, hbr, hbl, hl, HLo⟩ := hrel
    clear hbd hbw
    by_cases hlt : k < n
    · have hkl : k < os.length := by rw [HN.out]; exact hlt
      obtain ⟨d1, d2⟩ := HC.out k hkl
      replace d1 := fsm_below_cell hbl d1
      replace d2 := fsm_below_cell hbl d2
      have hsu := optsTo_succ os k hkl
      have hlo := optLong_at os k hkl
      have hkb := List.any_eq_false.1 HG.out _ (List.getElem_mem hkl)
      obtain ⟨x, hx⟩ : ∃ x, os[k] = x := ⟨_, rfl⟩
      rw [hx] at d1 d2 hsu hlo hkb
      have hk0 : 0 ≤ x.1 ∧ x.1 ≤ 255 := by unfold kindBad at hkb; simp at hkb; omega
      obtain ⟨acc, hacc⟩ : ∃ acc, optsTo os k = acc := ⟨_, rfl⟩
      rw [hacc] at hbr hl hsu hlo
      have s1 : (wr.alloc (.cells #[.int .i64 x.1, .string x.2] 70)).cell? ⟨wr.heap.size, 1, none⟩ = some (.string x.2) := by rw [World.cell?_alloc_new]; rfl
      have hh6 : (wr.alloc (.cells #[.int .i64 x.1, .string x.2] 70)).heap[wr.heap.size]? = some (.cells #[.int .i64 x.1, .string x.2] 70 (0, 0)) := heap_alloc_last _ _
      have hbr1 := (hbr.below ((Below.refl _ _).alloc (Nat.le_refl _) (.cells #[.int .i64 x.1, .string x.2] 70)))
      have hbr2 := hbr1.below (Below.refl _ _).drew
      have hbl2 : Below w1.heap.size w1 (wr.alloc (.cells #[.int .i64 x.1, .string x.2] 70)).drew := drewB (allocB hbl _)
      clear hx hacc hkb hbr
      by_cases hz : 253 < x.2.size
      · have HT : Hid (optsM os = ([], 401)) := Lib.hid (by
          rw [HM.out, if_pos (List.any_eq_true.2 ⟨k, List.mem_range.2 hkl, by rw [hlo]; simp [hz]⟩)])
        have hdz : decide ((253 : Int) < (x.2.size : Int)) = true := decide_eq_true (by omega)
        clear hsu hlo hbr1
        go_wp2_with fail
        refine wp_schedL (fun w' => w'.cell? ⟨wr.heap.size, 1, none⟩ = some (.string x.2)) [(0, true), (1, true), (2, true), (3, true), (4, true), (7, true), (8, true), (9, true), (5, false), (6, true), (10, true), (11, true), (12, true)] (by kernel_rfl) (by kernel_rfl) rfl (by kernel_rfl) (by kernel_rfl) s1 (fun _ d _ _ _ h => by cases d <;> exact h) ?_
        simp only [schedOps, List.filterMap_cons, List.filterMap_nil, List.getElem?_toArray, List.getElem?_cons_zero, List.getElem?_cons_succ, Option.map_some]
        repeat (first | (refine' wpSched_take _ (by rfl) (fun wS hS => ?_) ?_; rotate_left; (focus (obtain s1 := hS; go_simp; first | done | rfl)); (try simp only [Act.put, List.setIfInBounds_toArray, List.set_cons_zero, List.set_cons_succ])) | (refine wpSched_skip (by rfl) ?_; try simp only [Act.put, List.setIfInBounds_toArray, List.set_cons_zero, List.set_cons_succ]))
        refine wpSched_run (fun K hK => ?_)
        go_wp2_with fail
        refine QRun_normal (hK.out _ _ s1 ?_)
        clear hK K
        repeat (first | (refine' wpSched_take _ (by rfl) (fun wS hS => ?_) ?_; rotate_left; (focus (obtain s1 := hS; go_simp; first | done | rfl)); (try simp only [Act.put, List.setIfInBounds_toArray, List.set_cons_zero, List.set_cons_succ])) | (refine wpSched_skip (by rfl) ?_; try simp only [Act.put, List.setIfInBounds_toArray, List.set_cons_zero, List.set_cons_succ]))
        refine wpSched_done ?_
        go_wp2_with fail
        go_ret2
        exact ⟨by rw [HT.out]; rfl, hb1.trans (hbl2.mono hb1.size)⟩
      · have hz2 : ¬ (253 : Int) < (x.2.size : Int) := by omega
        have hdz : decide ((253 : Int) < (x.2.size : Int)) = false := decide_eq_false hz2
        have hw1 : IntKind.i64.wrap ((acc.length : Int) + 2) = (acc.length : Int) + 2 := IntWalk.i64_in _ (by omega)
        have hw2 : IntKind.i64.wrap ((acc.length : Int) + 2 + (x.2.size : Int)) = (acc.length : Int) + 2 + (x.2.size : Int) := IntWalk.i64_in _ (by omega)
        by_cases hm : 2048 < acc.length + 2 + x.2.size
        · have HT : Hid (optsM os = ([], 401)) := Lib.hid (by
            rw [HM.out, if_pos (List.any_eq_true.2 ⟨k, List.mem_range.2 hkl, by rw [hlo]; simp [hm]⟩)])
          have hdm : decide ((2048 : Int) < (acc.length : Int) + 2 + (x.2.size : Int)) = true := decide_eq_true (by omega)
          clear hsu hlo hbr1 hz2
          go_wp2_with fail
          refine wp_schedL (fun w' => w'.cell? ⟨wr.heap.size, 1, none⟩ = some (.string x.2)) [(0, true), (1, true), (2, true), (3, true), (4, true), (7, true), (8, true), (9, true), (5, false), (6, true), (10, true), (11, true), (12, true)] (by kernel_rfl) (by kernel_rfl) rfl (by kernel_rfl) (by kernel_rfl) s1 (fun _ d _ _ _ h => by cases d <;> exact h) ?_
          simp only [schedOps, List.filterMap_cons, List.filterMap_nil, List.getElem?_toArray, List.getElem?_cons_zero, List.getElem?_cons_succ, Option.map_some]
          repeat (first | (refine' wpSched_take _ (by rfl) (fun wS hS => ?_) ?_; rotate_left; (focus (obtain s1 := hS; go_simp; first | done | rfl)); (try simp only [Act.put, List.setIfInBounds_toArray, List.set_cons_zero, List.set_cons_succ])) | (refine wpSched_skip (by rfl) ?_; try simp only [Act.put, List.setIfInBounds_toArray, List.set_cons_zero, List.set_cons_succ]))
          refine wpSched_run (fun K hK => ?_)
          go_wp2_with (go_at_call 71; refine (builderLen _ _ acc _ hbr2).mono ?_; rintro e w' ⟨rfl, rfl⟩)
          refine QRun_normal (hK.out _ _ s1 ?_)
          clear hK K
          repeat (first | (refine' wpSched_take _ (by rfl) (fun wS hS => ?_) ?_; rotate_left; (focus (obtain s1 := hS; go_simp; first | done | rfl)); (try simp only [Act.put, List.setIfInBounds_toArray, List.set_cons_zero, List.set_cons_succ])) | (refine wpSched_skip (by rfl) ?_; try simp only [Act.put, List.setIfInBounds_toArray, List.set_cons_zero, List.set_cons_succ]))
          refine wpSched_done ?_
          go_wp2_with fail
          go_ret2
          exact ⟨by rw [HT.out]; rfl, hb1.trans (hbl2.mono hb1.size)⟩
        · have hlf : optLong os k = false := by rw [hlo, decide_eq_false hz, decide_eq_false hm]; rfl
          have HLo2 : Hid (∀ j, j < k + 1 → optLong os j = false) := Lib.hid (fun j hj => by
            by_cases e : j = k
            · subst e; exact hlf
            · exact HLo.out j (by omega))
          have HSU := Lib.hid hsu
          have hob := optB_len x
          have HX := Lib.hid (head2 x hk0.1 hk0.2 (by omega))
          have hxs := head2_size x
          have hdm : decide ((2048 : Int) < (acc.length : Int) + 2 + (x.2.size : Int)) = false := decide_eq_false (by omega)
          clear hsu hlo hlf hz2
          go_wp2_with fail
          refine wp_schedL (fun w' => w'.cell? ⟨wr.heap.size, 1, none⟩ = some (.string x.2)) [(0, true), (1, true), (2, true), (3, true), (4, true), (7, true), (8, true), (9, true), (5, false), (6, true), (10, true), (11, true), (12, true)] (by kernel_rfl) (by kernel_rfl) rfl (by kernel_rfl) (by kernel_rfl) s1 (fun _ d _ _ _ h => by cases d <;> exact h) ?_
          simp only [schedOps, List.filterMap_cons, List.filterMap_nil, List.getElem?_toArray, List.getElem?_cons_zero, List.getElem?_cons_succ, Option.map_some]
          repeat (first | (refine' wpSched_take _ (by rfl) (fun wS hS => ?_) ?_; rotate_left; (focus (obtain s1 := hS; go_simp; first | done | rfl)); (try simp only [Act.put, List.setIfInBounds_toArray, List.set_cons_zero, List.set_cons_succ])) | (refine wpSched_skip (by rfl) ?_; try simp only [Act.put, List.setIfInBounds_toArray, List.set_cons_zero, List.set_cons_succ]))
          refine wpSched_run (fun K hK => ?_)
          go_wp2_with (go_at_call 71; refine (builderLen _ _ acc _ hbr2).mono ?_; rintro e w' ⟨rfl, rfl⟩)
          refine QRun_normal (hK.out _ _ s1 ?_)
          clear hK K
          repeat (first | (refine' wpSched_take _ (by rfl) (fun wS hS => ?_) ?_; rotate_left; (focus (obtain s1 := hS; go_simp; first | done | rfl)); (try simp only [Act.put, List.setIfInBounds_toArray, List.set_cons_zero, List.set_cons_succ])) | (refine wpSched_skip (by rfl) ?_; try simp only [Act.put, List.setIfInBounds_toArray, List.set_cons_zero, List.set_cons_succ]))
          refine wpSched_done ?_
          have hcv := conv_at ((wr.alloc (.cells #[.int .i64 x.1, .string x.2] 70)).alloc (.cells #[.int .u8 x.1, .int .u8 (2 + (x.2.size : Int))] 5)).drew (wr.heap.size + 1) 2 [x.1, (2 : Int) + x.2.size] _ _ _ (heap_last2 _ _ _) rfl rfl
          have hbr3 := hbr1.below ((Below.refl _ _).alloc (Nat.le_refl _) (.cells #[.int .u8 x.1, .int .u8 (2 + (x.2.size : Int))] 5))
          have hbr4 := hbr3.below (Below.refl _ _).drew
          have hbl4 : Below w1.heap.size w1 ((wr.alloc (.cells #[.int .i64 x.1, .string x.2] 70)).alloc (.cells #[.int .u8 x.1, .int .u8 (2 + (x.2.size : Int))] 5)).drew := drewB (allocB (allocB hbl _) _)
          obtain ⟨T, hT⟩ : ∃ T, strOfNums [x.1, (2 : Int) + x.2.size] ++ x.2 = T := ⟨_, rfl⟩
          rw [hT] at hxs HX
          have hq1 : (strOfNums [x.1, (2 : Int) + x.2.size]).size = 2 := strOfNums_size _
          clear hbr1 hbr2 hbl2 hbr3
          go_wp2_with fail
          clear hT hq1 hcv
          refine (writeString _ _ acc T _ hbr4 (by omega) hbl4.size).mono ?_
          rintro e w5 ⟨rfl, hbr5, hb5⟩
          rw [HX.out] at hbr5
          go_wp2_with fail
          go_roundw
          case rel => exact ⟨k + 1, by omega, by go_num, by rw [HSU.out]; exact hbr5, hbl4.trans hb5, by rw [HSU.out, List.length_append]; omega, HLo2⟩
          case measure => simp [intOf]; omega
    · obtain rfl : k = n := by omega
      have HT : Hid (optsM os = (optsTo os k, 0)) := Lib.hid (by
        rw [HM.out, HN.out, if_neg]
        intro hx
        obtain ⟨j, hj, hjl⟩ := List.any_eq_true.1 hx
        rw [HLo.out j (List.mem_range.1 hj)] at hjl
        cases hjl)
      go_wp2_with fail
      refine (builderString _ _ _ _ hbr hbl.size).mono ?_
      rintro e w5 ⟨rfl, hb5⟩
      go_wp2_with fail
      go_ret2
      exact ⟨by rw [HT.out]; rfl, hb1.trans ((hbl.trans hb5).mono hb1.size)⟩
end Go.Proofs.YtagnbdenecphcaaGreatDoor
/-! opts.Put, whole. -/
namespace Go.Proofs.YtagnbdenecphcaaGreatDoor
open Go.RowKit
set_option linter.unusedVariables false
set_option linter.unusedSimpArgs false
set_option maxRecDepth 100000 in
set_option maxHeartbeats 8000000 in
theorem oput_nil (w : World) :
    Calls Tryz.prog 45 #[.slice none 0 0] w fun e w' => e = .returned (.tuple #[.string (bytesOf (optsM []).1), .int .i64 (optsM []).2]) ∧ Below w.heap.size w w' := by
  have hcon := fun w => containsFunc_any (.slice none 0 0) [] w (OptsAt.nil w)
  go_enter Tryz.func45, Tryz.ntmps45
  go_wp2_with fail
  refine (hcon _).mono ?_
  rintro e w1 ⟨rfl, hb1⟩
  clear hcon
  go_wp2_with fail
  have hbd : BuildAt w1.heap.size w1.heap.size [] (w1.alloc (.cells #[.pointer none, .slice none 0 0] 123)) := BuildAt.new (Nat.le_refl _) (heap_alloc_last _ _)
  have hbw : Below w1.heap.size w1 (w1.alloc (.cells #[.pointer none, .slice none 0 0] 123)) := allocB (Below.refl _ _) _
  go_loopw [11] (fun i wr => i = .int .i64 0 ∧ BuildAt w1.heap.size w1.heap.size [] wr ∧ Below w1.heap.size w1 wr) (fun _ _ => 0)
  case atStart => exact ⟨rfl, hbd, hbw⟩
  case round =>
    obtain ⟨rfl, hbr, hbl⟩ := hrel
    clear hbd hbw
    go_wp2_with fail
    refine (builderString _ _ _ _ hbr hbl.size).mono ?_
    rintro e w5 ⟨rfl, hb5⟩
    go_wp2_with fail
    go_ret2
    exact ⟨rfl, hb1.trans ((hbl.trans hb5).mono hb1.size)⟩
set_option maxRecDepth 100000 in
set_option maxHeartbeats 8000000 in
theorem oput_bad (v : Value) (os : List OptM) (w : World) (h : OptsAt w v os) (hg : os.any kindBad = true) :
    Calls Tryz.prog 45 #[v] w fun e w' => e = .returned (.tuple #[.string (bytesOf (optsM os).1), .int .i64 (optsM os).2]) ∧ Below w.heap.size w w' := by
  have hcon := containsFunc_any v os w h
  rw [hg] at hcon
  have HM : Hid (optsM os = ([], 400)) := Lib.hid (by
    unfold optsM; rw [if_pos (by rw [show (os.any fun o => decide (o.1 < 0) || decide (255 < o.1)) = os.any kindBad from rfl, hg])])
  clear hg
  rcases h.or with ⟨rfl, rfl⟩ | ⟨g, o, c, rfl⟩
  · clear h
    go_enter Tryz.func45, Tryz.ntmps45
    go_wp2_with fail
    refine hcon.mono ?_
    rintro e w1 ⟨rfl, hb1⟩
    clear hcon
    go_wp2_with fail
    go_ret2
    exact ⟨by rw [HM.out]; rfl, hb1⟩
  · clear h
    go_enter Tryz.func45, Tryz.ntmps45
    go_wp2_with fail
    refine hcon.mono ?_
    rintro e w1 ⟨rfl, hb1⟩
    clear hcon
    go_wp2_with fail
    go_ret2
    exact ⟨by rw [HM.out]; rfl, hb1⟩
theorem oput_any (v : Value) (os : List OptM) (w : World) (h : OptsAt w v os) :
    Calls Tryz.prog 45 #[v] w fun e w' => e = .returned (.tuple #[.string (bytesOf (optsM os).1), .int .i64 (optsM os).2]) ∧ Below w.heap.size w w' := by
  by_cases hg : os.any kindBad = true
  · exact oput_bad v os w h hg
  · rcases h.or with ⟨rfl, rfl⟩ | ⟨g, o, c, rfl⟩
    · exact oput_nil w
    · exact oput_some g o c os w h (Bool.not_eq_true _ ▸ hg)
end Go.Proofs.YtagnbdenecphcaaGreatDoor
