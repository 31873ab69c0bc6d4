/- The console's Run: walked. -/
import Derived.Test.YteigigepmoicaaaGreatDoorCon10
import Derived.Test.YteigigepmoicaaaGreatDoorCon16
import Derived.Shelf.Strings.BuilderK
namespace Go.Proofs.YteigigepmoicaaaGreatDoor
open Go.RowKit Go.Crc
set_option linter.unusedVariables false
set_option linter.unusedSimpArgs false
/-- a Builder that was made in block b -/
def BuildF (B b : Nat) (l : List UInt8) (w : World) : Prop := Lib.IsBuilderF 52 5 B b (Lib.byteCells l) w
theorem BuildF.new (w : World) : BuildF w.heap.size w.heap.size [] (w.alloc (.cells #[.pointer none, .slice none 0 0] 52)) := Lib.IsBuilderF.of (Lib.fresh_isBuilder _ _ w)
theorem BuildF.below {B b : Nat} {l : List UInt8} {w w' : World} (h : BuildF B b l w) (hb : Below w.heap.size w w') : BuildF B b l w' := by
  have key : ∀ p, Lib.BuilderAtF 52 5 B b p (Lib.byteCells l) w → Lib.BuilderAtF 52 5 B b p (Lib.byteCells l) w' := by
    rintro p ⟨h1, v, h2, h3, h4⟩
    refine ⟨h1, v, ?_, ⟨h3.1, ?_⟩, h4⟩
    · rw [hb.block b (Array.getElem?_eq_some_iff.1 h2).1]; exact h2
    · rcases h3.2 with h5 | ⟨g, cap, cur, fz, hv, hg, hh, r⟩
      · exact .inl h5
      · exact .inr ⟨g, cap, cur, fz, hv, hg, (hb.block g (Array.getElem?_eq_some_iff.1 hh).1).trans hh, r⟩
  rcases h with h | h
  · exact .inl (key _ h)
  · exact .inr (key _ h)
theorem writeStringF (B b : Nat) (l t : List UInt8) (w : World) (h : BuildF B b l w) (hlen : l.length + t.length ≤ 140737488355328) (hBw : B ≤ w.heap.size) :
    Calls Tryz.prog 28 #[.pointer (some ⟨b, 0, none⟩), .string (bytesOf t)] w fun e w' => e = .returned (.tuple #[.int .i64 (bytesOf t).size, .nilIface]) ∧ BuildF B b (l ++ t) w' ∧ Below B w w' ∧ Lib.OthersKept 5 (some b) w w' := by
  refine (Any.Builder_WriteString_k lays166 bx166 B b (Lib.byteCells l) (bytesOf t) w h (by rw [Lib.byteCells_length, bytesOf_size]; exact hlen) hBw).mono fun e w' ⟨he, hb, hl, hk⟩ => ⟨he, .inr ?_, hl, hk⟩
  have e1 : Lib.byteCells (l ++ t) = Lib.byteCells l ++ Lib.strCells (bytesOf t) := by rw [strCells_eq]; simp [Lib.byteCells, bytesOf]
  rw [e1]; exact hb
theorem builderStringF (B b : Nat) (l : List UInt8) (w : World) (h : BuildF B b l w) (hBw : B ≤ w.heap.size) :
    Calls Tryz.prog 30 #[.pointer (some ⟨b, 0, none⟩)] w fun e w' => e = .returned (.string (bytesOf l)) ∧ Below B w w' :=
  (Any.Builder_String_any_k lays169 bx169 B b l w h hBw).mono fun e w' ⟨he, _, hl, _⟩ => ⟨he, hl⟩
/-- the predicate that Run hands to FieldsFunc -/
theorem blank_pays (w : World) : PredAtRunes Tryz.prog 27 #[] blankR w := fun W r hr _ => by
  unfold FnGives
  by_cases h1 : r = 32
  · subst h1
    go_enter Tryz.func27, Tryz.ntmps27
    go_wp2
    go_ret
    exact ⟨rfl, 0, rfl⟩
  · have e1 : ((r : Int) == 32) = false := by rw [beq_eq_false_iff_ne]; omega
    by_cases h2 : r = 9
    · subst h2
      go_enter Tryz.func27, Tryz.ntmps27
      go_wp2
      go_ret
      exact ⟨rfl, 0, rfl⟩
    · have e2 : ((r : Int) == 9) = false := by rw [beq_eq_false_iff_ne]; omega
      have e3 : blankR r = false := by unfold blankR; rw [Bool.or_eq_false_iff, beq_eq_false_iff_ne, beq_eq_false_iff_ne]; exact ⟨h1, h2⟩
      rw [e3]
      go_enter Tryz.func27, Tryz.ntmps27
      go_wp2
      go_ret
      exact ⟨rfl, 0, rfl⟩
theorem ffunc_any (x : List UInt8) (w : World) (hs : x.length ≤ 65536) :
    Calls Tryz.prog 26 #[.string (bytesOf x), .func (.func 27) #[] #[]] w fun e w' => ∃ A, e = .returned (.slice (some ⟨A, 0, none⟩) (wordsM x).length (wordsM x).length) ∧ (∀ j (h : j < (wordsM x).length), w'.cell? ⟨A, j, none⟩ = some (.string (bytesOf (wordsM x)[j]))) ∧ Below w.heap.size w w' := by
  refine (Any.strings_FieldsFunc_runes lays229 _ #[] (enters_of Tryz.func27 (by kernel_rfl) rfl) blankR (bytesOf x) w (by rw [bytesOf_size]; omega) (blank_pays w) (by kernel_rfl) (by kernel_rfl)).mono ?_
  rw [fields_words, show (bytesOf x).data.toList = x from rfl, List.length_map]
  rintro e w' ⟨A, rfl, hA, hrow, hb⟩
  refine ⟨A, rfl, fun j hj => ?_, hb⟩
  rcases hrow.2 with ⟨hv, h0⟩ | ⟨g, cap, cur, hv, hg, hh, hn, hm, hcs, ht⟩
  · cases hv
  · cases hv
    have e : cur[j]? = (((wordsM x).map bytesOf).map Value.string)[j]? := by
      rw [← ht, List.getElem?_take, if_pos (by omega)]; simp
    simp [World.cell?, hh, e, hj]
theorem lsplit_any (s : ByteArray) (m : Int) (w : World) (hs : s.size ≤ 65536) (hm : MaxLenIs w m) :
    Calls Tryz.prog 25 #[.string s, .string ⟨#[10]⟩] w fun e w' =>
      e = .returned (.slice (some ⟨w.heap.size, 0, none⟩) (cutN 10 s.data.toList).length (cutN 10 s.data.toList).length) ∧ w' = w.alloc (.cells (textsRow ((cutN 10 s.data.toList).map bytesOf)) 9) := by
  have h := splitAt_any s 10 m w (by omega) hm
  rw [pieces_cutN, cutN_length] at h
  have e1 : (Lib.countB s (bytesOf [10]) : Int) + 1 = ((cutN 10 s.data.toList).length : Nat) := by rw [← cutN_length]; rfl
  exact h
theorem line_len (ws : List (List UInt8)) (hs : ∀ x ∈ ws, x.length ≤ 65536) : (lineM ws).length ≤ 1000000 := by
  cases ws with
  | nil =>
    have := errW_len 2800
    have e : lineM [] = errW 2800 := rfl
    rw [e]; omega
  | cons name r =>
    have hlm : lineM (name :: r) = match kindsOf name with | none => errW 2800 | some k => tellW name (readM k r) := rfl
    rw [hlm]
    have := errW_len 2800
    cases hk : kindsOf name with
    | none => dsimp only; omega
    | some ks =>
      dsimp only
      obtain ⟨ci, f, hfind, hd⟩ := cmd_find name ks hk
      cases hr : readM ks r with
      | none => dsimp only [tellW]; omega
      | some nb =>
        obtain ⟨n, b⟩ := nb
        obtain ⟨⟨h1, h2, h3⟩, -⟩ := tell_any name ks f hk hd r (fun x hx => hs x (by simp [hx])) n b hr 0
        dsimp only [tellW]
        split
        · exact h3
        · have := errW_len (tellM name n b).2; omega
theorem one_len (x : List UInt8) (hs : x.length ≤ 65536) : (oneM x).length ≤ 1000001 := by
  unfold oneM
  split
  · simp
  · have := line_len (wordsM x) (fun y hy => by have := wordsC_size x [] y hy; simp at this; omega)
    rw [List.length_append]
    simp only [List.length_cons, List.length_nil]
    omega
theorem flat_len (f : List UInt8 → List UInt8) (n : Nat) : ∀ l : List (List UInt8), (∀ x ∈ l, (f x).length ≤ n) → (l.flatMap f).length ≤ n * l.length
  | [], _ => by simp
  | x :: l, h => by
    have h1 := h x (by simp)
    have h2 := flat_len f n l (fun y hy => h y (by simp [hy]))
    rw [List.flatMap_cons, List.length_append, List.length_cons, Nat.mul_add]
    omega
theorem cutN_count (n : UInt8) : ∀ l : List UInt8, (cutN n l).length ≤ l.length + 1
  | [] => by simp [cutN]
  | c :: l => by
    have ih := cutN_count n l
    unfold cutN
    split
    · simp; omega
    · split
      · simp
      · rename_i h; rw [h] at ih; simp at ih ⊢; omega
theorem run_len (x : List UInt8) (hs : x.length ≤ 65536) : (runM x).length ≤ 1000001 * 65537 := by
  unfold runM
  have h1 := flat_len oneM 1000001 (cutN 10 x) (fun y hy => one_len y (by have := cutN_size 10 x y hy; omega))
  have h2 := cutN_count 10 x
  have h3 : 1000001 * (cutN 10 x).length ≤ 1000001 * 65537 := Nat.mul_le_mul_left _ (by omega)
  omega
end Go.Proofs.YteigigepmoicaaaGreatDoor
