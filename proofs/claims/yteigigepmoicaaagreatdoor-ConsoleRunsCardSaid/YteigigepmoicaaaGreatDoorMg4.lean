/- The contract of frame.Get. The shelf's contracts of strings.Split and strings.Cut, laid at this translation. The automaton's table, plain; Made. The automaton's Step. The console's commands: what a line tells, what a script tells; the law's own answer. Plain. -/
import Derived.Test.YteigigepmoicaaaGreatDoorMg3
import Derived.Shelf.Strings.Split
import Derived.Shelf.Strings.Cut
import Derived.Test.YteigigepmoicaaaGreatDoorRows
import Derived.Test.YteigigepmoicaaaGreatDoorMg1
import Derived.Test.YteigigepmoicaaaGreatDoorMg2
/-! The contract of frame.Get. -/
namespace Go.Proofs.YteigigepmoicaaaGreatDoor
open Go.RowKit Go.Crc
/-- what Get answers of the text that was unstuffed -/
def unhead (u : List UInt8) : Int × List UInt8 × Int :=
  if u.take 2 ≠ [255, 3] then (0, [], 302) else
  if protoOk ((u.getD 2 0).toNat * 256 + (u.getD 3 0).toNat : Nat) = false then (0, [], 303) else
  if 2052 < u.length then (0, [], 304) else (((u.getD 2 0).toNat * 256 + (u.getD 3 0).toNat : Nat), u.drop 4, 0)
def unframe (l : List UInt8) : Int × List UInt8 × Int :=
  if (unstuff l).2 ≠ 0 ∨ (unstuff l).1.length < 6 then (0, [], 300) else
  if (chk (unstuff l).1).2 ≠ 0 then (0, [], 301) else unhead (chk (unstuff l).1).1
theorem un_length : ∀ (l r : List UInt8), un l = some r → r.length ≤ l.length
  | [], r, h => by simp [un] at h; subst h; exact Nat.le_refl _
  | [c], r, h => by
    by_cases hc : c = 125
    · subst hc; simp [un] at h
    · rw [un_plain hc] at h; simp [un] at h; subst h; simp
  | c :: d :: l, r, h => by
    by_cases hc : c = 125
    · subst hc
      rw [un_mark] at h
      obtain ⟨r2, h2, rfl⟩ := Option.map_eq_some_iff.1 h
      have := un_length l r2 h2
      simp; omega
    · rw [un_plain hc] at h
      obtain ⟨r2, h2, rfl⟩ := Option.map_eq_some_iff.1 h
      have := un_length (d :: l) r2 h2
      simp at this ⊢; omega
theorem unstuff_length (l : List UInt8) : (unstuff l).1.length ≤ l.length := by
  unfold unstuff
  split
  · simp
  · split
    · simp
    · rename_i r h; exact un_length _ _ h
theorem chk_ok {t : List UInt8} (h : ¬ (chk t).2 ≠ 0) : (chk t).1.length + 2 = t.length := by
  unfold chk at h ⊢
  by_cases h1 : t.length < 2
  · rw [if_pos h1] at h; exact absurd (by decide) h
  · rw [if_neg h1] at h ⊢
    by_cases h2 : put (t.take (t.length - 2)) = t
    · rw [if_pos h2]; simp; omega
    · rw [if_neg h2] at h; exact absurd (by decide) h
def ansF (r : Int × List UInt8 × Int) : Value := .tuple #[.agg #[.int .i64 r.1, .string (bytesOf r.2.1)], .int .i64 r.2.2]
set_option maxHeartbeats 1000000 in
theorem fget1 (s : ByteArray) (w : World) (hs : s.size ≤ 140737488355328) (h1 : (unstuff s.data.toList).2 ≠ 0) :
    Calls Tryz.prog 63 #[.string s] w fun e w' => e = .returned (ansF (unframe s.data.toList)) ∧ Below w.heap.size w w' := by
  have hul := unstuff_length s.data.toList
  rw [len_toList] at hul
  have hr : Hid (unframe s.data.toList = (0, [], 300)) := by unfold unframe; rw [if_pos (.inl h1)]; exact rfl
  have e1 : ((unstuff s.data.toList).2 != 0) = true := bne_iff_ne.2 h1
  clear h1
  go_enter Tryz.func63, Tryz.ntmps63
  go_wp2_with fail
  refine (sget_any _ _ hs).mono ?_
  rintro e w1 ⟨rfl, hb1⟩
  have k0 := below_cell hb1 (a := ⟨w.heap.size, 0, none⟩) (v := .int .i64 0) (by simp [World.cell?_alloc_new])
  have k1 := below_cell hb1 (a := ⟨w.heap.size, 1, none⟩) (v := .string ⟨#[]⟩) (by simp [World.cell?_alloc_new])
  have f0 : w1.frozen? ⟨w.heap.size, 0, none⟩ = false := ((bcell hb1).2 _ _ (by simp)).trans (by simp [go_sem])
  have f1 : w1.frozen? ⟨w.heap.size, 1, none⟩ = false := ((bcell hb1).2 _ _ (by simp)).trans (by simp [go_sem])
  have hlt1 : w.heap.size < w1.heap.size := by have := hb1.size; simp at this; omega
  have hB1 := seqB (allocB (Below.refl _ _) _) hb1
  clear hb1
  generalize (unstuff s.data.toList).2 = te at e1 ⊢
  generalize (unstuff s.data.toList).1 = t at *
  go_wp2_with fail
  refine bodyPost_ret (v := ansF (0, [], 300)) (by simp [results, Tryz.results63, go_sem, k0, k1, ansF]; rfl) rfl ⟨by rw [hr.out], ?_⟩
  exact (hB1.setCell (Nat.le_refl _) _).setCell (Nat.le_refl _) _
set_option maxHeartbeats 1000000 in
theorem fget2 (s : ByteArray) (w : World) (hs : s.size ≤ 140737488355328) (h1 : (unstuff s.data.toList).2 = 0) (h2 : (unstuff s.data.toList).1.length < 6) :
    Calls Tryz.prog 63 #[.string s] w fun e w' => e = .returned (ansF (unframe s.data.toList)) ∧ Below w.heap.size w w' := by
  have hul := unstuff_length s.data.toList
  rw [len_toList] at hul
  have hr : Hid (unframe s.data.toList = (0, [], 300)) := by unfold unframe; rw [if_pos (.inr h2)]; exact rfl
  have H1 := Lib.hid h1
  clear h1
  go_enter Tryz.func63, Tryz.ntmps63
  go_wp2_with fail
  refine (sget_any _ _ hs).mono ?_
  rintro e w1 ⟨rfl, hb1⟩
  have k0 := below_cell hb1 (a := ⟨w.heap.size, 0, none⟩) (v := .int .i64 0) (by simp [World.cell?_alloc_new])
  have k1 := below_cell hb1 (a := ⟨w.heap.size, 1, none⟩) (v := .string ⟨#[]⟩) (by simp [World.cell?_alloc_new])
  have f0 : w1.frozen? ⟨w.heap.size, 0, none⟩ = false := ((bcell hb1).2 _ _ (by simp)).trans (by simp [go_sem])
  have f1 : w1.frozen? ⟨w.heap.size, 1, none⟩ = false := ((bcell hb1).2 _ _ (by simp)).trans (by simp [go_sem])
  have hlt1 : w.heap.size < w1.heap.size := by have := hb1.size; simp at this; omega
  have hB1 := seqB (allocB (Below.refl _ _) _) hb1
  clear hb1
  rw [H1.out]
  clear H1
  generalize (unstuff s.data.toList).1 = t at *
  have hts : (bytesOf t).size = t.length := bytesOf_size t
  go_wp2_with fail
  refine bodyPost_ret (v := ansF (0, [], 300)) (by simp [results, Tryz.results63, go_sem, k0, k1, ansF]; rfl) rfl ⟨by rw [hr.out], ?_⟩
  exact (hB1.setCell (Nat.le_refl _) _).setCell (Nat.le_refl _) _
set_option maxHeartbeats 1000000 in
theorem fget3 (s : ByteArray) (w : World) (hs : s.size ≤ 140737488355328) (h1 : (unstuff s.data.toList).2 = 0) (h2 : ¬ (unstuff s.data.toList).1.length < 6) (h3 : (chk (unstuff s.data.toList).1).2 ≠ 0) :
    Calls Tryz.prog 63 #[.string s] w fun e w' => e = .returned (ansF (unframe s.data.toList)) ∧ Below w.heap.size w w' := by
  have hul := unstuff_length s.data.toList
  rw [len_toList] at hul
  have hr : Hid (unframe s.data.toList = (0, [], 301)) := by unfold unframe; rw [if_neg (by rintro (h | h); exact h h1; exact h2 h), if_pos h3]; exact rfl
  have H1 := Lib.hid h1
  have e3 : ((chk (unstuff s.data.toList).1).2 != 0) = true := bne_iff_ne.2 h3
  clear h1 h3
  go_enter Tryz.func63, Tryz.ntmps63
  go_wp2_with fail
  refine (sget_any _ _ hs).mono ?_
  rintro e w1 ⟨rfl, hb1⟩
  have k0 := below_cell hb1 (a := ⟨w.heap.size, 0, none⟩) (v := .int .i64 0) (by simp [World.cell?_alloc_new])
  have k1 := below_cell hb1 (a := ⟨w.heap.size, 1, none⟩) (v := .string ⟨#[]⟩) (by simp [World.cell?_alloc_new])
  have f0 : w1.frozen? ⟨w.heap.size, 0, none⟩ = false := ((bcell hb1).2 _ _ (by simp)).trans (by simp [go_sem])
  have f1 : w1.frozen? ⟨w.heap.size, 1, none⟩ = false := ((bcell hb1).2 _ _ (by simp)).trans (by simp [go_sem])
  have hlt1 : w.heap.size < w1.heap.size := by have := hb1.size; simp at this; omega
  have hB1 := seqB (allocB (Below.refl _ _) _) hb1
  clear hb1
  rw [H1.out]
  clear H1
  generalize (unstuff s.data.toList).1 = t at *
  have hts : (bytesOf t).size = t.length := bytesOf_size t
  go_wp2_with fail
  refine (check_any _ _ (by rw [bytesOf_size]; unfold maxLen; omega)).mono ?_
  rintro e w2 ⟨rfl, hb2⟩
  rw [bytesOf_toList]
  replace k0 := below_cell hb2 k0
  replace k1 := below_cell hb2 k1
  replace f0 := ((bcell hb2).2 _ _ hlt1).trans f0
  replace f1 := ((bcell hb2).2 _ _ hlt1).trans f1
  have hB2 := seqB hB1 hb2
  have hlt2 : w.heap.size < w2.heap.size := Nat.lt_of_lt_of_le hlt1 hb2.size
  clear hb2 hB1
  generalize (chk t).2 = te at *
  generalize (chk t).1 = u at *
  go_wp2_with fail
  refine bodyPost_ret (v := ansF (0, [], 301)) (by simp [results, Tryz.results63, go_sem, k0, k1, ansF]; rfl) rfl ⟨by rw [hr.out], ?_⟩
  exact (hB2.setCell (Nat.le_refl _) _).setCell (Nat.le_refl _) _
set_option maxHeartbeats 1000000 in
theorem fget4 (s : ByteArray) (w : World) (hs : s.size ≤ 140737488355328) (h1 : (unstuff s.data.toList).2 = 0) (h2 : ¬ (unstuff s.data.toList).1.length < 6) (c0 c1 c2 c3 : UInt8) (r : List UInt8) (h3 : chk (unstuff s.data.toList).1 = (c0 :: c1 :: c2 :: c3 :: r, 0)) (h4 : c0 ≠ 255) :
    Calls Tryz.prog 63 #[.string s] w fun e w' => e = .returned (ansF (unframe s.data.toList)) ∧ Below w.heap.size w w' := by
  have hul := unstuff_length s.data.toList
  rw [len_toList] at hul
  have hr : Hid (unframe s.data.toList = (0, [], 302)) := by
    unfold unframe; rw [if_neg (by rintro (h | h); exact h h1; exact h2 h), if_neg (by rw [h3]; simp), h3]; unfold unhead; rw [if_pos (by intro h; injection h with a b; exact h4 a)]; exact rfl
  have hrl : r.length + 6 ≤ 140737488355328 := by have := chk_ok (t := (unstuff s.data.toList).1) (by rw [h3]; simp); rw [h3] at this; simp at this; omega
  have H1 := Lib.hid h1
  have H3 := Lib.hid h3
  clear h1 h3
  have g0 : ∀ h, (bytesOf (c0 :: c1 :: c2 :: c3 :: r))[0]'h = c0 := fun _ => rfl
  have g1 : ∀ h, (bytesOf (c0 :: c1 :: c2 :: c3 :: r))[1]'h = c1 := fun _ => rfl
  have g2 : ∀ h, (bytesOf (c0 :: c1 :: c2 :: c3 :: r))[2]'h = c2 := fun _ => rfl
  have g3 : ∀ h, (bytesOf (c0 :: c1 :: c2 :: c3 :: r))[3]'h = c3 := fun _ => rfl
  have gsz : (bytesOf (c0 :: c1 :: c2 :: c3 :: r)).size = r.length + 4 := by rw [bytesOf_size]; rfl
  have e4 : ((c0.toNat : Int) != 255) = true := u8_bne h4
  clear h4
  go_enter Tryz.func63, Tryz.ntmps63
  go_wp2_with fail
  refine (sget_any _ _ hs).mono ?_
  rintro e w1 ⟨rfl, hb1⟩
  have k0 := below_cell hb1 (a := ⟨w.heap.size, 0, none⟩) (v := .int .i64 0) (by simp [World.cell?_alloc_new])
  have k1 := below_cell hb1 (a := ⟨w.heap.size, 1, none⟩) (v := .string ⟨#[]⟩) (by simp [World.cell?_alloc_new])
  have f0 : w1.frozen? ⟨w.heap.size, 0, none⟩ = false := ((bcell hb1).2 _ _ (by simp)).trans (by simp [go_sem])
  have f1 : w1.frozen? ⟨w.heap.size, 1, none⟩ = false := ((bcell hb1).2 _ _ (by simp)).trans (by simp [go_sem])
  have hlt1 : w.heap.size < w1.heap.size := by have := hb1.size; simp at this; omega
  have hB1 := seqB (allocB (Below.refl _ _) _) hb1
  clear hb1
  rw [H1.out]
  clear H1
  have hts : (bytesOf (unstuff s.data.toList).1).size = (unstuff s.data.toList).1.length := bytesOf_size _
  go_wp2_with fail
  refine (check_any _ _ (by rw [bytesOf_size]; unfold maxLen; omega)).mono ?_
  rintro e w2 ⟨rfl, hb2⟩
  rw [bytesOf_toList]
  replace k0 := below_cell hb2 k0
  replace k1 := below_cell hb2 k1
  replace f0 := ((bcell hb2).2 _ _ hlt1).trans f0
  replace f1 := ((bcell hb2).2 _ _ hlt1).trans f1
  have hB2 := seqB hB1 hb2
  have hlt2 : w.heap.size < w2.heap.size := Nat.lt_of_lt_of_le hlt1 hb2.size
  clear hb2 hB1
  rw [H3.out]
  clear H3
  generalize (unstuff s.data.toList).1 = t at *
  go_wp2_with fail
  refine bodyPost_ret (v := ansF (0, [], 302)) (by simp [results, Tryz.results63, go_sem, k0, k1, ansF]; rfl) rfl ⟨by rw [hr.out], ?_⟩
  exact (hB2.setCell (Nat.le_refl _) _).setCell (Nat.le_refl _) _
set_option maxHeartbeats 1000000 in
theorem fget5 (s : ByteArray) (w : World) (hs : s.size ≤ 140737488355328) (h1 : (unstuff s.data.toList).2 = 0) (h2 : ¬ (unstuff s.data.toList).1.length < 6) (c1 c2 c3 : UInt8) (r : List UInt8) (h3 : chk (unstuff s.data.toList).1 = (255 :: c1 :: c2 :: c3 :: r, 0)) (h4 : c1 ≠ 3) :
    Calls Tryz.prog 63 #[.string s] w fun e w' => e = .returned (ansF (unframe s.data.toList)) ∧ Below w.heap.size w w' := by
  have hul := unstuff_length s.data.toList
  rw [len_toList] at hul
  have hr : Hid (unframe s.data.toList = (0, [], 302)) := by
    unfold unframe; rw [if_neg (by rintro (h | h); exact h h1; exact h2 h), if_neg (by rw [h3]; simp), h3]; unfold unhead; rw [if_pos (by intro h; injection h with a b; injection b with b c; exact h4 b)]; exact rfl
  have hrl : r.length + 6 ≤ 140737488355328 := by have := chk_ok (t := (unstuff s.data.toList).1) (by rw [h3]; simp); rw [h3] at this; simp at this; omega
  have H1 := Lib.hid h1
  have H3 := Lib.hid h3
  clear h1 h3
  have g0 : ∀ h, (bytesOf (255 :: c1 :: c2 :: c3 :: r))[0]'h = 255 := fun _ => rfl
  have g1 : ∀ h, (bytesOf (255 :: c1 :: c2 :: c3 :: r))[1]'h = c1 := fun _ => rfl
  have g2 : ∀ h, (bytesOf (255 :: c1 :: c2 :: c3 :: r))[2]'h = c2 := fun _ => rfl
  have g3 : ∀ h, (bytesOf (255 :: c1 :: c2 :: c3 :: r))[3]'h = c3 := fun _ => rfl
  have gsz : (bytesOf (255 :: c1 :: c2 :: c3 :: r)).size = r.length + 4 := by rw [bytesOf_size]; rfl
  have e5 : ((255 : Int) != 255) = false := rfl
  have e4 : ((c1.toNat : Int) != 3) = true := u8_bne h4
  clear h4
  go_enter Tryz.func63, Tryz.ntmps63
  go_wp2_with fail
  refine (sget_any _ _ hs).mono ?_
  rintro e w1 ⟨rfl, hb1⟩
  have k0 := below_cell hb1 (a := ⟨w.heap.size, 0, none⟩) (v := .int .i64 0) (by simp [World.cell?_alloc_new])
  have k1 := below_cell hb1 (a := ⟨w.heap.size, 1, none⟩) (v := .string ⟨#[]⟩) (by simp [World.cell?_alloc_new])
  have f0 : w1.frozen? ⟨w.heap.size, 0, none⟩ = false := ((bcell hb1).2 _ _ (by simp)).trans (by simp [go_sem])
  have f1 : w1.frozen? ⟨w.heap.size, 1, none⟩ = false := ((bcell hb1).2 _ _ (by simp)).trans (by simp [go_sem])
  have hlt1 : w.heap.size < w1.heap.size := by have := hb1.size; simp at this; omega
  have hB1 := seqB (allocB (Below.refl _ _) _) hb1
  clear hb1
  rw [H1.out]
  clear H1
  have hts : (bytesOf (unstuff s.data.toList).1).size = (unstuff s.data.toList).1.length := bytesOf_size _
  go_wp2_with fail
  refine (check_any _ _ (by rw [bytesOf_size]; unfold maxLen; omega)).mono ?_
  rintro e w2 ⟨rfl, hb2⟩
  rw [bytesOf_toList]
  replace k0 := below_cell hb2 k0
  replace k1 := below_cell hb2 k1
  replace f0 := ((bcell hb2).2 _ _ hlt1).trans f0
  replace f1 := ((bcell hb2).2 _ _ hlt1).trans f1
  have hB2 := seqB hB1 hb2
  have hlt2 : w.heap.size < w2.heap.size := Nat.lt_of_lt_of_le hlt1 hb2.size
  clear hb2 hB1
  rw [H3.out]
  clear H3
  generalize (unstuff s.data.toList).1 = t at *
  go_wp2_with fail
  refine bodyPost_ret (v := ansF (0, [], 302)) (by simp [results, Tryz.results63, go_sem, k0, k1, ansF]; rfl) rfl ⟨by rw [hr.out], ?_⟩
  exact (hB2.setCell (Nat.le_refl _) _).setCell (Nat.le_refl _) _
theorem or_bytes (c2 c3 : UInt8) : bits BinOp.or IntKind.i64 ((c2.toNat : Int) * 256) (c3.toNat : Int) = ((c2.toNat * 256 + c3.toNat : Nat) : Int) := by
  have h2 := c2.toNat_lt
  have h3 := c3.toNat_lt
  have := i64_or_nat (c2.toNat * 256) c3.toNat (by omega) (by omega)
  rw [nat_join 8 (c2.toNat * 256) c3.toNat (by omega) (by omega)] at this
  simpa using this
theorem ext4 (a b c d : UInt8) (r : List UInt8) : (bytesOf (a :: b :: c :: d :: r)).extract 4 (r.length + 4) = bytesOf r := by
  apply ba_ext; rw [extract_toList]; simp [bytesOf]
set_option maxHeartbeats 1000000 in
theorem fget6 (s : ByteArray) (w : World) (hs : s.size ≤ 140737488355328) (h1 : (unstuff s.data.toList).2 = 0) (h2 : ¬ (unstuff s.data.toList).1.length < 6) (c2 c3 : UInt8) (r : List UInt8) (h3 : chk (unstuff s.data.toList).1 = (255 :: 3 :: c2 :: c3 :: r, 0)) (h4 : protoOk ((c2.toNat : Int) * 256 + (c3.toNat : Int)) = false) :
    Calls Tryz.prog 63 #[.string s] w fun e w' => e = .returned (ansF (unframe s.data.toList)) ∧ Below w.heap.size w w' := by
  have hul := unstuff_length s.data.toList
  rw [len_toList] at hul
  have hr : Hid (unframe s.data.toList = (0, [], 303)) := by
    unfold unframe; rw [if_neg (by rintro (h | h); exact h h1; exact h2 h), if_neg (by rw [h3]; simp), h3]; unfold unhead; rw [if_neg (by simp), if_pos (by simpa using h4)]; exact rfl
  have hrl : r.length + 6 ≤ 140737488355328 := by have := chk_ok (t := (unstuff s.data.toList).1) (by rw [h3]; simp); rw [h3] at this; simp at this; omega
  have H1 := Lib.hid h1
  have H3 := Lib.hid h3
  clear h1 h3
  have g0 : ∀ h, (bytesOf (255 :: 3 :: c2 :: c3 :: r))[0]'h = 255 := fun _ => rfl
  have g1 : ∀ h, (bytesOf (255 :: 3 :: c2 :: c3 :: r))[1]'h = 3 := fun _ => rfl
  have g2 : ∀ h, (bytesOf (255 :: 3 :: c2 :: c3 :: r))[2]'h = c2 := fun _ => rfl
  have g3 : ∀ h, (bytesOf (255 :: 3 :: c2 :: c3 :: r))[3]'h = c3 := fun _ => rfl
  have gsz : (bytesOf (255 :: 3 :: c2 :: c3 :: r)).size = r.length + 4 := by rw [bytesOf_size]; rfl
  have hor : bits BinOp.or IntKind.i64 ((c2.toNat : Int) * 256) (c3.toNat : Int) = ((c2.toNat * 256 + c3.toNat : Nat) : Int) := or_bytes c2 c3
  have hc2 := c2.toNat_lt
  have hc3 := c3.toNat_lt
  have hx := ext4 255 3 c2 c3 r
  have H4 := Lib.hid h4
  clear h4
  go_enter Tryz.func63, Tryz.ntmps63
  go_wp2_with fail
  refine (sget_any _ _ hs).mono ?_
  rintro e w1 ⟨rfl, hb1⟩
  have k0 := below_cell hb1 (a := ⟨w.heap.size, 0, none⟩) (v := .int .i64 0) (by simp [World.cell?_alloc_new])
  have k1 := below_cell hb1 (a := ⟨w.heap.size, 1, none⟩) (v := .string ⟨#[]⟩) (by simp [World.cell?_alloc_new])
  have f0 : w1.frozen? ⟨w.heap.size, 0, none⟩ = false := ((bcell hb1).2 _ _ (by simp)).trans (by simp [go_sem])
  have f1 : w1.frozen? ⟨w.heap.size, 1, none⟩ = false := ((bcell hb1).2 _ _ (by simp)).trans (by simp [go_sem])
  have hlt1 : w.heap.size < w1.heap.size := by have := hb1.size; simp at this; omega
  have hB1 := seqB (allocB (Below.refl _ _) _) hb1
  clear hb1
  rw [H1.out]
  clear H1
  have hts : (bytesOf (unstuff s.data.toList).1).size = (unstuff s.data.toList).1.length := bytesOf_size _
  go_wp2_with fail
  refine (check_any _ _ (by rw [bytesOf_size]; unfold maxLen; omega)).mono ?_
  rintro e w2 ⟨rfl, hb2⟩
  rw [bytesOf_toList]
  replace k0 := below_cell hb2 k0
  replace k1 := below_cell hb2 k1
  replace f0 := ((bcell hb2).2 _ _ hlt1).trans f0
  replace f1 := ((bcell hb2).2 _ _ hlt1).trans f1
  have hB2 := seqB hB1 hb2
  have hlt2 : w.heap.size < w2.heap.size := Nat.lt_of_lt_of_le hlt1 hb2.size
  clear hb2 hB1
  rw [H3.out]
  clear H3
  generalize (unstuff s.data.toList).1 = t at *
  go_wp2_with fail
  go_region
  go_wp2_with fail
  refine (proto_any _ _).mono ?_
  rintro e w3 ⟨rfl, rfl⟩
  rw [H4.out]
  go_wp2_with fail
  refine bodyPost_ret (v := ansF (0, [], 303)) (by simp [results, Tryz.results63, go_sem, k0, k1, hlt2, ansF]; try rfl) rfl ⟨by rw [hr.out], ?_⟩
  exact drewB (allocB ((hB2.setCell (Nat.le_refl _) _).setCell (Nat.le_refl _) _) _)
set_option maxHeartbeats 1000000 in
theorem fget7 (s : ByteArray) (w : World) (hs : s.size ≤ 140737488355328) (h1 : (unstuff s.data.toList).2 = 0) (h2 : ¬ (unstuff s.data.toList).1.length < 6) (c2 c3 : UInt8) (r : List UInt8) (h3 : chk (unstuff s.data.toList).1 = (255 :: 3 :: c2 :: c3 :: r, 0)) (h4 : protoOk ((c2.toNat : Int) * 256 + (c3.toNat : Int)) = true) (h5 : 2048 < r.length) :
    Calls Tryz.prog 63 #[.string s] w fun e w' => e = .returned (ansF (unframe s.data.toList)) ∧ Below w.heap.size w w' := by
  have hul := unstuff_length s.data.toList
  rw [len_toList] at hul
  have hr : Hid (unframe s.data.toList = (0, [], 304)) := by
    unfold unframe; rw [if_neg (by rintro (h | h); exact h h1; exact h2 h), if_neg (by rw [h3]; simp), h3]; unfold unhead; rw [if_neg (by simp), if_neg (by simpa using h4), if_pos (by simp; omega)]; exact rfl
  have hrl : r.length + 6 ≤ 140737488355328 := by have := chk_ok (t := (unstuff s.data.toList).1) (by rw [h3]; simp); rw [h3] at this; simp at this; omega
  have H1 := Lib.hid h1
  have H3 := Lib.hid h3
  clear h1 h3
  have g0 : ∀ h, (bytesOf (255 :: 3 :: c2 :: c3 :: r))[0]'h = 255 := fun _ => rfl
  have g1 : ∀ h, (bytesOf (255 :: 3 :: c2 :: c3 :: r))[1]'h = 3 := fun _ => rfl
  have g2 : ∀ h, (bytesOf (255 :: 3 :: c2 :: c3 :: r))[2]'h = c2 := fun _ => rfl
  have g3 : ∀ h, (bytesOf (255 :: 3 :: c2 :: c3 :: r))[3]'h = c3 := fun _ => rfl
  have gsz : (bytesOf (255 :: 3 :: c2 :: c3 :: r)).size = r.length + 4 := by rw [bytesOf_size]; rfl
  have hor : bits BinOp.or IntKind.i64 ((c2.toNat : Int) * 256) (c3.toNat : Int) = ((c2.toNat * 256 + c3.toNat : Nat) : Int) := or_bytes c2 c3
  have hc2 := c2.toNat_lt
  have hc3 := c3.toNat_lt
  have hx := ext4 255 3 c2 c3 r
  have H4 := Lib.hid h4
  clear h4
  go_enter Tryz.func63, Tryz.ntmps63
  go_wp2_with fail
  refine (sget_any _ _ hs).mono ?_
  rintro e w1 ⟨rfl, hb1⟩
  have k0 := below_cell hb1 (a := ⟨w.heap.size, 0, none⟩) (v := .int .i64 0) (by simp [World.cell?_alloc_new])
  have k1 := below_cell hb1 (a := ⟨w.heap.size, 1, none⟩) (v := .string ⟨#[]⟩) (by simp [World.cell?_alloc_new])
  have f0 : w1.frozen? ⟨w.heap.size, 0, none⟩ = false := ((bcell hb1).2 _ _ (by simp)).trans (by simp [go_sem])
  have f1 : w1.frozen? ⟨w.heap.size, 1, none⟩ = false := ((bcell hb1).2 _ _ (by simp)).trans (by simp [go_sem])
  have hlt1 : w.heap.size < w1.heap.size := by have := hb1.size; simp at this; omega
  have hB1 := seqB (allocB (Below.refl _ _) _) hb1
  clear hb1
  rw [H1.out]
  clear H1
  have hts : (bytesOf (unstuff s.data.toList).1).size = (unstuff s.data.toList).1.length := bytesOf_size _
  go_wp2_with fail
  refine (check_any _ _ (by rw [bytesOf_size]; unfold maxLen; omega)).mono ?_
  rintro e w2 ⟨rfl, hb2⟩
  rw [bytesOf_toList]
  replace k0 := below_cell hb2 k0
  replace k1 := below_cell hb2 k1
  replace f0 := ((bcell hb2).2 _ _ hlt1).trans f0
  replace f1 := ((bcell hb2).2 _ _ hlt1).trans f1
  have hB2 := seqB hB1 hb2
  have hlt2 : w.heap.size < w2.heap.size := Nat.lt_of_lt_of_le hlt1 hb2.size
  clear hb2 hB1
  rw [H3.out]
  clear H3
  generalize (unstuff s.data.toList).1 = t at *
  go_wp2_with fail
  go_region
  have hrs : (bytesOf r).size = r.length := bytesOf_size r
  go_wp2_with fail
  refine (proto_any _ _).mono ?_
  rintro e w3 ⟨rfl, rfl⟩
  rw [H4.out]
  go_wp2_with fail
  refine bodyPost_ret (v := ansF (0, [], 304)) (by simp [results, Tryz.results63, go_sem, k0, k1, hlt2, ansF]; try rfl) rfl ⟨by rw [hr.out], ?_⟩
  exact drewB (allocB ((hB2.setCell (Nat.le_refl _) _).setCell (Nat.le_refl _) _) _)
set_option maxHeartbeats 1000000 in
theorem fget8 (s : ByteArray) (w : World) (hs : s.size ≤ 140737488355328) (h1 : (unstuff s.data.toList).2 = 0) (h2 : ¬ (unstuff s.data.toList).1.length < 6) (c2 c3 : UInt8) (r : List UInt8) (h3 : chk (unstuff s.data.toList).1 = (255 :: 3 :: c2 :: c3 :: r, 0)) (h4 : protoOk ((c2.toNat : Int) * 256 + (c3.toNat : Int)) = true) (h5 : ¬ 2048 < r.length) :
    Calls Tryz.prog 63 #[.string s] w fun e w' => e = .returned (ansF (unframe s.data.toList)) ∧ Below w.heap.size w w' := by
  have hul := unstuff_length s.data.toList
  rw [len_toList] at hul
  have hr : Hid (unframe s.data.toList = (((c2.toNat * 256 + c3.toNat : Nat) : Int), r, (0 : Int))) := by
    unfold unframe; rw [if_neg (by rintro (h | h); exact h h1; exact h2 h), if_neg (by rw [h3]; simp), h3]; unfold unhead; rw [if_neg (by simp), if_neg (by simpa using h4), if_neg (by simp; omega)]; exact rfl
  have hrl : r.length + 6 ≤ 140737488355328 := by have := chk_ok (t := (unstuff s.data.toList).1) (by rw [h3]; simp); rw [h3] at this; simp at this; omega
  have H1 := Lib.hid h1
  have H3 := Lib.hid h3
  clear h1 h3
  have g0 : ∀ h, (bytesOf (255 :: 3 :: c2 :: c3 :: r))[0]'h = 255 := fun _ => rfl
  have g1 : ∀ h, (bytesOf (255 :: 3 :: c2 :: c3 :: r))[1]'h = 3 := fun _ => rfl
  have g2 : ∀ h, (bytesOf (255 :: 3 :: c2 :: c3 :: r))[2]'h = c2 := fun _ => rfl
  have g3 : ∀ h, (bytesOf (255 :: 3 :: c2 :: c3 :: r))[3]'h = c3 := fun _ => rfl
  have gsz : (bytesOf (255 :: 3 :: c2 :: c3 :: r)).size = r.length + 4 := by rw [bytesOf_size]; rfl
  have hor : bits BinOp.or IntKind.i64 ((c2.toNat : Int) * 256) (c3.toNat : Int) = ((c2.toNat * 256 + c3.toNat : Nat) : Int) := or_bytes c2 c3
  have hc2 := c2.toNat_lt
  have hc3 := c3.toNat_lt
  have hx := ext4 255 3 c2 c3 r
  have H4 := Lib.hid h4
  clear h4
  go_enter Tryz.func63, Tryz.ntmps63
  go_wp2_with fail
  refine (sget_any _ _ hs).mono ?_
  rintro e w1 ⟨rfl, hb1⟩
  have k0 := below_cell hb1 (a := ⟨w.heap.size, 0, none⟩) (v := .int .i64 0) (by simp [World.cell?_alloc_new])
  have k1 := below_cell hb1 (a := ⟨w.heap.size, 1, none⟩) (v := .string ⟨#[]⟩) (by simp [World.cell?_alloc_new])
  have f0 : w1.frozen? ⟨w.heap.size, 0, none⟩ = false := ((bcell hb1).2 _ _ (by simp)).trans (by simp [go_sem])
  have f1 : w1.frozen? ⟨w.heap.size, 1, none⟩ = false := ((bcell hb1).2 _ _ (by simp)).trans (by simp [go_sem])
  have hlt1 : w.heap.size < w1.heap.size := by have := hb1.size; simp at this; omega
  have hB1 := seqB (allocB (Below.refl _ _) _) hb1
  clear hb1
  rw [H1.out]
  clear H1
  have hts : (bytesOf (unstuff s.data.toList).1).size = (unstuff s.data.toList).1.length := bytesOf_size _
  go_wp2_with fail
  refine (check_any _ _ (by rw [bytesOf_size]; unfold maxLen; omega)).mono ?_
  rintro e w2 ⟨rfl, hb2⟩
  rw [bytesOf_toList]
  replace k0 := below_cell hb2 k0
  replace k1 := below_cell hb2 k1
  replace f0 := ((bcell hb2).2 _ _ hlt1).trans f0
  replace f1 := ((bcell hb2).2 _ _ hlt1).trans f1
  have hB2 := seqB hB1 hb2
  have hlt2 : w.heap.size < w2.heap.size := Nat.lt_of_lt_of_le hlt1 hb2.size
  clear hb2 hB1
  rw [H3.out]
  clear H3
  generalize (unstuff s.data.toList).1 = t at *
  go_wp2_with fail
  go_region
  have hrs : (bytesOf r).size = r.length := bytesOf_size r
  go_wp2_with fail
  refine (proto_any _ _).mono ?_
  rintro e w3 ⟨rfl, rfl⟩
  rw [H4.out]
  go_wp2_with fail
  refine bodyPost_ret (v := ansF (((c2.toNat * 256 + c3.toNat : Nat) : Int), r, (0 : Int))) (by simp [results, Tryz.results63, go_sem, k0, k1, hlt2, ansF]; try rfl) rfl ⟨by rw [hr.out], ?_⟩
  exact drewB (allocB ((hB2.setCell (Nat.le_refl _) _).setCell (Nat.le_refl _) _) _)
theorem fget_any (s : ByteArray) (w : World) (hs : s.size ≤ 140737488355328) :
    Calls Tryz.prog 63 #[.string s] w fun e w' => e = .returned (ansF (unframe s.data.toList)) ∧ Below w.heap.size w w' := by
  by_cases h1 : (unstuff s.data.toList).2 = 0
  · by_cases h2 : (unstuff s.data.toList).1.length < 6
    · exact fget2 s w hs h1 h2
    · by_cases h3 : (chk (unstuff s.data.toList).1).2 = 0
      · obtain ⟨c0, c1, c2, c3, r, hu⟩ : ∃ c0 c1 c2 c3 r, (chk (unstuff s.data.toList).1).1 = c0 :: c1 :: c2 :: c3 :: r := by
          have hl := chk_ok (t := (unstuff s.data.toList).1) (by simp [h3])
          match h : (chk (unstuff s.data.toList).1).1 with
          | c0 :: c1 :: c2 :: c3 :: r => exact ⟨_, _, _, _, _, rfl⟩
          | [] | [_] | [_, _] | [_, _, _] => rw [h] at hl; simp at hl; omega
        have h3' : chk (unstuff s.data.toList).1 = (c0 :: c1 :: c2 :: c3 :: r, 0) := by rw [← hu, ← h3]
        by_cases h4 : c0 = 255
        · subst h4
          by_cases h5 : c1 = 3
          · subst h5
            cases h6 : protoOk ((c2.toNat : Int) * 256 + (c3.toNat : Int)) with
            | false => exact fget6 s w hs h1 h2 c2 c3 r h3' h6
            | true =>
              by_cases h7 : 2048 < r.length
              · exact fget7 s w hs h1 h2 c2 c3 r h3' h6 h7
              · exact fget8 s w hs h1 h2 c2 c3 r h3' h6 h7
          · exact fget5 s w hs h1 h2 c1 c2 c3 r h3' h5
        · exact fget4 s w hs h1 h2 c0 c1 c2 c3 r h3' h4
      · exact fget3 s w hs h1 h2 h3
  · exact fget1 s w hs h1
end Go.Proofs.YteigigepmoicaaaGreatDoor
/-! The shelf's contracts of strings.Split and strings.Cut, laid at this translation. -/
namespace Go.Proofs.YteigigepmoicaaaGreatDoor
open Go.Shelf Go.RowKit Go.Proofs
set_option maxRecDepth 100000
def ren146 : Go.Shelf.Ren := ⟨fun | 138 => 70 | 143 => 71 | 146 => 25 | 195 => 90 | 197 => 91 | 217 => 106 | 218 => 92 | 219 => 93 | 221 => 48 | 224 => 108 | 225 => 107 | 260 => 105 | 266 => 125 | 267 => 109 | 268 => 69 | 314 => 126 | n => n, fun | 0 => 0 | 3 => 3 | 4 => 4 | 5 => 5 | 9 => 9 | 21 => 21 | 31 => 35 | 46 => 38 | 51 => 73 | 105 => 124 | 119 => 155 | 138 => 157 | 139 => 158 | 146 => 159 | n => n, fun | 1 => 0 | 3 => 1 | 4 => 2 | n => n⟩
theorem lays146 : Go.Proofs.Lays.n146 Tryz.prog ren146 := {
  mixed := by kernel_rfl
  f138 := Tryz.func70.trans (congrArg some (by kernel_rfl))
  f143 := Tryz.func71.trans (congrArg some (by kernel_rfl))
  f146 := Tryz.func25.trans (congrArg some (by kernel_rfl))
  f195 := Tryz.func90.trans (congrArg some (by kernel_rfl))
  f197 := Tryz.func91.trans (congrArg some (by kernel_rfl))
  f217 := Tryz.func106.trans (congrArg some (by kernel_rfl))
  f218 := Tryz.func92.trans (congrArg some (by kernel_rfl))
  f219 := Tryz.func93.trans (congrArg some (by kernel_rfl))
  f221 := Tryz.func48.trans (congrArg some (by kernel_rfl))
  f224 := Tryz.func108.trans (congrArg some (by kernel_rfl))
  f225 := Tryz.func107.trans (congrArg some (by kernel_rfl))
  f260 := Tryz.func105.trans (congrArg some (by kernel_rfl))
  f266 := Tryz.func125.trans (congrArg some (by kernel_rfl))
  f267 := Tryz.func109.trans (congrArg some (by kernel_rfl))
  f268 := Tryz.func69.trans (congrArg some (by kernel_rfl))
  f314 := Tryz.func126.trans (congrArg some (by kernel_rfl))
  t0 := Tryz.underlying0
  a0 := Tryz.isAgg0
  z0 := Tryz.sizeOf0
  v0 := Tryz.zeroValue0
  t3 := Tryz.underlying3
  a3 := Tryz.isAgg3
  z3 := Tryz.sizeOf3
  v3 := Tryz.zeroValue3
  t4 := Tryz.underlying4
  a4 := Tryz.isAgg4
  z4 := Tryz.sizeOf4
  v4 := Tryz.zeroValue4
  t5 := Tryz.underlying5
  a5 := Tryz.isAgg5
  z5 := Tryz.sizeOf5
  v5 := Tryz.zeroValue5
  t9 := Tryz.underlying9
  a9 := Tryz.isAgg9
  z9 := Tryz.sizeOf9
  v9 := Tryz.zeroValue9
  t21 := Tryz.underlying21
  a21 := Tryz.isAgg21
  z21 := Tryz.sizeOf21
  v21 := Tryz.zeroValue21
  t31 := Tryz.underlying35
  a31 := Tryz.isAgg35
  z31 := Tryz.sizeOf35
  v31 := Tryz.zeroValue35
  t46 := Tryz.underlying38
  a46 := Tryz.isAgg38
  z46 := Tryz.sizeOf38
  v46 := Tryz.zeroValue38
  t51 := Tryz.underlying73
  a51 := Tryz.isAgg73
  z51 := Tryz.sizeOf73
  v51 := Tryz.zeroValue73
  t105 := Tryz.underlying124
  a105 := Tryz.isAgg124
  z105 := Tryz.sizeOf124
  v105 := Tryz.zeroValue124
  t119 := Tryz.underlying155
  a119 := Tryz.isAgg155
  z119 := Tryz.sizeOf155
  t138 := Tryz.underlying157
  a138 := Tryz.isAgg157
  z138 := Tryz.sizeOf157
  v138 := Tryz.zeroValue157
  t139 := Tryz.underlying158
  a139 := Tryz.isAgg158
  z139 := Tryz.sizeOf158
  v139 := Tryz.zeroValue158
  t146 := Tryz.underlying159
  a146 := Tryz.isAgg159
  z146 := Tryz.sizeOf159
  v146 := Tryz.zeroValue159
  g1 := by kernel_rfl
  g3 := by kernel_rfl
  g4 := by kernel_rfl }
def ren145 : Go.Shelf.Ren := ⟨fun | 145 => 100 | 217 => 106 | 219 => 93 | 220 => 124 | 224 => 108 | 225 => 107 | 266 => 125 | 267 => 109 | 314 => 126 | n => n, fun | 3 => 3 | 4 => 4 | 5 => 5 | 9 => 9 | 46 => 38 | 51 => 73 | 59 => 133 | 146 => 159 | n => n, fun | 1 => 0 | n => n⟩
theorem lays145 : Go.Proofs.Lays.n145 Tryz.prog ren145 := {
  mixed := by kernel_rfl
  f145 := Tryz.func100.trans (congrArg some (by kernel_rfl))
  f217 := Tryz.func106.trans (congrArg some (by kernel_rfl))
  f219 := Tryz.func93.trans (congrArg some (by kernel_rfl))
  f220 := Tryz.func124.trans (congrArg some (by kernel_rfl))
  f224 := Tryz.func108.trans (congrArg some (by kernel_rfl))
  f225 := Tryz.func107.trans (congrArg some (by kernel_rfl))
  f266 := Tryz.func125.trans (congrArg some (by kernel_rfl))
  f267 := Tryz.func109.trans (congrArg some (by kernel_rfl))
  f314 := Tryz.func126.trans (congrArg some (by kernel_rfl))
  t3 := Tryz.underlying3
  a3 := Tryz.isAgg3
  z3 := Tryz.sizeOf3
  v3 := Tryz.zeroValue3
  t4 := Tryz.underlying4
  a4 := Tryz.isAgg4
  z4 := Tryz.sizeOf4
  v4 := Tryz.zeroValue4
  t5 := Tryz.underlying5
  a5 := Tryz.isAgg5
  z5 := Tryz.sizeOf5
  v5 := Tryz.zeroValue5
  t9 := Tryz.underlying9
  a9 := Tryz.isAgg9
  z9 := Tryz.sizeOf9
  v9 := Tryz.zeroValue9
  t46 := Tryz.underlying38
  a46 := Tryz.isAgg38
  z46 := Tryz.sizeOf38
  v46 := Tryz.zeroValue38
  t51 := Tryz.underlying73
  a51 := Tryz.isAgg73
  z51 := Tryz.sizeOf73
  v51 := Tryz.zeroValue73
  t59 := Tryz.underlying133
  a59 := Tryz.isAgg133
  z59 := Tryz.sizeOf133
  v59 := Tryz.zeroValue133
  t146 := Tryz.underlying159
  a146 := Tryz.isAgg159
  z146 := Tryz.sizeOf159
  v146 := Tryz.zeroValue159
  g1 := by kernel_rfl }
/-- the variable internal/bytealg.MaxLen holds an int -/
def MaxLenIs (w : World) (m : Int) : Prop := w.cell? ⟨0, 0, none⟩ = some (.int .i64 m)
/-- the cells of a row of texts -/
def textsRow (l : List ByteArray) : Array Value := (l.map Value.string).toArray
/-- strings.Split at one byte -/
theorem splitAt_any (s : ByteArray) (c : UInt8) (m : Int) (w : World) (hs : s.size < 4294967281) (hm : MaxLenIs w m) :
    Calls Tryz.prog 25 #[.string s, .string (bytesOf [c])] w fun e w' =>
      e = .returned (.slice (some ⟨w.heap.size, 0, none⟩) (Lib.countB s (bytesOf [c]) + 1) (Lib.countB s (bytesOf [c]) + 1)) ∧ w' = w.alloc (.cells (textsRow (Lib.splitB (bytesOf [c]) 0 (Lib.countB s (bytesOf [c])) s)) 9) :=
  Any.strings_Split lays146 (by kernel_rfl) s _ m w hs hm (by rw [bytesOf_size]; simp)
/-- strings.Cut -/
theorem cut_any (s sep : ByteArray) (m : Int) (w : World) (hs : s.size < 4294967281) (hm : MaxLenIs w m) :
    Calls Tryz.prog 100 #[.string s, .string sep] w fun e w' => e = .returned (.tuple #[.string ⟨(Lib.cut s.data.toList sep.data.toList).1.toArray⟩, .string ⟨(Lib.cut s.data.toList sep.data.toList).2.1.toArray⟩, .bool (Lib.cut s.data.toList sep.data.toList).2.2]) ∧ ∃ n, w' = w.drewN n :=
  Any.strings_Cut lays145 s sep m w hs hm
end Go.Proofs.YteigigepmoicaaaGreatDoor
/-! The automaton's table, plain; Made. -/
namespace Go.Proofs.YteigigepmoicaaaGreatDoor
open Go.RowKit
def tableT : List (List (List UInt8)) := [
  [[50], [105, 114, 99, 44, 115, 99, 114, 47, 54], [45], [45], [45], [45], [45], [45], [45], [45]],
  [[45], [45], [48], [116, 108, 115, 47, 49], [48], [49], [49], [49], [49], [116, 108, 100, 47, 49]],
  [[116, 108, 115, 47, 49], [49], [105, 114, 99, 44, 115, 99, 114, 47, 54], [51], [53], [53], [54], [55], [56], [57]],
  [[48], [116, 108, 102, 47, 48], [50], [50], [52], [52], [105, 114, 99, 44, 115, 116, 114, 47, 52], [105, 114, 99, 44, 115, 116, 114, 47, 52], [105, 114, 99, 44, 115, 116, 114, 47, 52], [116, 108, 100, 44, 105, 114, 99, 44, 115, 116, 114, 47, 52]],
  [[45], [45], [45], [45], [115, 116, 114, 47, 52], [115, 116, 114, 47, 53], [115, 99, 114, 47, 54], [115, 99, 114, 47, 54], [115, 99, 114, 47, 56], [45]],
  [[45], [45], [45], [45], [116, 108, 102, 47, 50], [116, 108, 102, 47, 51], [116, 108, 102, 47, 51], [116, 108, 102, 47, 51], [116, 108, 102, 47, 51], [45]],
  [[45], [45], [115, 116, 97, 47, 50], [105, 114, 99, 44, 115, 99, 114, 44, 115, 99, 97, 47, 56], [52], [53], [115, 99, 97, 47, 56], [115, 99, 97, 44, 116, 108, 117, 47, 57], [115, 99, 97, 47, 56], [116, 108, 100, 44, 115, 99, 114, 44, 115, 99, 97, 47, 56]],
  [[45], [45], [115, 116, 97, 47, 50], [105, 114, 99, 44, 115, 99, 114, 44, 115, 99, 110, 47, 54], [52], [53], [115, 99, 110, 47, 54], [115, 99, 110, 47, 55], [115, 99, 110, 47, 54], [116, 108, 100, 44, 115, 99, 114, 44, 115, 99, 110, 47, 54]],
  [[45], [45], [115, 116, 97, 47, 50], [115, 116, 97, 47, 51], [52], [53], [105, 114, 99, 47, 55], [115, 99, 114, 47, 54], [105, 114, 99, 44, 116, 108, 117, 47, 57], [116, 108, 100, 44, 115, 99, 114, 47, 54]],
  [[45], [45], [115, 116, 97, 47, 50], [115, 116, 97, 47, 51], [52], [53], [105, 114, 99, 44, 115, 99, 114, 47, 54], [115, 99, 114, 47, 54], [105, 114, 99, 44, 115, 99, 114, 47, 56], [116, 108, 100, 44, 115, 99, 114, 47, 54]],
  [[45], [45], [115, 116, 97, 47, 50], [115, 116, 97, 47, 51], [115, 116, 97, 47, 52], [115, 116, 97, 47, 53], [115, 116, 97, 47, 54], [115, 116, 97, 47, 54], [115, 116, 97, 47, 54], [116, 108, 100, 44, 122, 114, 99, 44, 115, 116, 97, 47, 53]],
  [[45], [45], [50], [51], [116, 108, 102, 47, 50], [116, 108, 102, 47, 51], [54], [54], [56], [116, 108, 100, 44, 115, 99, 114, 47, 54]],
  [[45], [45], [115, 99, 106, 47, 50], [115, 99, 106, 47, 51], [115, 99, 106, 47, 52], [115, 99, 106, 47, 53], [115, 99, 106, 47, 54], [115, 99, 106, 47, 55], [115, 99, 106, 47, 56], [115, 99, 106, 47, 57]],
  [[45], [45], [50], [51], [52], [53], [54], [54], [56], [57]],
  [[45], [45], [116, 108, 102, 47, 50], [116, 108, 102, 47, 51], [116, 108, 102, 47, 50], [116, 108, 102, 47, 51], [116, 108, 102, 47, 51], [116, 108, 102, 47, 51], [116, 108, 102, 47, 51], [116, 108, 100, 44, 105, 114, 99, 44, 115, 116, 114, 47, 53]],
  [[45], [45], [50], [51], [52], [53], [54], [55], [56], [115, 101, 114, 47, 57]]]
def cellT (v s : Nat) : List UInt8 := (tableT.getD v []).getD s []
/-- a pointer to a table in memory -/
def TableAt (w : World) (g : Nat) : Prop := ∀ v s, v < 16 → s < 10 → w.cell? ⟨g, v * 10 + s, none⟩ = some (.string (bytesOf (cellT v s)))
def tableCells : Array Value := (tableT.flatMap fun r => r.map fun c => Value.string (bytesOf c)).toArray
theorem tableCells_all : (List.range 160).map (fun i => tableCells[i]?) = (List.range 160).map (fun i => some (Value.string (bytesOf (cellT (i / 10) (i % 10))))) := by kernel_rfl
theorem tableCells_at (v s : Nat) (hv : v < 16) (hs : s < 10) : tableCells[v * 10 + s]? = some (.string (bytesOf (cellT v s))) := by
  have h := congrArg (·[v * 10 + s]?) tableCells_all
  simp only [List.getElem?_map, List.getElem?_range (show v * 10 + s < 160 by omega), Option.map_some] at h
  have e1 : (v * 10 + s) / 10 = v := by omega
  have e2 : (v * 10 + s) % 10 = s := by omega
  rw [e1, e2] at h
  exact Option.some.inj h
theorem wpList_build2 {P : Program} {ops : Array Oper} {rest : List Oper} {o : Oper} {a : Act} {w : World} {Q : Exit → Act → World → Prop} (hg : o.guard = none) (t : TypeId) (parts : Array (Nat × Operand)) (ho : o.op = .build t parts) (cells : Array Value)
    (hf : P.built t (parts.map fun (i, x) => (i, a.eval x)).toList = some cells)
    (h : wpList P ops Q rest (a.put o.dst (.agg cells)) w) : wpList P ops Q (o :: rest) a w :=
  wpList_build hg t parts ho (by rw [hf]; rfl) (by rw [hf]; exact h)
set_option maxRecDepth 100000 in
set_option maxHeartbeats 4000000 in
theorem made_any (w : World) : Calls Tryz.prog 84 #[] w fun e w' => ∃ g, e = .returned (.pointer (some ⟨g, 0, none⟩)) ∧ TableAt w' g ∧ Below w.heap.size w w' := by
  go_enter Tryz.func84, Tryz.ntmps84
  go_wp2_with (refine wpList_build2 rfl 132 _ rfl tableCells (by kernel_rfl) ?_)
  go_ret
  exact ⟨_, rfl, fun v s hv hs => by rw [World.cell?_alloc_new]; exact tableCells_at v s hv hs, (Below.refl _ _).alloc (Nat.le_refl _) _⟩
end Go.Proofs.YteigigepmoicaaaGreatDoor
/-! The automaton's Step. -/
namespace Go.Proofs.YteigigepmoicaaaGreatDoor
open Go.RowKit
set_option linter.unusedVariables false
theorem fsm_below_cell {W w' : World} (h : Below W.heap.size W w') {a : Addr} {v : Value} (hc : W.cell? a = some v) : w'.cell? a = some v := (h.cell (block_lt_of_cell hc)).trans hc
theorem MaxLenIs.below {w w' : World} {m : Int} (h : MaxLenIs w m) (hb : Below w.heap.size w w') : MaxLenIs w' m := fsm_below_cell hb h
def namesT : List (List UInt8) := [[], [116, 108, 117], [116, 108, 100], [116, 108, 115], [116, 108, 102], [105, 114, 99], [122, 114, 99], [115, 99, 114], [115, 99, 97], [115, 99, 110], [115, 116, 114], [115, 116, 97], [115, 99, 106], [115, 101, 114]]
def nameAt (j : Nat) : List UInt8 := namesT.getD j []
/-- a row of texts that was just laid -/
theorem texts_new (w : World) (l : List ByteArray) (cells : Array Value) (hc : cells = (l.map Value.string).toArray) (c : Nat) : TextsAt (w.alloc (.cells cells 9)) (.slice (some ⟨w.heap.size, 0, none⟩) l.length c) l := by
  subst hc
  refine .inr ⟨w.heap.size, 0, c, rfl, fun j hj => ?_⟩
  rw [World.cell?_alloc_new]; simp [hj]
set_option maxRecDepth 100000 in
theorem names_any (w : World) : Calls Tryz.prog 101 #[] w fun e w' => ∃ g, e = .returned (.slice (some ⟨g, 0, none⟩) 14 14) ∧ (∀ j (h : j < 14), w'.cell? ⟨g, j, none⟩ = some (.string (bytesOf (nameAt j)))) ∧ (∃ cs fz, w'.heap[g]? = some (.cells cs 9 fz)) ∧ Below w.heap.size w w' := by
  go_enter Tryz.func101, Tryz.ntmps101
  go_wp2_with fail
  go_ret
  refine ⟨_, rfl, fun j h => ?_, ⟨_, _, heap_alloc_last w _⟩, (Below.refl _ _).alloc (Nat.le_refl _) _⟩
  rw [World.cell?_alloc_new]
  match j, h with
  | 0, _ => rfl
  | 1, _ => rfl
  | 2, _ => rfl
  | 3, _ => rfl
  | 4, _ => rfl
  | 5, _ => rfl
  | 6, _ => rfl
  | 7, _ => rfl
  | 8, _ => rfl
  | 9, _ => rfl
  | 10, _ => rfl
  | 11, _ => rfl
  | 12, _ => rfl
  | 13, _ => rfl
/-- the numbers of a name, ahead of the j-th -/
def numsTo (w : List UInt8) (j : Nat) : List Int := ((List.range j).filter fun k => nameAt k == w).map Int.ofNat
theorem numsTo_succ (w : List UInt8) (j : Nat) : numsTo w (j + 1) = numsTo w j ++ (if nameAt j == w then [(j : Int)] else []) := by
  unfold numsTo
  rw [List.range_succ, List.filter_append, List.map_append]
  congr 1
  rw [List.filter_cons, List.filter_nil]
  split <;> rfl
theorem numsTo_len (w : List UInt8) (j : Nat) : (numsTo w j).length ≤ j := by
  unfold numsTo
  rw [List.length_map]
  exact Nat.le_trans (List.length_filter_le _ _) (by simp)
/-- the pieces of a text at commas -/
def pieces (a : List UInt8) : List (List UInt8) := (Lib.splitB (bytesOf [44]) 0 (Lib.countB (bytesOf a) (bytesOf [44])) (bytesOf a)).map (·.data.toList)
def digit (l : List UInt8) : Int := (((l.getD 0 0).toNat : Int) - 48) % 256
/-- what a cell of the table says -/
def cellSays (c : List UInt8) : Int × List Int × Int :=
  if c = [45] then (0, [], 1001) else
  if (Lib.cut c [47]).2.2 = false then (digit c, [], 0) else
  (digit (Lib.cut c [47]).2.1, (pieces (Lib.cut c [47]).1).flatMap (numsTo · 14), 0)
def stepSays (s v : Int) : Int × List Int × Int :=
  if s < 0 ∨ 10 ≤ s ∨ v < 0 ∨ 16 ≤ v then (0, [], 1000) else cellSays (cellT v.toNat s.toNat)
def cellGood (c : List UInt8) : Bool := decide (1 ≤ c.length) && decide (c.length ≤ 40) && (!(Lib.cut c [47]).2.2 || (decide (1 ≤ (Lib.cut c [47]).2.1.length) && decide ((Lib.cut c [47]).1.length ≤ 40) && decide ((Lib.cut c [47]).2.1.length ≤ 40)))
theorem cells_good : (List.range 16).all (fun v => (List.range 10).all fun s => cellGood (cellT v s)) = true := by decide +kernel
theorem cell_good (v s : Nat) (hv : v < 16) (hs : s < 10) : cellGood (cellT v s) = true :=
  List.all_eq_true.1 (List.all_eq_true.1 cells_good v (List.mem_range.2 hv)) s (List.mem_range.2 hs)
theorem u8_sub48 (c : UInt8) : IntKind.u8.wrap ((c.toNat : Int) - 48) = ((c.toNat : Int) - 48) % 256 := by rw [IntKind.wrap_u8]
theorem fsm_below_drewN {B : Nat} {a w : World} (h : Below B a w) (n : Nat) : Below B a (w.drewN n) := h.trans ⟨rfl, rfl, rfl, Nat.le_refl _, fun _ _ => rfl⟩
theorem digit_at (C : ByteArray) (h : 0 < C.size) : digit C.data.toList = ((C[0].toNat : Int) - 48) % 256 := by
  unfold digit
  rw [List.getD_eq_getElem?_getD, List.getElem?_eq_getElem (by simpa using h)]; rfl
set_option maxRecDepth 100000 in
set_option maxHeartbeats 4000000 in
theorem tstep_any (g : Nat) (s v : Int) (ml : Int) (w : World) (ht : TableAt w g) (hm : MaxLenIs w ml) :
    Calls Tryz.prog 85 #[.pointer (some ⟨g, 0, none⟩), .int .i64 s, .int .i64 v] w fun e w' => ∃ o, e = .returned (.tuple #[.int .i64 (stepSays s v).1, o, .int .i64 (stepSays s v).2.2]) ∧ OwnI w' w.heap.size o (stepSays s v).2.1 ∧ Below w.heap.size w w' := by
  by_cases hr : s < 0 ∨ 10 ≤ s ∨ v < 0 ∨ 16 ≤ v
  · have e : stepSays s v = (0, [], 1000) := by unfold stepSays; rw [if_pos hr]
    have E := Lib.hid e
    clear e
    go_enter Tryz.func85, Tryz.ntmps85
    go_wp2_with fail
    all_goals
      go_ret3
      exact ⟨.slice none 0 0, by rw [E.out]; rfl, by rw [E.out]; exact OwnI.nil _ _, Below.refl _ _⟩
  · obtain ⟨sn, rfl⟩ : ∃ sn : Nat, s = sn := ⟨s.toNat, by omega⟩
    obtain ⟨vn, rfl⟩ : ∃ vn : Nat, v = vn := ⟨v.toNat, by omega⟩
    have hs10 : sn < 10 := by omega
    have hv16 : vn < 16 := by omega
    have e : stepSays (sn : Int) (vn : Int) = cellSays (cellT vn sn) := by unfold stepSays; rw [if_neg hr]; rfl
    rw [e]
    have hc := ht vn sn hv16 hs10
    have hg := cell_good vn sn hv16 hs10
    obtain ⟨c, hcc⟩ : ∃ c, cellT vn sn = c := ⟨_, rfl⟩
    rw [hcc] at hc hg ⊢
    clear hr e hcc ht
    obtain ⟨C, hC⟩ : ∃ C, bytesOf c = C := ⟨_, rfl⟩
    have hCl : C.data.toList = c := by rw [← hC]; rfl
    have hCz : C.size = c.length := by rw [← hC, bytesOf_size]
    rw [hC] at hc
    by_cases h0 : c = [45]
    · have E : Hid (cellSays c = (0, [], 1001)) := by unfold cellSays; rw [if_pos h0]; exact rfl
      have q : C.toList = [45] := by rw [ba_toList, hCl, h0]
      clear h0 hg hCl hC hCz
      go_enter Tryz.func85, Tryz.ntmps85
      go_wp2_with fail
      go_ret3
      exact ⟨.slice none 0 0, by rw [E.out]; rfl, by rw [E.out]; exact OwnI.nil _ _, Below.refl _ _⟩
    · have q : (C.toList == [45]) = false := by rw [ba_toList, hCl]; exact beq_eq_false_iff_ne.2 h0
      unfold cellGood at hg
      simp only [Bool.and_eq_true, decide_eq_true_eq, Bool.or_eq_true, Bool.not_eq_true'] at hg
      obtain ⟨⟨g1, g2⟩, g3⟩ := hg
      have hz1 : 1 ≤ C.size := by omega
      have hz2 : C.size < 4294967281 := by omega
      by_cases hf : (Lib.cut c [47]).2.2 = false
      · have E : Hid (cellSays c = (digit c, [], 0)) := by unfold cellSays; rw [if_neg h0, if_pos hf]; exact rfl
        have HF := Lib.hid hf
        have HCl := Lib.hid hCl
        clear h0 hC hCz hf g3 g1 g2 hCl
        go_enter Tryz.func85, Tryz.ntmps85
        go_wp2_with fail
        refine (cut_any C (bytesOf [47]) ml _ hz2 hm).mono ?_
        rintro e w1 ⟨rfl, nq, rfl⟩
        rw [HCl.out, bytesOf_toList, HF.out]
        go_wp2_with fail
        go_ret3
        exact ⟨.slice none 0 0, by rw [E.out, ← HCl.out, digit_at C (by omega)]; rfl, by rw [E.out]; exact OwnI.nil _ _, fsm_below_drewN (Below.refl _ _) _⟩
      · have E : Hid (cellSays c = (digit (Lib.cut c [47]).2.1, (pieces (Lib.cut c [47]).1).flatMap (numsTo · 14), 0)) := by unfold cellSays; rw [if_neg h0, if_neg hf]; exact rfl
        have HF : Hid ((Lib.cut c [47]).2.2 = true) := Lib.hid (by simpa using hf)
        have HCl := Lib.hid hCl
        have g3' : (1 ≤ (Lib.cut c [47]).2.1.length ∧ (Lib.cut c [47]).1.length ≤ 40) ∧ (Lib.cut c [47]).2.1.length ≤ 40 := by
          rcases g3 with h | h
          · exact absurd h hf
          · exact h
        obtain ⟨a, ha⟩ : ∃ a, (Lib.cut c [47]).1 = a := ⟨_, rfl⟩
        obtain ⟨b, hb⟩ : ∃ b, (Lib.cut c [47]).2.1 = b := ⟨_, rfl⟩
        rw [ha, hb] at g3' E
        have Ha := Lib.hid ha
        have Hb := Lib.hid hb
        clear h0 hC hCz hf g3 g1 g2 hCl ha hb
        obtain ⟨A, hA⟩ : ∃ A : ByteArray, (⟨a.toArray⟩ : ByteArray) = A := ⟨_, rfl⟩
        obtain ⟨B, hB⟩ : ∃ B : ByteArray, (⟨b.toArray⟩ : ByteArray) = B := ⟨_, rfl⟩
        have hAb : bytesOf a = A := hA
        have hBl : B.data.toList = b := by rw [← hB]
        have hBz : 1 ≤ B.size := by rw [← hB]; simpa [ByteArray.size] using g3'.1.1
        have hAz : A.size < 4294967281 := by rw [← hAb, bytesOf_size]; omega
        obtain ⟨L, hL⟩ : ∃ L, Lib.splitB (bytesOf [44]) 0 (Lib.countB A (bytesOf [44])) A = L := ⟨_, rfl⟩
        have hLp : L.map (·.data.toList) = pieces a := by rw [← hL, ← hAb]; rfl
        have hLn : L.length = Lib.countB A (bytesOf [44]) + 1 := by rw [← hL]; exact Lib.splitB_all _ (by decide) _ _ A rfl
        have hLle := Lib.countB_le (bytesOf [44]) (by decide) A.size A (Nat.le_refl _)
        have hAz2 : A.size ≤ 40 := by rw [← hAb, bytesOf_size]; omega
        obtain ⟨n, hn⟩ : ∃ n, Lib.countB A (bytesOf [44]) = n := ⟨_, rfl⟩
        have hsp := fun w hm => splitAt_any A 44 ml w hAz hm
        rw [hL, hn] at hsp
        rw [hn] at hLn hLle
        have HA := Lib.hid hA
        have HB := Lib.hid hB
        have HLp := Lib.hid hLp
        have HLn := Lib.hid hLn
        have HBl := Lib.hid hBl
        clear hA hB hAb hL hn hLp hLn hBl g3'
        go_enter Tryz.func85, Tryz.ntmps85
        go_wp2_with fail
        refine (cut_any C (bytesOf [47]) ml _ hz2 hm).mono ?_
        rintro e w1 ⟨rfl, nq, rfl⟩
        rw [HCl.out, bytesOf_toList, HF.out, Ha.out, Hb.out, HA.out, HB.out]
        go_wp2_with fail
        refine (hsp _ (by exact hm)).mono ?_
        rintro e w2 ⟨rfl, rfl⟩
        have hcell : ∀ j (h : j < L.length), ((w.drewN nq).alloc (.cells (textsRow L) 9)).cell? ⟨w.heap.size, j, none⟩ = some (.string L[j]) := by
          intro j h
          have : (w.drewN nq).heap.size = w.heap.size := rfl
          rw [← this, World.cell?_alloc_new]; simp [textsRow, h]
        have hB2 : Below w.heap.size w ((w.drewN nq).alloc (.cells (textsRow L) 9)) := allocB (fsm_below_drewN (Below.refl _ _) _) _
        go_wp2_with fail
        obtain ⟨W2, hW2⟩ : ∃ W2, (w.drewN nq).alloc (.cells (textsRow L) 9) = W2 := ⟨_, rfl⟩
        rw [hW2] at hcell hB2 ⊢
        clear hW2
        go_loopw [13, 56] (fun o i wr => ∃ k : Nat, k ≤ n + 1 ∧ i = .int .i64 k ∧ OwnI wr W2.heap.size o ((L.take k).flatMap fun x => numsTo x.data.toList 14) ∧ Below W2.heap.size W2 wr) (fun _ i _ => n + 1 - (intOf i).toNat)
        case atStart => exact ⟨0, Nat.zero_le _, rfl, OwnI.nil _ _, Below.refl _ _⟩
        case round =>
          obtain ⟨k, hk, rfl, hown, hbl⟩ := hrel
          by_cases hlt : k < n + 1
          · have hx := fsm_below_cell hbl (hcell k (by rw [HLn.out]; exact hlt))
            have htk : L.take (k + 1) = L.take k ++ [L[k]'(by rw [HLn.out]; exact hlt)] := List.take_succ_eq_append_getElem _
            obtain ⟨x, hxx⟩ : ∃ x, L[k]'(by rw [HLn.out]; exact hlt) = x := ⟨_, rfl⟩
            rw [hxx] at hx htk
            have hsn : Hid (((L.take (k + 1)).flatMap fun x => numsTo x.data.toList 14) = ((L.take k).flatMap fun x => numsTo x.data.toList 14) ++ numsTo x.data.toList 14) := Lib.hid (by rw [htk, List.flatMap_append]; simp)
            clear htk hxx
            have hal : ((L.take k).flatMap fun x => numsTo x.data.toList 14).length ≤ 14 * k := by
              have : ∀ l : List ByteArray, (l.flatMap fun x => numsTo x.data.toList 14).length ≤ 14 * l.length := by
                intro l
                induction l with
                | nil => simp
                | cons y l ih => rw [List.flatMap_cons, List.length_append, List.length_cons]; have := numsTo_len y.data.toList 14; omega
              have h := this (L.take k)
              rw [List.length_take] at h
              omega
            obtain ⟨acc, hacc⟩ : ∃ acc, ((L.take k).flatMap fun x => numsTo x.data.toList 14) = acc := ⟨_, rfl⟩
            rw [hacc] at hown hsn hal
            clear hacc
            go_wp2_with fail
            refine (names_any _).mono ?_
            rintro e w3 ⟨gn, rfl, hnm, hnh, hb3⟩
            replace hx := fsm_below_cell hb3 hx
            replace hown := hown.below hb3
            replace hbl := seqB hbl hb3
            clear hb3
            go_wp2_with fail
            go_loopw [13, 62] (fun o i wz => ∃ j : Nat, j ≤ 14 ∧ i = .int .i64 j ∧ OwnI wz W2.heap.size o (acc ++ numsTo x.data.toList j) ∧ Below W2.heap.size W2 wz ∧ (∀ j (h : j < 14), wz.cell? ⟨gn, j, none⟩ = some (.string (bytesOf (nameAt j)))) ∧ ∃ cs fz, wz.heap[gn]? = some (.cells cs 9 fz)) (fun _ i _ => 14 - (intOf i).toNat)
            case atStart => exact ⟨0, Nat.zero_le _, rfl, by simpa [numsTo] using hown, hbl, hnm, hnh⟩
            case round =>
              obtain ⟨j, hj, rfl, hown2, hbl2, hnm2, cs2, fz2, hnh2⟩ := hrel
              by_cases hj14 : j < 14
              · have hnj := hnm2 j hj14
                have hns := numsTo_succ x.data.toList j
                have hnl := numsTo_len x.data.toList j
                by_cases heq : nameAt j = x.data.toList
                · have hq : ((bytesOf (nameAt j)).toList == x.toList) = true := ba_beq_true heq
                  have Hns : Hid (acc ++ numsTo x.data.toList (j + 1) = acc ++ numsTo x.data.toList j ++ [(j : Int)]) := Lib.hid (by rw [hns, heq]; simp)
                  clear hns heq hnj
                  go_wp2_with (at_builtin; refine wpList_appI2 rfl _ _ rfl W2 _ _ (j : Int) 1 hown2 rfl rfl (by rw [List.length_append]; omega) hbl2 ?_; intro v' w5 hown3 hbl3 hkeep)
                  have hk5 := hkeep gn cs2 _ fz2 hnh2 (by decide)
                  refine ⟨⟨j + 1, by omega, by go_num, by rw [Hns.out]; exact hown3, hbl3, ?_, cs2, fz2, hk5.trans hnh2⟩, by simp [intOf]; omega⟩
                  intro j' hj'
                  rw [World.cell?_of_block (a := ⟨gn, j', none⟩) hk5]
                  exact hnm2 j' hj'
                · have hq : ((bytesOf (nameAt j)).toList == x.toList) = false := ba_beq_false heq
                  have Hns : Hid (acc ++ numsTo x.data.toList (j + 1) = acc ++ numsTo x.data.toList j) := Lib.hid (by rw [hns, if_neg (by simpa using heq)]; simp)
                  clear hns heq hnj
                  go_wp2_with fail
                  go_roundw
                  case rel => exact ⟨j + 1, by omega, by go_num, by rw [Hns.out]; exact hown2, hbl2, hnm2, cs2, fz2, hnh2⟩
                  case measure => simp [intOf]; omega
              · obtain rfl : j = 14 := by omega
                go_wp2_with fail
                go_roundw
                case rel => exact ⟨k + 1, by omega, by go_num, by rw [hsn.out]; exact hown2, hbl2⟩
                case measure => simp [intOf]; omega
          · obtain rfl : k = n + 1 := by omega
            have hLL : L.take (n + 1) = L := List.take_of_length_le (by rw [HLn.out]; exact Nat.le_refl _)
            have hfin := hown
            rw [hLL, show (L.flatMap fun x => numsTo x.data.toList 14) = (pieces a).flatMap (numsTo · 14) by rw [← HLp.out, List.flatMap_map]] at hfin
            replace hfin := hfin.base (b' := w.heap.size) hB2.size
            have hBw : Below w.heap.size w wr := seqB hB2 hbl
            clear hown hLL hcell
            go_wp2_with fail
            go_ret3
            exact ⟨_, by rw [E.out, ← HBl.out, digit_at B (by omega)]; rfl, by rw [E.out]; exact hfin, hBw⟩
end Go.Proofs.YteigigepmoicaaaGreatDoor
/-! The console's commands: what a line tells, what a script tells; the law's own answer. Plain. -/
namespace Go.Proofs.YteigigepmoicaaaGreatDoor
open Go.RowKit Go.Crc
set_option linter.unusedVariables false
set_option linter.unusedSimpArgs false
def nFcs : List UInt8 := [102, 99, 115]
def nFrame : List UInt8 := [102, 114, 97, 109, 101]
def nUnframe : List UInt8 := [117, 110, 102, 114, 97, 109, 101]
def nFsm : List UInt8 := [102, 115, 109]
def nMd5 : List UInt8 := [109, 100, 53]
def nDelay : List UInt8 := [100, 101, 108, 97, 121]
def nTarget : List UInt8 := [116, 97, 114, 103, 101, 116]
def errW (e : Int) : List UInt8 := [101, 114, 114, 111, 114, 32] ++ itoaM e
def actsW (l : List Int) : List UInt8 := l.flatMap fun x => 32 :: itoaM x
def delayD : Nat → Int → Int → Int
  | 0, d, _ => d
  | n + 1, d, m => if m / 2 < d then m else delayD n (d * 2) m
def delayBad (t b m j : Int) : Prop := t < 0 ∨ 62 < t ∨ b < 1 ∨ 4096 < b ∨ m < b ∨ 4096 < m ∨ j < 0
instance (t b m j : Int) : Decidable (delayBad t b m j) := by unfold delayBad; infer_instance
def delayM (t b m j : Int) : Int × Int := if delayBad t b m j then (0, 1200) else (delayD t.toNat b m - j % (delayD t.toNat b m / 4 + 1), 0)
theorem delay_bad {t b m j : Int} (h : delayBad t b m j) : delayM t b m j = (0, 1200) := if_pos h
theorem delay_good {t b m j : Int} (h : ¬ delayBad t b m j) : delayM t b m j = (delayD t.toNat b m - j % (delayD t.toNat b m / 4 + 1), 0) := if_neg h
def shapeB (rate least links : Int) : Bool := decide (64 ≤ rate) && decide (rate ≤ 4096) && decide (1 ≤ links) && decide (links ≤ 6) && decide (1 ≤ least) && decide (least ≤ links)
def targetN (load rate least links : Int) : Int := min (max (load / rate + if 0 < load % rate then 1 else 0) least) links
def kindsOf (name : List UInt8) : Option (List UInt8) :=
  if name = nFcs then some [120] else if name = nFrame then some [110, 120] else if name = nUnframe then some [120] else if name = nFsm then some [110, 110]
  else if name = nMd5 then some [120] else if name = nDelay then some [110, 110, 110, 110] else if name = nTarget then some [110, 110, 110, 110] else none
def readM : List UInt8 → List (List UInt8) → Option (List Int × List (List UInt8))
  | [], [] => some ([], [])
  | k :: ks, w :: ws => if k = 110 then (match numM w, readM ks ws with | some x, some (n, b) => some (x :: n, b) | _, _ => none) else (match unhexM w, readM ks ws with | some x, some (n, b) => some (n, x :: b) | _, _ => none)
  | _, _ => none
def tellM (name : List UInt8) (n : List Int) (b : List (List UInt8)) : List UInt8 × Int :=
  if name = nFcs then (itoaM (fcs (b.getD 0 [])), 0)
  else if name = nFrame then (hexM (frameT (n.getD 0 0) (b.getD 0 []) 0).1, (frameT (n.getD 0 0) (b.getD 0 []) 0).2)
  else if name = nUnframe then (itoaM (unframe (b.getD 0 [])).1 ++ [32] ++ hexM (unframe (b.getD 0 [])).2.1, (unframe (b.getD 0 [])).2.2)
  else if name = nFsm then (itoaM (stepSays (n.getD 0 0) (n.getD 1 0)).1 ++ actsW (stepSays (n.getD 0 0) (n.getD 1 0)).2.1, (stepSays (n.getD 0 0) (n.getD 1 0)).2.2)
  else if name = nMd5 then (hexM (md5M (b.getD 0 [])), 0)
  else if name = nDelay then (itoaM (delayM (n.getD 0 0) (n.getD 1 0) (n.getD 2 0) (n.getD 3 0)).1, (delayM (n.getD 0 0) (n.getD 1 0) (n.getD 2 0) (n.getD 3 0)).2)
  else if n.getD 0 0 < 0 ∨ shapeB (n.getD 1 0) (n.getD 2 0) (n.getD 3 0) = false then ([], 2400) else (itoaM (targetN (n.getD 0 0) (n.getD 1 0) (n.getD 2 0) (n.getD 3 0)), 0)
def tellW (name : List UInt8) (r : Option (List Int × List (List UInt8))) : List UInt8 := match r with
  | none => errW 2800
  | some (n, b) => if (tellM name n b).2 = 0 then (tellM name n b).1 else errW (tellM name n b).2
def lineM (ws : List (List UInt8)) : List UInt8 := match kindsOf (ws.headD []) with
  | none => errW 2800
  | some k => tellW (ws.headD []) (readM k ws.tail)
def skipB (ws : List (List UInt8)) : Bool := match ws with
  | [] => true
  | w :: _ => decide (w.head? = some 35)
def oneM (x : List UInt8) : List UInt8 := if skipB (wordsM x) then [] else lineM (wordsM x) ++ [10]
def runM (l : List UInt8) : List UInt8 := (cutN 10 l).flatMap oneM
def awakeS : List UInt8 := [102, 99, 115, 32, 51, 49, 51, 50, 51, 51, 51, 52, 51, 53, 51, 54, 51, 55, 51, 56, 51, 57, 10, 35, 32, 120, 10, 102, 115, 109, 32, 50, 32, 50, 10, 109, 100, 53, 32, 54, 49, 54, 50, 54, 51, 10, 100, 101, 108, 97, 121, 32, 51, 32, 50, 32, 49, 48, 32, 48, 10, 116, 97, 114, 103, 101, 116, 32, 50, 53, 55, 32, 50, 53, 54, 32, 49, 32, 51, 10, 102, 114, 111, 98, 10, 102, 114, 97, 109, 101, 32, 50, 32, 45, 10, 117, 110, 102, 114, 97, 109, 101, 32, 48, 48]
def awakeT : List UInt8 := [51, 54, 57, 55, 52, 10, 54, 32, 53, 32, 55, 10, 57, 48, 48, 49, 53, 48, 57, 56, 51, 99, 100, 50, 52, 102, 98, 48, 100, 54, 57, 54, 51, 102, 55, 100, 50, 56, 101, 49, 55, 102, 55, 50, 10, 49, 48, 10, 50, 10, 101, 114, 114, 111, 114, 32, 50, 56, 48, 48, 10, 101, 114, 114, 111, 114, 32, 51, 48, 51, 10, 101, 114, 114, 111, 114, 32, 51, 48, 48, 10]
theorem awake_run : runM awakeS = awakeT := by decide +kernel
/-! ### the law's own -/
def refD : Nat → Int → Int → Int
  | 0, d, m => min d m
  | n + 1, d, m => if d < m then refD n (2 * d) m else min d m
theorem refD_eq : ∀ (n : Nat) (d m : Int), 1 ≤ d → d ≤ m → refD n d m = delayD n d m
  | 0, d, m, _, h => by rw [refD, delayD]; omega
  | n + 1, d, m, h1, h => by
    rw [refD, delayD]
    by_cases h2 : m / 2 < d
    · rw [if_pos h2]
      by_cases h3 : d < m
      · rw [if_pos h3]
        have : ∀ (k : Nat) (x : Int), m ≤ x → refD k x m = m := by
          intro k x hx
          cases k with
          | zero => rw [refD]; omega
          | succ k => rw [refD, if_neg (by omega)]; omega
        exact this _ _ (by omega)
      · rw [if_neg h3]; omega
    · rw [if_neg h2, if_pos (by omega), refD_eq n (2 * d) m (by omega) (by omega), Int.mul_comm]
theorem delayD_range : ∀ (n : Nat) (d m : Int), 1 ≤ d → d ≤ m → 1 ≤ delayD n d m ∧ delayD n d m ≤ m
  | 0, d, m, h1, h => ⟨h1, h⟩
  | n + 1, d, m, h1, h => by
    rw [delayD]
    split
    · omega
    · exact delayD_range n (d * 2) m (by omega) (by omega)
def numsL : List (List UInt8) → Option (List Int)
  | [] => some []
  | w :: ws => match numM w, numsL ws with
    | some x, some l => some (x :: l)
    | _, _ => none
def countedL (ws : List (List UInt8)) : List UInt8 := match numsL ws.tail with
  | none => errW 2800
  | some n =>
    if ws.headD [] = nFsm ∧ n.length = 2 then (if (stepSays (n.getD 0 0) (n.getD 1 0)).2.2 ≠ 0 then errW (stepSays (n.getD 0 0) (n.getD 1 0)).2.2 else itoaM (stepSays (n.getD 0 0) (n.getD 1 0)).1 ++ actsW (stepSays (n.getD 0 0) (n.getD 1 0)).2.1)
    else if ws.headD [] = nDelay ∧ n.length = 4 then (if (delayM (n.getD 0 0) (n.getD 1 0) (n.getD 2 0) (n.getD 3 0)).2 ≠ 0 then errW (delayM (n.getD 0 0) (n.getD 1 0) (n.getD 2 0) (n.getD 3 0)).2 else itoaM (delayM (n.getD 0 0) (n.getD 1 0) (n.getD 2 0) (n.getD 3 0)).1)
    else if ws.headD [] = nTarget ∧ n.length = 4 then (if shapeB (n.getD 1 0) (n.getD 2 0) (n.getD 3 0) = false ∨ n.getD 0 0 < 0 then errW 2400 else itoaM (targetN (n.getD 0 0) (n.getD 1 0) (n.getD 2 0) (n.getD 3 0)))
    else errW 2800
def oneL (name w : List UInt8) : List UInt8 := match unhexM w with
  | none => errW 2800
  | some d =>
    if name = nFcs then itoaM (fcs d) else if name = nMd5 then hexM (md5M d)
    else if name = nUnframe then (if (unframe d).2.2 ≠ 0 then errW (unframe d).2.2 else itoaM (unframe d).1 ++ [32] ++ hexM (unframe d).2.1)
    else errW 2800
def tellsL (ws : List (List UInt8)) : List UInt8 :=
  if ws.headD [] = nFsm ∨ ws.headD [] = nDelay ∨ ws.headD [] = nTarget then countedL ws
  else if ws.headD [] = nFrame then (if ws.length ≠ 3 then errW 2800 else match numM (ws.getD 1 []), unhexM (ws.getD 2 []) with
    | some p, some d => if (frameT p d 0).2 ≠ 0 then errW (frameT p d 0).2 else hexM (frameT p d 0).1
    | _, _ => errW 2800)
  else if ws.length ≠ 2 then errW 2800 else oneL (ws.headD []) (ws.getD 1 [])
theorem read_nums : ∀ (n : Nat) (ws : List (List UInt8)), readM (List.replicate n 110) ws = if ws.length = n then (numsL ws).map (fun l => (l, [])) else none
  | 0, [] => rfl
  | 0, w :: ws => rfl
  | n + 1, [] => rfl
  | n + 1, w :: ws => by
    rw [List.replicate_succ, readM, if_pos rfl, read_nums n ws, numsL]
    by_cases h : ws.length = n
    · rw [if_pos h, if_pos (by simp [h])]
      cases numM w with
      | none => rfl
      | some x => cases numsL ws <;> rfl
    · rw [if_neg h, if_neg (by simp [h])]
      cases numM w <;> rfl
theorem nums_length : ∀ (ws : List (List UInt8)) (l : List Int), numsL ws = some l → l.length = ws.length
  | [], l, h => by cases h; rfl
  | w :: ws, l, h => by
    rw [numsL] at h
    cases h1 : numM w with
    | none => rw [h1] at h; cases h
    | some x =>
      cases h2 : numsL ws with
      | none => rw [h1, h2] at h; cases h
      | some l2 =>
        rw [h1, h2] at h
        cases h
        rw [List.length_cons, List.length_cons, nums_length ws l2 h2]
end Go.Proofs.YteigigepmoicaaaGreatDoor
