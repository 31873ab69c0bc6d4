/- The contract of frame.Get. -/
import Derived.Test.YteigigepmoicaaaGreatDoorFrame
namespace Go.Proofs.YteigigepmoicaaaGreatDoor
open Go.RowKit Go.Crc
/-- what Get answers of the text that was unstuffed -/
def unhead (u : List UInt8) : Int × List UInt8 × Int :=
  if u.take 2 ≠ [255, 3] then (0, [], 302) else
  if protoOk ((u.getD 2 0).toNat * 256 + (u.getD 3 0).toNat : Nat) = false then (0, [], 303) else
  if 2052 < u.length then (0, [], 304) else (((u.getD 2 0).toNat * 256 + (u.getD 3 0).toNat : Nat), u.drop 4, 0)
def unframe (l : List UInt8) : Int × List UInt8 × Int :=
  if (unstuff l).2 ≠ 0 ∨ (unstuff l).1.length < 6 then (0, [], 300) else
  if (chk (unstuff l).1).2 ≠ 0 then (0, [], 301) else unhead (chk (unstuff l).1).1
theorem un_length : ∀ (l r : List UInt8), un l = some r → r.length ≤ l.length
  | [], r, h => by simp [un] at h; subst h; exact Nat.le_refl _
  | [c], r, h => by
    by_cases hc : c = 125
    · subst hc; simp [un] at h
    · rw [un_plain hc] at h; simp [un] at h; subst h; simp
  | c :: d :: l, r, h => by
    by_cases hc : c = 125
    · subst hc
      rw [un_mark] at h
      obtain ⟨r2, h2, rfl⟩ := Option.map_eq_some_iff.1 h
      have := un_length l r2 h2
      simp; omega
    · rw [un_plain hc] at h
      obtain ⟨r2, h2, rfl⟩ := Option.map_eq_some_iff.1 h
      have := un_length (d :: l) r2 h2
      simp at this ⊢; omega
theorem unstuff_length (l : List UInt8) : (unstuff l).1.length ≤ l.length := by
  unfold unstuff
  split
  · simp
  · split
    · simp
    · rename_i r h; exact un_length _ _ h
theorem chk_ok {t : List UInt8} (h : ¬ (chk t).2 ≠ 0) : (chk t).1.length + 2 = t.length := by
  unfold chk at h ⊢
  by_cases h1 : t.length < 2
  · rw [if_pos h1] at h; exact absurd (by decide) h
  · rw [if_neg h1] at h ⊢
    by_cases h2 : put (t.take (t.length - 2)) = t
    · rw [if_pos h2]; simp; omega
    · rw [if_neg h2] at h; exact absurd (by decide) h
def ansF (r : Int × List UInt8 × Int) : Value := .tuple #[.agg #[.int .i64 r.1, .string (bytesOf r.2.1)], .int .i64 r.2.2]
set_option maxHeartbeats 1000000 in
theorem fget1 (s : ByteArray) (w : World) (hs : s.size ≤ 140737488355328) (h1 : (unstuff s.data.toList).2 ≠ 0) :
    Calls Tryz.prog 63 #[.string s] w fun e w' => e = .returned (ansF (unframe s.data.toList)) ∧ Below w.heap.size w w' := by
  have hul := unstuff_length s.data.toList
  rw [len_toList] at hul
  have hr : Hid (unframe s.data.toList = (0, [], 300)) := by unfold unframe; rw [if_pos (.inl h1)]; exact rfl
  have e1 : ((unstuff s.data.toList).2 != 0) = true := bne_iff_ne.2 h1
  clear h1
  go_enter Tryz.func63, Tryz.ntmps63
  go_wp2_with fail
  refine (sget_any _ _ hs).mono ?_
  rintro e w1 ⟨rfl, hb1⟩
  have k0 := below_cell hb1 (a := ⟨w.heap.size, 0, none⟩) (v := .int .i64 0) (by simp [World.cell?_alloc_new])
  have k1 := below_cell hb1 (a := ⟨w.heap.size, 1, none⟩) (v := .string ⟨#[]⟩) (by simp [World.cell?_alloc_new])
  have f0 : w1.frozen? ⟨w.heap.size, 0, none⟩ = false := ((bcell hb1).2 _ _ (by simp)).trans (by simp [go_sem])
  have f1 : w1.frozen? ⟨w.heap.size, 1, none⟩ = false := ((bcell hb1).2 _ _ (by simp)).trans (by simp [go_sem])
  have hlt1 : w.heap.size < w1.heap.size := by have := hb1.size; simp at this; omega
  have hB1 := seqB (allocB (Below.refl _ _) _) hb1
  clear hb1
  generalize (unstuff s.data.toList).2 = te at e1 ⊢
  generalize (unstuff s.data.toList).1 = t at *
  go_wp2_with fail
  refine bodyPost_ret (v := ansF (0, [], 300)) (by simp [results, Tryz.results63, go_sem, k0, k1, ansF]; rfl) rfl ⟨by rw [hr.out], ?_⟩
  exact (hB1.setCell (Nat.le_refl _) _).setCell (Nat.le_refl _) _
set_option maxHeartbeats 1000000 in
theorem fget2 (s : ByteArray) (w : World) (hs : s.size ≤ 140737488355328) (h1 : (unstuff s.data.toList).2 = 0) (h2 : (unstuff s.data.toList).1.length < 6) :
    Calls Tryz.prog 63 #[.string s] w fun e w' => e = .returned (ansF (unframe s.data.toList)) ∧ Below w.heap.size w w' := by
  have hul := unstuff_length s.data.toList
  rw [len_toList] at hul
  have hr : Hid (unframe s.data.toList = (0, [], 300)) := by unfold unframe; rw [if_pos (.inr h2)]; exact rfl
  have H1 := Lib.hid h1
  clear h1
  go_enter Tryz.func63, Tryz.ntmps63
  go_wp2_with fail
  refine (sget_any _ _ hs).mono ?_
  rintro e w1 ⟨rfl, hb1⟩
  have k0 := below_cell hb1 (a := ⟨w.heap.size, 0, none⟩) (v := .int .i64 0) (by simp [World.cell?_alloc_new])
  have k1 := below_cell hb1 (a := ⟨w.heap.size, 1, none⟩) (v := .string ⟨#[]⟩) (by simp [World.cell?_alloc_new])
  have f0 : w1.frozen? ⟨w.heap.size, 0, none⟩ = false := ((bcell hb1).2 _ _ (by simp)).trans (by simp [go_sem])
  have f1 : w1.frozen? ⟨w.heap.size, 1, none⟩ = false := ((bcell hb1).2 _ _ (by simp)).trans (by simp [go_sem])
  have hlt1 : w.heap.size < w1.heap.size := by have := hb1.size; simp at this; omega
  have hB1 := seqB (allocB (Below.refl _ _) _) hb1
  clear hb1
  rw [H1.out]
  clear H1
  generalize (unstuff s.data.toList).1 = t at *
  have hts : (bytesOf t).size = t.length := bytesOf_size t
  go_wp2_with fail
  refine bodyPost_ret (v := ansF (0, [], 300)) (by simp [results, Tryz.results63, go_sem, k0, k1, ansF]; rfl) rfl ⟨by rw [hr.out], ?_⟩
  exact (hB1.setCell (Nat.le_refl _) _).setCell (Nat.le_refl _) _
set_option maxHeartbeats 1000000 in
theorem fget3 (s : ByteArray) (w : World) (hs : s.size ≤ 140737488355328) (h1 : (unstuff s.data.toList).2 = 0) (h2 : ¬ (unstuff s.data.toList).1.length < 6) (h3 : (chk (unstuff s.data.toList).1).2 ≠ 0) :
    Calls Tryz.prog 63 #[.string s] w fun e w' => e = .returned (ansF (unframe s.data.toList)) ∧ Below w.heap.size w w' := by
  have hul := unstuff_length s.data.toList
  rw [len_toList] at hul
  have hr : Hid (unframe s.data.toList = (0, [], 301)) := by unfold unframe; rw [if_neg (by rintro (h | h); exact h h1; exact h2 h), if_pos h3]; exact rfl
  have H1 := Lib.hid h1
  have e3 : ((chk (unstuff s.data.toList).1).2 != 0) = true := bne_iff_ne.2 h3
  clear h1 h3
  go_enter Tryz.func63, Tryz.ntmps63
  go_wp2_with fail
  refine (sget_any _ _ hs).mono ?_
  rintro e w1 ⟨rfl, hb1⟩
  have k0 := below_cell hb1 (a := ⟨w.heap.size, 0, none⟩) (v := .int .i64 0) (by simp [World.cell?_alloc_new])
  have k1 := below_cell hb1 (a := ⟨w.heap.size, 1, none⟩) (v := .string ⟨#[]⟩) (by simp [World.cell?_alloc_new])
  have f0 : w1.frozen? ⟨w.heap.size, 0, none⟩ = false := ((bcell hb1).2 _ _ (by simp)).trans (by simp [go_sem])
  have f1 : w1.frozen? ⟨w.heap.size, 1, none⟩ = false := ((bcell hb1).2 _ _ (by simp)).trans (by simp [go_sem])
  have hlt1 : w.heap.size < w1.heap.size := by have := hb1.size; simp at this; omega
  have hB1 := seqB (allocB (Below.refl _ _) _) hb1
  clear hb1
  rw [H1.out]
  clear H1
  generalize (unstuff s.data.toList).1 = t at *
  have hts : (bytesOf t).size = t.length := bytesOf_size t
  go_wp2_with fail
  refine (check_any _ _ (by rw [bytesOf_size]; unfold maxLen; omega)).mono ?_
  rintro e w2 ⟨rfl, hb2⟩
  rw [bytesOf_toList]
  replace k0 := below_cell hb2 k0
  replace k1 := below_cell hb2 k1
  replace f0 := ((bcell hb2).2 _ _ hlt1).trans f0
  replace f1 := ((bcell hb2).2 _ _ hlt1).trans f1
  have hB2 := seqB hB1 hb2
  have hlt2 : w.heap.size < w2.heap.size := Nat.lt_of_lt_of_le hlt1 hb2.size
  clear hb2 hB1
  generalize (chk t).2 = te at *
  generalize (chk t).1 = u at *
  go_wp2_with fail
  refine bodyPost_ret (v := ansF (0, [], 301)) (by simp [results, Tryz.results63, go_sem, k0, k1, ansF]; rfl) rfl ⟨by rw [hr.out], ?_⟩
  exact (hB2.setCell (Nat.le_refl _) _).setCell (Nat.le_refl _) _
set_option maxHeartbeats 1000000 in
theorem fget4 (s : ByteArray) (w : World) (hs : s.size ≤ 140737488355328) (h1 : (unstuff s.data.toList).2 = 0) (h2 : ¬ (unstuff s.data.toList).1.length < 6) (c0 c1 c2 c3 : UInt8) (r : List UInt8) (h3 : chk (unstuff s.data.toList).1 = (c0 :: c1 :: c2 :: c3 :: r, 0)) (h4 : c0 ≠ 255) :
    Calls Tryz.prog 63 #[.string s] w fun e w' => e = .returned (ansF (unframe s.data.toList)) ∧ Below w.heap.size w w' := by
  have hul := unstuff_length s.data.toList
  rw [len_toList] at hul
  have hr : Hid (unframe s.data.toList = (0, [], 302)) := by
    unfold unframe; rw [if_neg (by rintro (h | h); exact h h1; exact h2 h), if_neg (by rw [h3]; simp), h3]; unfold unhead; rw [if_pos (by intro h; injection h with a b; exact h4 a)]; exact rfl
  have hrl : r.length + 6 ≤ 140737488355328 := by have := chk_ok (t := (unstuff s.data.toList).1) (by rw [h3]; simp); rw [h3] at this; simp at this; omega
  have H1 := Lib.hid h1
  have H3 := Lib.hid h3
  clear h1 h3
  have g0 : ∀ h, (bytesOf (c0 :: c1 :: c2 :: c3 :: r))[0]'h = c0 := fun _ => rfl
  have g1 : ∀ h, (bytesOf (c0 :: c1 :: c2 :: c3 :: r))[1]'h = c1 := fun _ => rfl
  have g2 : ∀ h, (bytesOf (c0 :: c1 :: c2 :: c3 :: r))[2]'h = c2 := fun _ => rfl
  have g3 : ∀ h, (bytesOf (c0 :: c1 :: c2 :: c3 :: r))[3]'h = c3 := fun _ => rfl
  have gsz : (bytesOf (c0 :: c1 :: c2 :: c3 :: r)).size = r.length + 4 := by rw [bytesOf_size]; rfl
  have e4 : ((c0.toNat : Int) != 255) = true := u8_bne h4
  clear h4
  go_enter Tryz.func63, Tryz.ntmps63
  go_wp2_with fail
  refine (sget_any _ _ hs).mono ?_
  rintro e w1 ⟨rfl, hb1⟩
  have k0 := below_cell hb1 (a := ⟨w.heap.size, 0, none⟩) (v := .int .i64 0) (by simp [World.cell?_alloc_new])
  have k1 := below_cell hb1 (a := ⟨w.heap.size, 1, none⟩) (v := .string ⟨#[]⟩) (by simp [World.cell?_alloc_new])
  have f0 : w1.frozen? ⟨w.heap.size, 0, none⟩ = false := ((bcell hb1).2 _ _ (by simp)).trans (by simp [go_sem])
  have f1 : w1.frozen? ⟨w.heap.size, 1, none⟩ = false := ((bcell hb1).2 _ _ (by simp)).trans (by simp [go_sem])
  have hlt1 : w.heap.size < w1.heap.size := by have := hb1.size; simp at this; omega
  have hB1 := seqB (allocB (Below.refl _ _) _) hb1
  clear hb1
  rw [H1.out]
  clear H1
  have hts : (bytesOf (unstuff s.data.toList).1).size = (unstuff s.data.toList).1.length := bytesOf_size _
  go_wp2_with fail
  refine (check_any _ _ (by rw [bytesOf_size]; unfold maxLen; omega)).mono ?_
  rintro e w2 ⟨rfl, hb2⟩
  rw [bytesOf_toList]
  replace k0 := below_cell hb2 k0
  replace k1 := below_cell hb2 k1
  replace f0 := ((bcell hb2).2 _ _ hlt1).trans f0
  replace f1 := ((bcell hb2).2 _ _ hlt1).trans f1
  have hB2 := seqB hB1 hb2
  have hlt2 : w.heap.size < w2.heap.size := Nat.lt_of_lt_of_le hlt1 hb2.size
  clear hb2 hB1
  rw [H3.out]
  clear H3
  generalize (unstuff s.data.toList).1 = t at *
  go_wp2_with fail
  refine bodyPost_ret (v := ansF (0, [], 302)) (by simp [results, Tryz.results63, go_sem, k0, k1, ansF]; rfl) rfl ⟨by rw [hr.out], ?_⟩
  exact (hB2.setCell (Nat.le_refl _) _).setCell (Nat.le_refl _) _
set_option maxHeartbeats 1000000 in
theorem fget5 (s : ByteArray) (w : World) (hs : s.size ≤ 140737488355328) (h1 : (unstuff s.data.toList).2 = 0) (h2 : ¬ (unstuff s.data.toList).1.length < 6) (c1 c2 c3 : UInt8) (r : List UInt8) (h3 : chk (unstuff s.data.toList).1 = (255 :: c1 :: c2 :: c3 :: r, 0)) (h4 : c1 ≠ 3) :
    Calls Tryz.prog 63 #[.string s] w fun e w' => e = .returned (ansF (unframe s.data.toList)) ∧ Below w.heap.size w w' := by
  have hul := unstuff_length s.data.toList
  rw [len_toList] at hul
  have hr : Hid (unframe s.data.toList = (0, [], 302)) := by
    unfold unframe; rw [if_neg (by rintro (h | h); exact h h1; exact h2 h), if_neg (by rw [h3]; simp), h3]; unfold unhead; rw [if_pos (by intro h; injection h with a b; injection b with b c; exact h4 b)]; exact rfl
  have hrl : r.length + 6 ≤ 140737488355328 := by have := chk_ok (t := (unstuff s.data.toList).1) (by rw [h3]; simp); rw [h3] at this; simp at this; omega
  have H1 := Lib.hid h1
  have H3 := Lib.hid h3
  clear h1 h3
  have g0 : ∀ h, (bytesOf (255 :: c1 :: c2 :: c3 :: r))[0]'h = 255 := fun _ => rfl
  have g1 : ∀ h, (bytesOf (255 :: c1 :: c2 :: c3 :: r))[1]'h = c1 := fun _ => rfl
  have g2 : ∀ h, (bytesOf (255 :: c1 :: c2 :: c3 :: r))[2]'h = c2 := fun _ => rfl
  have g3 : ∀ h, (bytesOf (255 :: c1 :: c2 :: c3 :: r))[3]'h = c3 := fun _ => rfl
  have gsz : (bytesOf (255 :: c1 :: c2 :: c3 :: r)).size = r.length + 4 := by rw [bytesOf_size]; rfl
  have e5 : ((255 : Int) != 255) = false := rfl
  have e4 : ((c1.toNat : Int) != 3) = true := u8_bne h4
  clear h4
  go_enter Tryz.func63, Tryz.ntmps63
  go_wp2_with fail
  refine (sget_any _ _ hs).mono ?_
  rintro e w1 ⟨rfl, hb1⟩
  have k0 := below_cell hb1 (a := ⟨w.heap.size, 0, none⟩) (v := .int .i64 0) (by simp [World.cell?_alloc_new])
  have k1 := below_cell hb1 (a := ⟨w.heap.size, 1, none⟩) (v := .string ⟨#[]⟩) (by simp [World.cell?_alloc_new])
  have f0 : w1.frozen? ⟨w.heap.size, 0, none⟩ = false := ((bcell hb1).2 _ _ (by simp)).trans (by simp [go_sem])
  have f1 : w1.frozen? ⟨w.heap.size, 1, none⟩ = false := ((bcell hb1).2 _ _ (by simp)).trans (by simp [go_sem])
  have hlt1 : w.heap.size < w1.heap.size := by have := hb1.size; simp at this; omega
  have hB1 := seqB (allocB (Below.refl _ _) _) hb1
  clear hb1
  rw [H1.out]
  clear H1
  have hts : (bytesOf (unstuff s.data.toList).1).size = (unstuff s.data.toList).1.length := bytesOf_size _
  go_wp2_with fail
  refine (check_any _ _ (by rw [bytesOf_size]; unfold maxLen; omega)).mono ?_
  rintro e w2 ⟨rfl, hb2⟩
  rw [bytesOf_toList]
  replace k0 := below_cell hb2 k0
  replace k1 := below_cell hb2 k1
  replace f0 := ((bcell hb2).2 _ _ hlt1).trans f0
  replace f1 := ((bcell hb2).2 _ _ hlt1).trans f1
  have hB2 := seqB hB1 hb2
  have hlt2 : w.heap.size < w2.heap.size := Nat.lt_of_lt_of_le hlt1 hb2.size
  clear hb2 hB1
  rw [H3.out]
  clear H3
  generalize (unstuff s.data.toList).1 = t at *
  go_wp2_with fail
  refine bodyPost_ret (v := ansF (0, [], 302)) (by simp [results, Tryz.results63, go_sem, k0, k1, ansF]; rfl) rfl ⟨by rw [hr.out], ?_⟩
  exact (hB2.setCell (Nat.le_refl _) _).setCell (Nat.le_refl _) _
theorem or_bytes (c2 c3 : UInt8) : bits BinOp.or IntKind.i64 ((c2.toNat : Int) * 256) (c3.toNat : Int) = ((c2.toNat * 256 + c3.toNat : Nat) : Int) := by
  have h2 := c2.toNat_lt
  have h3 := c3.toNat_lt
  have := i64_or_nat (c2.toNat * 256) c3.toNat (by omega) (by omega)
  rw [nat_join 8 (c2.toNat * 256) c3.toNat (by omega) (by omega)] at this
  simpa using this
theorem ext4 (a b c d : UInt8) (r : List UInt8) : (bytesOf (a :: b :: c :: d :: r)).extract 4 (r.length + 4) = bytesOf r := by
  apply ba_ext; rw [extract_toList]; simp [bytesOf]
set_option maxHeartbeats 1000000 in
theorem fget6 (s : ByteArray) (w : World) (hs : s.size ≤ 140737488355328) (h1 : (unstuff s.data.toList).2 = 0) (h2 : ¬ (unstuff s.data.toList).1.length < 6) (c2 c3 : UInt8) (r : List UInt8) (h3 : chk (unstuff s.data.toList).1 = (255 :: 3 :: c2 :: c3 :: r, 0)) (h4 : protoOk ((c2.toNat : Int) * 256 + (c3.toNat : Int)) = false) :
    Calls Tryz.prog 63 #[.string s] w fun e w' => e = .returned (ansF (unframe s.data.toList)) ∧ Below w.heap.size w w' := by
  have hul := unstuff_length s.data.toList
  rw [len_toList] at hul
  have hr : Hid (unframe s.data.toList = (0, [], 303)) := by
    unfold unframe; rw [if_neg (by rintro (h | h); exact h h1; exact h2 h), if_neg (by rw [h3]; simp), h3]; unfold unhead; rw [if_neg (by simp), if_pos (by simpa using h4)]; exact rfl
  have hrl : r.length + 6 ≤ 140737488355328 := by have := chk_ok (t := (unstuff s.data.toList).1) (by rw [h3]; simp); rw [h3] at this; simp at this; omega
  have H1 := Lib.hid h1
  have H3 := Lib.hid h3
  clear h1 h3
  have g0 : ∀ h, (bytesOf (255 :: 3 :: c2 :: c3 :: r))[0]'h = 255 := fun _ => rfl
  have g1 : ∀ h, (bytesOf (255 :: 3 :: c2 :: c3 :: r))[1]'h = 3 := fun _ => rfl
  have g2 : ∀ h, (bytesOf (255 :: 3 :: c2 :: c3 :: r))[2]'h = c2 := fun _ => rfl
  have g3 : ∀ h, (bytesOf (255 :: 3 :: c2 :: c3 :: r))[3]'h = c3 := fun _ => rfl
  have gsz : (bytesOf (255 :: 3 :: c2 :: c3 :: r)).size = r.length + 4 := by rw [bytesOf_size]; rfl
  have hor : bits BinOp.or IntKind.i64 ((c2.toNat : Int) * 256) (c3.toNat : Int) = ((c2.toNat * 256 + c3.toNat : Nat) : Int) := or_bytes c2 c3
  have hc2 := c2.toNat_lt
  have hc3 := c3.toNat_lt
  have hx := ext4 255 3 c2 c3 r
  have H4 := Lib.hid h4
  clear h4
  go_enter Tryz.func63, Tryz.ntmps63
  go_wp2_with fail
  refine (sget_any _ _ hs).mono ?_
  rintro e w1 ⟨rfl, hb1⟩
  have k0 := below_cell hb1 (a := ⟨w.heap.size, 0, none⟩) (v := .int .i64 0) (by simp [World.cell?_alloc_new])
  have k1 := below_cell hb1 (a := ⟨w.heap.size, 1, none⟩) (v := .string ⟨#[]⟩) (by simp [World.cell?_alloc_new])
  have f0 : w1.frozen? ⟨w.heap.size, 0, none⟩ = false := ((bcell hb1).2 _ _ (by simp)).trans (by simp [go_sem])
  have f1 : w1.frozen? ⟨w.heap.size, 1, none⟩ = false := ((bcell hb1).2 _ _ (by simp)).trans (by simp [go_sem])
  have hlt1 : w.heap.size < w1.heap.size := by have := hb1.size; simp at this; omega
  have hB1 := seqB (allocB (Below.refl _ _) _) hb1
  clear hb1
  rw [H1.out]
  clear H1
  have hts : (bytesOf (unstuff s.data.toList).1).size = (unstuff s.data.toList).1.length := bytesOf_size _
  go_wp2_with fail
  refine (check_any _ _ (by rw [bytesOf_size]; unfold maxLen; omega)).mono ?_
  rintro e w2 ⟨rfl, hb2⟩
  rw [bytesOf_toList]
  replace k0 := below_cell hb2 k0
  replace k1 := below_cell hb2 k1
  replace f0 := ((bcell hb2).2 _ _ hlt1).trans f0
  replace f1 := ((bcell hb2).2 _ _ hlt1).trans f1
  have hB2 := seqB hB1 hb2
  have hlt2 : w.heap.size < w2.heap.size := Nat.lt_of_lt_of_le hlt1 hb2.size
  clear hb2 hB1
  rw [H3.out]
  clear H3
  generalize (unstuff s.data.toList).1 = t at *
  go_wp2_with fail
  go_region
  go_wp2_with fail
  refine (proto_any _ _).mono ?_
  rintro e w3 ⟨rfl, rfl⟩
  rw [H4.out]
  go_wp2_with fail
  refine bodyPost_ret (v := ansF (0, [], 303)) (by simp [results, Tryz.results63, go_sem, k0, k1, hlt2, ansF]; try rfl) rfl ⟨by rw [hr.out], ?_⟩
  exact drewB (allocB ((hB2.setCell (Nat.le_refl _) _).setCell (Nat.le_refl _) _) _)
set_option maxHeartbeats 1000000 in
theorem fget7 (s : ByteArray) (w : World) (hs : s.size ≤ 140737488355328) (h1 : (unstuff s.data.toList).2 = 0) (h2 : ¬ (unstuff s.data.toList).1.length < 6) (c2 c3 : UInt8) (r : List UInt8) (h3 : chk (unstuff s.data.toList).1 = (255 :: 3 :: c2 :: c3 :: r, 0)) (h4 : protoOk ((c2.toNat : Int) * 256 + (c3.toNat : Int)) = true) (h5 : 2048 < r.length) :
    Calls Tryz.prog 63 #[.string s] w fun e w' => e = .returned (ansF (unframe s.data.toList)) ∧ Below w.heap.size w w' := by
  have hul := unstuff_length s.data.toList
  rw [len_toList] at hul
  have hr : Hid (unframe s.data.toList = (0, [], 304)) := by
    unfold unframe; rw [if_neg (by rintro (h | h); exact h h1; exact h2 h), if_neg (by rw [h3]; simp), h3]; unfold unhead; rw [if_neg (by simp), if_neg (by simpa using h4), if_pos (by simp; omega)]; exact rfl
  have hrl : r.length + 6 ≤ 140737488355328 := by have := chk_ok (t := (unstuff s.data.toList).1) (by rw [h3]; simp); rw [h3] at this; simp at this; omega
  have H1 := Lib.hid h1
  have H3 := Lib.hid h3
  clear h1 h3
  have g0 : ∀ h, (bytesOf (255 :: 3 :: c2 :: c3 :: r))[0]'h = 255 := fun _ => rfl
  have g1 : ∀ h, (bytesOf (255 :: 3 :: c2 :: c3 :: r))[1]'h = 3 := fun _ => rfl
  have g2 : ∀ h, (bytesOf (255 :: 3 :: c2 :: c3 :: r))[2]'h = c2 := fun _ => rfl
  have g3 : ∀ h, (bytesOf (255 :: 3 :: c2 :: c3 :: r))[3]'h = c3 := fun _ => rfl
  have gsz : (bytesOf (255 :: 3 :: c2 :: c3 :: r)).size = r.length + 4 := by rw [bytesOf_size]; rfl
  have hor : bits BinOp.or IntKind.i64 ((c2.toNat : Int) * 256) (c3.toNat : Int) = ((c2.toNat * 256 + c3.toNat : Nat) : Int) := or_bytes c2 c3
  have hc2 := c2.toNat_lt
  have hc3 := c3.toNat_lt
  have hx := ext4 255 3 c2 c3 r
  have H4 := Lib.hid h4
  clear h4
  go_enter Tryz.func63, Tryz.ntmps63
  go_wp2_with fail
  refine (sget_any _ _ hs).mono ?_
  rintro e w1 ⟨rfl, hb1⟩
  have k0 := below_cell hb1 (a := ⟨w.heap.size, 0, none⟩) (v := .int .i64 0) (by simp [World.cell?_alloc_new])
  have k1 := below_cell hb1 (a := ⟨w.heap.size, 1, none⟩) (v := .string ⟨#[]⟩) (by simp [World.cell?_alloc_new])
  have f0 : w1.frozen? ⟨w.heap.size, 0, none⟩ = false := ((bcell hb1).2 _ _ (by simp)).trans (by simp [go_sem])
  have f1 : w1.frozen? ⟨w.heap.size, 1, none⟩ = false := ((bcell hb1).2 _ _ (by simp)).trans (by simp [go_sem])
  have hlt1 : w.heap.size < w1.heap.size := by have := hb1.size; simp at this; omega
  have hB1 := seqB (allocB (Below.refl _ _) _) hb1
  clear hb1
  rw [H1.out]
  clear H1
  have hts : (bytesOf (unstuff s.data.toList).1).size = (unstuff s.data.toList).1.length := bytesOf_size _
  go_wp2_with fail
  refine (check_any _ _ (by rw [bytesOf_size]; unfold maxLen; omega)).mono ?_
  rintro e w2 ⟨rfl, hb2⟩
  rw [bytesOf_toList]
  replace k0 := below_cell hb2 k0
  replace k1 := below_cell hb2 k1
  replace f0 := ((bcell hb2).2 _ _ hlt1).trans f0
  replace f1 := ((bcell hb2).2 _ _ hlt1).trans f1
  have hB2 := seqB hB1 hb2
  have hlt2 : w.heap.size < w2.heap.size := Nat.lt_of_lt_of_le hlt1 hb2.size
  clear hb2 hB1
  rw [H3.out]
  clear H3
  generalize (unstuff s.data.toList).1 = t at *
  go_wp2_with fail
  go_region
  have hrs : (bytesOf r).size = r.length := bytesOf_size r
  go_wp2_with fail
  refine (proto_any _ _).mono ?_
  rintro e w3 ⟨rfl, rfl⟩
  rw [H4.out]
  go_wp2_with fail
  refine bodyPost_ret (v := ansF (0, [], 304)) (by simp [results, Tryz.results63, go_sem, k0, k1, hlt2, ansF]; try rfl) rfl ⟨by rw [hr.out], ?_⟩
  exact drewB (allocB ((hB2.setCell (Nat.le_refl _) _).setCell (Nat.le_refl _) _) _)
set_option maxHeartbeats 1000000 in
theorem fget8 (s : ByteArray) (w : World) (hs : s.size ≤ 140737488355328) (h1 : (unstuff s.data.toList).2 = 0) (h2 : ¬ (unstuff s.data.toList).1.length < 6) (c2 c3 : UInt8) (r : List UInt8) (h3 : chk (unstuff s.data.toList).1 = (255 :: 3 :: c2 :: c3 :: r, 0)) (h4 : protoOk ((c2.toNat : Int) * 256 + (c3.toNat : Int)) = true) (h5 : ¬ 2048 < r.length) :
    Calls Tryz.prog 63 #[.string s] w fun e w' => e = .returned (ansF (unframe s.data.toList)) ∧ Below w.heap.size w w' := by
  have hul := unstuff_length s.data.toList
  rw [len_toList] at hul
  have hr : Hid (unframe s.data.toList = (((c2.toNat * 256 + c3.toNat : Nat) : Int), r, (0 : Int))) := by
    unfold unframe; rw [if_neg (by rintro (h | h); exact h h1; exact h2 h), if_neg (by rw [h3]; simp), h3]; unfold unhead; rw [if_neg (by simp), if_neg (by simpa using h4), if_neg (by simp; omega)]; exact rfl
  have hrl : r.length + 6 ≤ 140737488355328 := by have := chk_ok (t := (unstuff s.data.toList).1) (by rw [h3]; simp); rw [h3] at this; simp at this; omega
  have H1 := Lib.hid h1
  have H3 := Lib.hid h3
  clear h1 h3
  have g0 : ∀ h, (bytesOf (255 :: 3 :: c2 :: c3 :: r))[0]'h = 255 := fun _ => rfl
  have g1 : ∀ h, (bytesOf (255 :: 3 :: c2 :: c3 :: r))[1]'h = 3 := fun _ => rfl
  have g2 : ∀ h, (bytesOf (255 :: 3 :: c2 :: c3 :: r))[2]'h = c2 := fun _ => rfl
  have g3 : ∀ h, (bytesOf (255 :: 3 :: c2 :: c3 :: r))[3]'h = c3 := fun _ => rfl
  have gsz : (bytesOf (255 :: 3 :: c2 :: c3 :: r)).size = r.length + 4 := by rw [bytesOf_size]; rfl
  have hor : bits BinOp.or IntKind.i64 ((c2.toNat : Int) * 256) (c3.toNat : Int) = ((c2.toNat * 256 + c3.toNat : Nat) : Int) := or_bytes c2 c3
  have hc2 := c2.toNat_lt
  have hc3 := c3.toNat_lt
  have hx := ext4 255 3 c2 c3 r
  have H4 := Lib.hid h4
  clear h4
  go_enter Tryz.func63, Tryz.ntmps63
  go_wp2_with fail
  refine (sget_any _ _ hs).mono ?_
  rintro e w1 ⟨rfl, hb1⟩
  have k0 := below_cell hb1 (a := ⟨w.heap.size, 0, none⟩) (v := .int .i64 0) (by simp [World.cell?_alloc_new])
  have k1 := below_cell hb1 (a := ⟨w.heap.size, 1, none⟩) (v := .string ⟨#[]⟩) (by simp [World.cell?_alloc_new])
  have f0 : w1.frozen? ⟨w.heap.size, 0, none⟩ = false := ((bcell hb1).2 _ _ (by simp)).trans (by simp [go_sem])
  have f1 : w1.frozen? ⟨w.heap.size, 1, none⟩ = false := ((bcell hb1).2 _ _ (by simp)).trans (by simp [go_sem])
  have hlt1 : w.heap.size < w1.heap.size := by have := hb1.size; simp at this; omega
  have hB1 := seqB (allocB (Below.refl _ _) _) hb1
  clear hb1
  rw [H1.out]
  clear H1
  have hts : (bytesOf (unstuff s.data.toList).1).size = (unstuff s.data.toList).1.length := bytesOf_size _
  go_wp2_with fail
  refine (check_any _ _ (by rw [bytesOf_size]; unfold maxLen; omega)).mono ?_
  rintro e w2 ⟨rfl, hb2⟩
  rw [bytesOf_toList]
  replace k0 := below_cell hb2 k0
  replace k1 := below_cell hb2 k1
  replace f0 := ((bcell hb2).2 _ _ hlt1).trans f0
  replace f1 := ((bcell hb2).2 _ _ hlt1).trans f1
  have hB2 := seqB hB1 hb2
  have hlt2 : w.heap.size < w2.heap.size := Nat.lt_of_lt_of_le hlt1 hb2.size
  clear hb2 hB1
  rw [H3.out]
  clear H3
  generalize (unstuff s.data.toList).1 = t at *
  go_wp2_with fail
  go_region
  have hrs : (bytesOf r).size = r.length := bytesOf_size r
  go_wp2_with fail
  refine (proto_any _ _).mono ?_
  rintro e w3 ⟨rfl, rfl⟩
  rw [H4.out]
  go_wp2_with fail
  refine bodyPost_ret (v := ansF (((c2.toNat * 256 + c3.toNat : Nat) : Int), r, (0 : Int))) (by simp [results, Tryz.results63, go_sem, k0, k1, hlt2, ansF]; try rfl) rfl ⟨by rw [hr.out], ?_⟩
  exact drewB (allocB ((hB2.setCell (Nat.le_refl _) _).setCell (Nat.le_refl _) _) _)
theorem fget_any (s : ByteArray) (w : World) (hs : s.size ≤ 140737488355328) :
    Calls Tryz.prog 63 #[.string s] w fun e w' => e = .returned (ansF (unframe s.data.toList)) ∧ Below w.heap.size w w' := by
  by_cases h1 : (unstuff s.data.toList).2 = 0
  · by_cases h2 : (unstuff s.data.toList).1.length < 6
    · exact fget2 s w hs h1 h2
    · by_cases h3 : (chk (unstuff s.data.toList).1).2 = 0
      · obtain ⟨c0, c1, c2, c3, r, hu⟩ : ∃ c0 c1 c2 c3 r, (chk (unstuff s.data.toList).1).1 = c0 :: c1 :: c2 :: c3 :: r := by
          have hl := chk_ok (t := (unstuff s.data.toList).1) (by simp [h3])
          match h : (chk (unstuff s.data.toList).1).1 with
          | c0 :: c1 :: c2 :: c3 :: r => exact ⟨_, _, _, _, _, rfl⟩
          | [] | [_] | [_, _] | [_, _, _] => rw [h] at hl; simp at hl; omega
        have h3' : chk (unstuff s.data.toList).1 = (c0 :: c1 :: c2 :: c3 :: r, 0) := by rw [← hu, ← h3]
        by_cases h4 : c0 = 255
        · subst h4
          by_cases h5 : c1 = 3
          · subst h5
            cases h6 : protoOk ((c2.toNat : Int) * 256 + (c3.toNat : Int)) with
            | false => exact fget6 s w hs h1 h2 c2 c3 r h3' h6
            | true =>
              by_cases h7 : 2048 < r.length
              · exact fget7 s w hs h1 h2 c2 c3 r h3' h6 h7
              · exact fget8 s w hs h1 h2 c2 c3 r h3' h6 h7
          · exact fget5 s w hs h1 h2 c1 c2 c3 r h3' h5
        · exact fget4 s w hs h1 h2 c0 c1 c2 c3 r h3' h4
      · exact fget3 s w hs h1 h2 h3
  · exact fget1 s w hs h1
end Go.Proofs.YteigigepmoicaaaGreatDoor
