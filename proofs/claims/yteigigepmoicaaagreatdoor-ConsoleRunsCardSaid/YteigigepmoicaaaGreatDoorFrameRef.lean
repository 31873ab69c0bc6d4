/- Contracts of the reference's Frame, Unframe. -/
import Derived.Test.YteigigepmoicaaaGreatDoorMg4
namespace Go.Proofs.YteigigepmoicaaaGreatDoor
open Go.RowKit Go.Crc
set_option maxHeartbeats 400000 in
theorem protoMay_any (p : Int) (w : World) : Calls Tryz.prog 53 #[.int .i64 p] w fun e w' => e = .returned (.bool (protoOk p)) ∧ w = w' := by
  have b1 : bits BinOp.and IntKind.i64 p 1 = p % 2 := i64_low p 1 (by omega)
  have b2 : bits BinOp.and IntKind.i64 (p / 256) 1 = (p / 256) % 2 := i64_low _ 1 (by omega)
  by_cases h1 : 1 ≤ p
  · by_cases h2 : p ≤ 65535
    · by_cases h3 : p % 2 = 1
      · have hr : Hid (protoOk p = ((p / 256) % 2 == 0)) := Lib.hid (by simp [protoOk, h1, h2, h3])
        have e3 : (p % 2 == 1) = true := beq_iff_eq.2 h3
        clear h3
        go_enter Tryz.func53, Tryz.ntmps53
        go_wp2
        go_ret
        exact ⟨by rw [hr.out]; rfl, rfl⟩
      · have hr : Hid (protoOk p = false) := Lib.hid (by simp [protoOk, h1, h2, h3])
        have e3 : (p % 2 == 1) = false := beq_eq_false_iff_ne.2 h3
        clear h3
        go_enter Tryz.func53, Tryz.ntmps53
        go_wp2
        go_ret
        exact ⟨by rw [hr.out]; rfl, rfl⟩
    · have hr : Hid (protoOk p = false) := Lib.hid (by simp [protoOk, h2])
      go_enter Tryz.func53, Tryz.ntmps53
      go_wp2
      go_ret
      exact ⟨by rw [hr.out]; rfl, rfl⟩
  · have hr : Hid (protoOk p = false) := Lib.hid (by simp [protoOk, h1])
    go_enter Tryz.func53, Tryz.ntmps53
    go_wp2
    go_ret
    exact ⟨by rw [hr.out]; rfl, rfl⟩
set_option maxHeartbeats 400000 in
theorem two_any (x : Int) (w : World) : Calls Tryz.prog 56 #[.int .i64 x] w fun e w' => e = .returned (.string (bytesOf [byteAt (x / 256), byteAt x])) ∧ Below w.heap.size w w' := by
  have b1 : bits BinOp.and IntKind.i64 (x / 256) 255 = (x / 256) % 256 := i64_low _ 8 (by omega)
  have b2 : bits BinOp.and IntKind.i64 x 255 = x % 256 := i64_low _ 8 (by omega)
  have hcv := conv2
  go_enter Tryz.func56, Tryz.ntmps56
  go_wp2
  go_ret
  exact ⟨rfl, allocB (Below.refl _ _) _⟩
set_option maxHeartbeats 1000000 in
theorem rframe_any (p : Int) (d : ByteArray) (m : Int) (w : World) (hd : d.size ≤ maxLen) :
    Calls Tryz.prog 35 #[.agg #[.int .i64 p, .string d], .int .i64 m] w fun e w' =>
      e = .returned (.tuple #[.string (bytesOf (frameT p d.data.toList m).1), .int .i64 (frameT p d.data.toList m).2]) ∧ Below w.heap.size w w' := by
  unfold maxLen at hd
  by_cases hp : protoOk p = true
  · by_cases hl : 2048 < d.size
    · have hr : Hid (frameT p d.data.toList m = ([], 304)) := by unfold frameT; rw [if_neg (by rw [hp]; decide), if_pos (by rw [len_toList]; exact hl)]; exact rfl
      go_enter Tryz.func35, Tryz.ntmps35
      go_wp2_with fail
      refine (protoMay_any _ _).mono ?_
      rintro e w1 ⟨rfl, rfl⟩
      rw [hp]
      go_wp2_with fail
      go_ret2
      exact ⟨by rw [hr.out]; rfl, allocB (Below.refl _ _) _⟩
    · have hr : Hid (frameT p d.data.toList m = ([126] ++ stuff m (put (headB p ++ d.data.toList)) ++ [126], 0)) := by unfold frameT; rw [if_neg (by rw [hp]; decide), if_neg (by rw [len_toList]; exact hl)]; exact rfl
      have Hp := Lib.hid hp
      clear hp
      go_enter Tryz.func35, Tryz.ntmps35
      go_wp2_with fail
      refine (protoMay_any _ _).mono ?_
      rintro e w1 ⟨rfl, rfl⟩
      rw [Hp.out]
      go_wp2_with fail
      have hs2 : (bytesOf [byteAt (p / 256), byteAt p]).size = 2 := rfl
      have n1 : ¬ 9223372036854775807 < 4 + d.size := by omega
      have n1' : ¬ 9223372036854775807 < 2 + 2 + d.size := by omega
      have HS : Hid ((⟨#[255, 3]⟩ ++ bytesOf [byteAt (p / 256), byteAt p] ++ d : ByteArray).size = 4 + d.size) := by rw [ByteArray.size_append, ByteArray.size_append, hs2]; exact rfl
      go_region_held3 (fun w' => w'.cell? ⟨w.heap.size, 0, none⟩ = some (.int .i64 p) ∧ w'.cell? ⟨w.heap.size, 1, none⟩ = some (.string d)) (first | exact ⟨below_cell hb4 (by first | assumption | simp), below_cell hb4 (by first | assumption | simp)⟩ | exact ⟨below_cell hb4 ‹_ ∧ _›.1, below_cell hb4 ‹_ ∧ _›.2⟩ | exact ⟨below_cell hb3 (by first | assumption | simp), below_cell hb3 (by first | assumption | simp)⟩ | exact ⟨below_cell hb3 ‹_ ∧ _›.1, below_cell hb3 ‹_ ∧ _›.2⟩ | exact ⟨below_cell hb2 (by first | assumption | simp), below_cell hb2 (by first | assumption | simp)⟩ | exact ⟨below_cell hb2 ‹_ ∧ _›.1, below_cell hb2 ‹_ ∧ _›.2⟩ | go_keep)
        (first
          | (go_at_call 56; refine (two_any _ _).mono ?_; rintro e w2 ⟨rfl, hb2⟩)
          | (go_at_call 55; refine (sum_any _ _ ?_).mono ?_; (unfold maxLen; rw [HS.out]; omega); rintro e w3 ⟨rfl, hb3⟩)
          | (go_at_call 54; refine (rstuff_any _ _ _ ?_).mono ?_; (rw [bytesOf_size, put_length]; simp [hs2]; omega); rintro e w4 ⟨rfl, hb4⟩; generalize HT : stuff m _ = T; have hT : T.length ≤ 4108 := (by rw [← HT]; refine Nat.le_trans (stuff_length _ _) ?_; rw [bytesOf_toList, put_length]; simp [hs2]; omega); have n2 : ¬ 9223372036854775807 < 1 + (bytesOf T).size := (by rw [bytesOf_size]; omega); have n3 : ¬ 9223372036854775807 < 1 + (bytesOf T).size + 1 := (by rw [bytesOf_size]; omega); have n5 : ¬ 9223372036854775807 ≤ 1 + (bytesOf T).size := (by rw [bytesOf_size]; omega); have HHT := Lib.hid HT; clear HT))
      go_wp2_with fail
      go_ret2
      refine ⟨?_, by repeat (first | exact Below.refl _ _ | apply allocB | apply drewB | refine seqB ?_ (by assumption))⟩
      rw [hr.out]
      show Ending.returned (Value.tuple #[Value.string (bytesOf [126] ++ bytesOf T ++ bytesOf [126]), Value.int .i64 0]) = _
      rw [bytesOf_append, bytesOf_append, ← HHT.out]
      rfl
  · have hp' : protoOk p = false := by simpa using hp
    have hr : Hid (frameT p d.data.toList m = ([], 303)) := by unfold frameT; rw [if_pos hp']; exact rfl
    clear hp
    go_enter Tryz.func35, Tryz.ntmps35
    go_wp2_with fail
    refine (protoMay_any _ _).mono ?_
    rintro e w1 ⟨rfl, rfl⟩
    rw [hp']
    go_wp2_with fail
    go_ret2
    exact ⟨by rw [hr.out]; rfl, allocB (Below.refl _ _) _⟩
theorem ext2 (a b c d : UInt8) (r : List UInt8) : (bytesOf (a :: b :: c :: d :: r)).extract 0 2 = bytesOf [a, b] := by
  apply ba_ext; rw [extract_toList]; simp [bytesOf]
set_option maxHeartbeats 1000000 in
theorem rget1 (s : ByteArray) (w : World) (hs : s.size ≤ 140737488355328) (h1 : (unstuff s.data.toList).2 ≠ 0) :
    Calls Tryz.prog 36 #[.string s] w fun e w' => e = .returned (ansF (unframe s.data.toList)) ∧ Below w.heap.size w w' := by
  have hul := unstuff_length s.data.toList
  rw [len_toList] at hul
  have hr : Hid (unframe s.data.toList = (0, [], 300)) := by unfold unframe; rw [if_pos (.inl h1)]; exact rfl
  have e1 : ((unstuff s.data.toList).2 != 0) = true := bne_iff_ne.2 h1
  clear h1
  go_enter Tryz.func36, Tryz.ntmps36
  go_wp2_with fail
  refine (runstuff_any _ _ hs).mono ?_
  rintro e w1 ⟨rfl, hb1⟩
  have k0 := below_cell hb1 (a := ⟨w.heap.size, 0, none⟩) (v := .int .i64 0) (by simp [World.cell?_alloc_new])
  have k1 := below_cell hb1 (a := ⟨w.heap.size, 1, none⟩) (v := .string ⟨#[]⟩) (by simp [World.cell?_alloc_new])
  have f0 : w1.frozen? ⟨w.heap.size, 0, none⟩ = false := ((bcell hb1).2 _ _ (by simp)).trans (by simp [go_sem])
  have f1 : w1.frozen? ⟨w.heap.size, 1, none⟩ = false := ((bcell hb1).2 _ _ (by simp)).trans (by simp [go_sem])
  have hlt1 : w.heap.size < w1.heap.size := by have := hb1.size; simp at this; omega
  have hB1 := seqB (allocB (Below.refl _ _) _) hb1
  clear hb1
  generalize (unstuff s.data.toList).2 = te at e1 ⊢
  generalize (unstuff s.data.toList).1 = t at *
  go_wp2_with fail
  refine bodyPost_ret (v := ansF (0, [], 300)) (by simp [results, Tryz.results36, go_sem, k0, k1, ansF]; rfl) rfl ⟨by rw [hr.out], ?_⟩
  exact (hB1.setCell (Nat.le_refl _) _).setCell (Nat.le_refl _) _
set_option maxHeartbeats 1000000 in
theorem rget2 (s : ByteArray) (w : World) (hs : s.size ≤ 140737488355328) (h1 : (unstuff s.data.toList).2 = 0) (h2 : (unstuff s.data.toList).1.length < 6) :
    Calls Tryz.prog 36 #[.string s] w fun e w' => e = .returned (ansF (unframe s.data.toList)) ∧ Below w.heap.size w w' := by
  have hul := unstuff_length s.data.toList
  rw [len_toList] at hul
  have hr : Hid (unframe s.data.toList = (0, [], 300)) := by unfold unframe; rw [if_pos (.inr h2)]; exact rfl
  have H1 := Lib.hid h1
  clear h1
  go_enter Tryz.func36, Tryz.ntmps36
  go_wp2_with fail
  refine (runstuff_any _ _ hs).mono ?_
  rintro e w1 ⟨rfl, hb1⟩
  have k0 := below_cell hb1 (a := ⟨w.heap.size, 0, none⟩) (v := .int .i64 0) (by simp [World.cell?_alloc_new])
  have k1 := below_cell hb1 (a := ⟨w.heap.size, 1, none⟩) (v := .string ⟨#[]⟩) (by simp [World.cell?_alloc_new])
  have f0 : w1.frozen? ⟨w.heap.size, 0, none⟩ = false := ((bcell hb1).2 _ _ (by simp)).trans (by simp [go_sem])
  have f1 : w1.frozen? ⟨w.heap.size, 1, none⟩ = false := ((bcell hb1).2 _ _ (by simp)).trans (by simp [go_sem])
  have hlt1 : w.heap.size < w1.heap.size := by have := hb1.size; simp at this; omega
  have hB1 := seqB (allocB (Below.refl _ _) _) hb1
  clear hb1
  rw [H1.out]
  clear H1
  generalize (unstuff s.data.toList).1 = t at *
  have hts : (bytesOf t).size = t.length := bytesOf_size t
  go_wp2_with fail
  refine bodyPost_ret (v := ansF (0, [], 300)) (by simp [results, Tryz.results36, go_sem, k0, k1, ansF]; rfl) rfl ⟨by rw [hr.out], ?_⟩
  exact (hB1.setCell (Nat.le_refl _) _).setCell (Nat.le_refl _) _
set_option maxHeartbeats 1000000 in
theorem rget3 (s : ByteArray) (w : World) (hs : s.size ≤ 140737488355328) (h1 : (unstuff s.data.toList).2 = 0) (h2 : ¬ (unstuff s.data.toList).1.length < 6) (h3 : (chk (unstuff s.data.toList).1).2 ≠ 0) :
    Calls Tryz.prog 36 #[.string s] w fun e w' => e = .returned (ansF (unframe s.data.toList)) ∧ Below w.heap.size w w' := by
  have hul := unstuff_length s.data.toList
  rw [len_toList] at hul
  have hr : Hid (unframe s.data.toList = (0, [], 301)) := by unfold unframe; rw [if_neg (by rintro (h | h); exact h h1; exact h2 h), if_pos h3]; exact rfl
  have H1 := Lib.hid h1
  have e3 : ((chk (unstuff s.data.toList).1).2 != 0) = true := bne_iff_ne.2 h3
  clear h1 h3
  go_enter Tryz.func36, Tryz.ntmps36
  go_wp2_with fail
  refine (runstuff_any _ _ hs).mono ?_
  rintro e w1 ⟨rfl, hb1⟩
  have k0 := below_cell hb1 (a := ⟨w.heap.size, 0, none⟩) (v := .int .i64 0) (by simp [World.cell?_alloc_new])
  have k1 := below_cell hb1 (a := ⟨w.heap.size, 1, none⟩) (v := .string ⟨#[]⟩) (by simp [World.cell?_alloc_new])
  have f0 : w1.frozen? ⟨w.heap.size, 0, none⟩ = false := ((bcell hb1).2 _ _ (by simp)).trans (by simp [go_sem])
  have f1 : w1.frozen? ⟨w.heap.size, 1, none⟩ = false := ((bcell hb1).2 _ _ (by simp)).trans (by simp [go_sem])
  have hlt1 : w.heap.size < w1.heap.size := by have := hb1.size; simp at this; omega
  have hB1 := seqB (allocB (Below.refl _ _) _) hb1
  clear hb1
  rw [H1.out]
  clear H1
  generalize (unstuff s.data.toList).1 = t at *
  have hts : (bytesOf t).size = t.length := bytesOf_size t
  go_wp2_with fail
  refine (unsum_any _ _ (by rw [bytesOf_size]; unfold maxLen; omega)).mono ?_
  rintro e w2 ⟨rfl, hb2⟩
  rw [bytesOf_toList]
  replace k0 := below_cell hb2 k0
  replace k1 := below_cell hb2 k1
  replace f0 := ((bcell hb2).2 _ _ hlt1).trans f0
  replace f1 := ((bcell hb2).2 _ _ hlt1).trans f1
  have hB2 := seqB hB1 hb2
  have hlt2 : w.heap.size < w2.heap.size := Nat.lt_of_lt_of_le hlt1 hb2.size
  clear hb2 hB1
  generalize (chk t).2 = te at *
  generalize (chk t).1 = u at *
  go_wp2_with fail
  refine bodyPost_ret (v := ansF (0, [], 301)) (by simp [results, Tryz.results36, go_sem, k0, k1, ansF]; rfl) rfl ⟨by rw [hr.out], ?_⟩
  exact (hB2.setCell (Nat.le_refl _) _).setCell (Nat.le_refl _) _
set_option maxHeartbeats 1000000 in
theorem rget4 (s : ByteArray) (w : World) (hs : s.size ≤ 140737488355328) (h1 : (unstuff s.data.toList).2 = 0) (h2 : ¬ (unstuff s.data.toList).1.length < 6) (c0 c1 c2 c3 : UInt8) (r : List UInt8) (h3 : chk (unstuff s.data.toList).1 = (c0 :: c1 :: c2 :: c3 :: r, 0)) (h4 : c0 ≠ 255) :
    Calls Tryz.prog 36 #[.string s] w fun e w' => e = .returned (ansF (unframe s.data.toList)) ∧ Below w.heap.size w w' := by
  have hul := unstuff_length s.data.toList
  rw [len_toList] at hul
  have hr : Hid (unframe s.data.toList = (0, [], 302)) := by
    unfold unframe; rw [if_neg (by rintro (h | h); exact h h1; exact h2 h), if_neg (by rw [h3]; simp), h3]; unfold unhead; rw [if_pos (by intro h; injection h with a b; exact h4 a)]; exact rfl
  have hrl : r.length + 6 ≤ 140737488355328 := by have := chk_ok (t := (unstuff s.data.toList).1) (by rw [h3]; simp); rw [h3] at this; simp at this; omega
  have H1 := Lib.hid h1
  have H3 := Lib.hid h3
  clear h1 h3
  have g0 : ∀ h, (bytesOf (c0 :: c1 :: c2 :: c3 :: r))[0]'h = c0 := fun _ => rfl
  have g1 : ∀ h, (bytesOf (c0 :: c1 :: c2 :: c3 :: r))[1]'h = c1 := fun _ => rfl
  have g2 : ∀ h, (bytesOf (c0 :: c1 :: c2 :: c3 :: r))[2]'h = c2 := fun _ => rfl
  have g3 : ∀ h, (bytesOf (c0 :: c1 :: c2 :: c3 :: r))[3]'h = c3 := fun _ => rfl
  have gx : (bytesOf (c0 :: c1 :: c2 :: c3 :: r)).extract 0 2 = bytesOf [c0, c1] := ext2 _ _ _ _ _
  have gq : ((bytesOf [c0, c1]).toList == [255, 3]) = false := by rw [ba_toList]; exact beq_eq_false_iff_ne.2 (by intro h; injection h with h0 h1; exact h4 h0)
  have gsz : (bytesOf (c0 :: c1 :: c2 :: c3 :: r)).size = r.length + 4 := by rw [bytesOf_size]; rfl
  have e4 : ((c0.toNat : Int) != 255) = true := u8_bne h4
  clear h4
  go_enter Tryz.func36, Tryz.ntmps36
  go_wp2_with fail
  refine (runstuff_any _ _ hs).mono ?_
  rintro e w1 ⟨rfl, hb1⟩
  have k0 := below_cell hb1 (a := ⟨w.heap.size, 0, none⟩) (v := .int .i64 0) (by simp [World.cell?_alloc_new])
  have k1 := below_cell hb1 (a := ⟨w.heap.size, 1, none⟩) (v := .string ⟨#[]⟩) (by simp [World.cell?_alloc_new])
  have f0 : w1.frozen? ⟨w.heap.size, 0, none⟩ = false := ((bcell hb1).2 _ _ (by simp)).trans (by simp [go_sem])
  have f1 : w1.frozen? ⟨w.heap.size, 1, none⟩ = false := ((bcell hb1).2 _ _ (by simp)).trans (by simp [go_sem])
  have hlt1 : w.heap.size < w1.heap.size := by have := hb1.size; simp at this; omega
  have hB1 := seqB (allocB (Below.refl _ _) _) hb1
  clear hb1
  rw [H1.out]
  clear H1
  have hts : (bytesOf (unstuff s.data.toList).1).size = (unstuff s.data.toList).1.length := bytesOf_size _
  go_wp2_with fail
  refine (unsum_any _ _ (by rw [bytesOf_size]; unfold maxLen; omega)).mono ?_
  rintro e w2 ⟨rfl, hb2⟩
  rw [bytesOf_toList]
  replace k0 := below_cell hb2 k0
  replace k1 := below_cell hb2 k1
  replace f0 := ((bcell hb2).2 _ _ hlt1).trans f0
  replace f1 := ((bcell hb2).2 _ _ hlt1).trans f1
  have hB2 := seqB hB1 hb2
  have hlt2 : w.heap.size < w2.heap.size := Nat.lt_of_lt_of_le hlt1 hb2.size
  clear hb2 hB1
  rw [H3.out]
  clear H3
  generalize (unstuff s.data.toList).1 = t at *
  go_wp2_with fail
  refine bodyPost_ret (v := ansF (0, [], 302)) (by simp [results, Tryz.results36, go_sem, k0, k1, ansF]; rfl) rfl ⟨by rw [hr.out], ?_⟩
  exact (hB2.setCell (Nat.le_refl _) _).setCell (Nat.le_refl _) _
set_option maxHeartbeats 1000000 in
theorem rget5 (s : ByteArray) (w : World) (hs : s.size ≤ 140737488355328) (h1 : (unstuff s.data.toList).2 = 0) (h2 : ¬ (unstuff s.data.toList).1.length < 6) (c1 c2 c3 : UInt8) (r : List UInt8) (h3 : chk (unstuff s.data.toList).1 = (255 :: c1 :: c2 :: c3 :: r, 0)) (h4 : c1 ≠ 3) :
    Calls Tryz.prog 36 #[.string s] w fun e w' => e = .returned (ansF (unframe s.data.toList)) ∧ Below w.heap.size w w' := by
  have hul := unstuff_length s.data.toList
  rw [len_toList] at hul
  have hr : Hid (unframe s.data.toList = (0, [], 302)) := by
    unfold unframe; rw [if_neg (by rintro (h | h); exact h h1; exact h2 h), if_neg (by rw [h3]; simp), h3]; unfold unhead; rw [if_pos (by intro h; injection h with a b; injection b with b c; exact h4 b)]; exact rfl
  have hrl : r.length + 6 ≤ 140737488355328 := by have := chk_ok (t := (unstuff s.data.toList).1) (by rw [h3]; simp); rw [h3] at this; simp at this; omega
  have H1 := Lib.hid h1
  have H3 := Lib.hid h3
  clear h1 h3
  have g0 : ∀ h, (bytesOf (255 :: c1 :: c2 :: c3 :: r))[0]'h = 255 := fun _ => rfl
  have g1 : ∀ h, (bytesOf (255 :: c1 :: c2 :: c3 :: r))[1]'h = c1 := fun _ => rfl
  have g2 : ∀ h, (bytesOf (255 :: c1 :: c2 :: c3 :: r))[2]'h = c2 := fun _ => rfl
  have g3 : ∀ h, (bytesOf (255 :: c1 :: c2 :: c3 :: r))[3]'h = c3 := fun _ => rfl
  have gx : (bytesOf (255 :: c1 :: c2 :: c3 :: r)).extract 0 2 = bytesOf [255, c1] := ext2 _ _ _ _ _
  have gq : ((bytesOf [255, c1]).toList == [255, 3]) = false := by rw [ba_toList]; exact beq_eq_false_iff_ne.2 (by intro h; injection h with h0 h1; injection h1 with h1 h2; exact h4 h1)
  have gsz : (bytesOf (255 :: c1 :: c2 :: c3 :: r)).size = r.length + 4 := by rw [bytesOf_size]; rfl
  have e5 : ((255 : Int) != 255) = false := rfl
  have e4 : ((c1.toNat : Int) != 3) = true := u8_bne h4
  clear h4
  go_enter Tryz.func36, Tryz.ntmps36
  go_wp2_with fail
  refine (runstuff_any _ _ hs).mono ?_
  rintro e w1 ⟨rfl, hb1⟩
  have k0 := below_cell hb1 (a := ⟨w.heap.size, 0, none⟩) (v := .int .i64 0) (by simp [World.cell?_alloc_new])
  have k1 := below_cell hb1 (a := ⟨w.heap.size, 1, none⟩) (v := .string ⟨#[]⟩) (by simp [World.cell?_alloc_new])
  have f0 : w1.frozen? ⟨w.heap.size, 0, none⟩ = false := ((bcell hb1).2 _ _ (by simp)).trans (by simp [go_sem])
  have f1 : w1.frozen? ⟨w.heap.size, 1, none⟩ = false := ((bcell hb1).2 _ _ (by simp)).trans (by simp [go_sem])
  have hlt1 : w.heap.size < w1.heap.size := by have := hb1.size; simp at this; omega
  have hB1 := seqB (allocB (Below.refl _ _) _) hb1
  clear hb1
  rw [H1.out]
  clear H1
  have hts : (bytesOf (unstuff s.data.toList).1).size = (unstuff s.data.toList).1.length := bytesOf_size _
  go_wp2_with fail
  refine (unsum_any _ _ (by rw [bytesOf_size]; unfold maxLen; omega)).mono ?_
  rintro e w2 ⟨rfl, hb2⟩
  rw [bytesOf_toList]
  replace k0 := below_cell hb2 k0
  replace k1 := below_cell hb2 k1
  replace f0 := ((bcell hb2).2 _ _ hlt1).trans f0
  replace f1 := ((bcell hb2).2 _ _ hlt1).trans f1
  have hB2 := seqB hB1 hb2
  have hlt2 : w.heap.size < w2.heap.size := Nat.lt_of_lt_of_le hlt1 hb2.size
  clear hb2 hB1
  rw [H3.out]
  clear H3
  generalize (unstuff s.data.toList).1 = t at *
  go_wp2_with fail
  refine bodyPost_ret (v := ansF (0, [], 302)) (by simp [results, Tryz.results36, go_sem, k0, k1, ansF]; rfl) rfl ⟨by rw [hr.out], ?_⟩
  exact (hB2.setCell (Nat.le_refl _) _).setCell (Nat.le_refl _) _
set_option maxHeartbeats 1000000 in
theorem rget6 (s : ByteArray) (w : World) (hs : s.size ≤ 140737488355328) (h1 : (unstuff s.data.toList).2 = 0) (h2 : ¬ (unstuff s.data.toList).1.length < 6) (c2 c3 : UInt8) (r : List UInt8) (h3 : chk (unstuff s.data.toList).1 = (255 :: 3 :: c2 :: c3 :: r, 0)) (h4 : protoOk ((c2.toNat : Int) * 256 + (c3.toNat : Int)) = false) :
    Calls Tryz.prog 36 #[.string s] w fun e w' => e = .returned (ansF (unframe s.data.toList)) ∧ Below w.heap.size w w' := by
  have hul := unstuff_length s.data.toList
  rw [len_toList] at hul
  have hr : Hid (unframe s.data.toList = (0, [], 303)) := by
    unfold unframe; rw [if_neg (by rintro (h | h); exact h h1; exact h2 h), if_neg (by rw [h3]; simp), h3]; unfold unhead; rw [if_neg (by simp), if_pos (by simpa using h4)]; exact rfl
  have hrl : r.length + 6 ≤ 140737488355328 := by have := chk_ok (t := (unstuff s.data.toList).1) (by rw [h3]; simp); rw [h3] at this; simp at this; omega
  have H1 := Lib.hid h1
  have H3 := Lib.hid h3
  clear h1 h3
  have g0 : ∀ h, (bytesOf (255 :: 3 :: c2 :: c3 :: r))[0]'h = 255 := fun _ => rfl
  have g1 : ∀ h, (bytesOf (255 :: 3 :: c2 :: c3 :: r))[1]'h = 3 := fun _ => rfl
  have g2 : ∀ h, (bytesOf (255 :: 3 :: c2 :: c3 :: r))[2]'h = c2 := fun _ => rfl
  have g3 : ∀ h, (bytesOf (255 :: 3 :: c2 :: c3 :: r))[3]'h = c3 := fun _ => rfl
  have gx : (bytesOf (255 :: 3 :: c2 :: c3 :: r)).extract 0 2 = bytesOf [255, 3] := ext2 _ _ _ _ _
  have gq : ((bytesOf [255, 3]).toList == [255, 3]) = true := by rw [ba_toList]; rfl
  have gsz : (bytesOf (255 :: 3 :: c2 :: c3 :: r)).size = r.length + 4 := by rw [bytesOf_size]; rfl
  have hor : bits BinOp.or IntKind.i64 ((c2.toNat : Int) * 256) (c3.toNat : Int) = ((c2.toNat * 256 + c3.toNat : Nat) : Int) := or_bytes c2 c3
  have hc2 := c2.toNat_lt
  have hc3 := c3.toNat_lt
  have hx := ext4 255 3 c2 c3 r
  have H4 := Lib.hid h4
  clear h4
  go_enter Tryz.func36, Tryz.ntmps36
  go_wp2_with fail
  refine (runstuff_any _ _ hs).mono ?_
  rintro e w1 ⟨rfl, hb1⟩
  have k0 := below_cell hb1 (a := ⟨w.heap.size, 0, none⟩) (v := .int .i64 0) (by simp [World.cell?_alloc_new])
  have k1 := below_cell hb1 (a := ⟨w.heap.size, 1, none⟩) (v := .string ⟨#[]⟩) (by simp [World.cell?_alloc_new])
  have f0 : w1.frozen? ⟨w.heap.size, 0, none⟩ = false := ((bcell hb1).2 _ _ (by simp)).trans (by simp [go_sem])
  have f1 : w1.frozen? ⟨w.heap.size, 1, none⟩ = false := ((bcell hb1).2 _ _ (by simp)).trans (by simp [go_sem])
  have hlt1 : w.heap.size < w1.heap.size := by have := hb1.size; simp at this; omega
  have hB1 := seqB (allocB (Below.refl _ _) _) hb1
  clear hb1
  rw [H1.out]
  clear H1
  have hts : (bytesOf (unstuff s.data.toList).1).size = (unstuff s.data.toList).1.length := bytesOf_size _
  go_wp2_with fail
  refine (unsum_any _ _ (by rw [bytesOf_size]; unfold maxLen; omega)).mono ?_
  rintro e w2 ⟨rfl, hb2⟩
  rw [bytesOf_toList]
  replace k0 := below_cell hb2 k0
  replace k1 := below_cell hb2 k1
  replace f0 := ((bcell hb2).2 _ _ hlt1).trans f0
  replace f1 := ((bcell hb2).2 _ _ hlt1).trans f1
  have hB2 := seqB hB1 hb2
  have hlt2 : w.heap.size < w2.heap.size := Nat.lt_of_lt_of_le hlt1 hb2.size
  clear hb2 hB1
  rw [H3.out]
  clear H3
  generalize (unstuff s.data.toList).1 = t at *
  go_wp2_with fail
  go_region
  go_wp2_with fail
  refine (protoMay_any _ _).mono ?_
  rintro e w3 ⟨rfl, rfl⟩
  rw [H4.out]
  go_wp2_with fail
  refine bodyPost_ret (v := ansF (0, [], 303)) (by simp [results, Tryz.results36, go_sem, k0, k1, ansF]; try rfl) rfl ⟨by rw [hr.out], ?_⟩
  exact drewB ((hB2.setCell (Nat.le_refl _) _).setCell (Nat.le_refl _) _)
set_option maxHeartbeats 1000000 in
theorem rget7 (s : ByteArray) (w : World) (hs : s.size ≤ 140737488355328) (h1 : (unstuff s.data.toList).2 = 0) (h2 : ¬ (unstuff s.data.toList).1.length < 6) (c2 c3 : UInt8) (r : List UInt8) (h3 : chk (unstuff s.data.toList).1 = (255 :: 3 :: c2 :: c3 :: r, 0)) (h4 : protoOk ((c2.toNat : Int) * 256 + (c3.toNat : Int)) = true) (h5 : 2048 < r.length) :
    Calls Tryz.prog 36 #[.string s] w fun e w' => e = .returned (ansF (unframe s.data.toList)) ∧ Below w.heap.size w w' := by
  have hul := unstuff_length s.data.toList
  rw [len_toList] at hul
  have hr : Hid (unframe s.data.toList = (0, [], 304)) := by
    unfold unframe; rw [if_neg (by rintro (h | h); exact h h1; exact h2 h), if_neg (by rw [h3]; simp), h3]; unfold unhead; rw [if_neg (by simp), if_neg (by simpa using h4), if_pos (by simp; omega)]; exact rfl
  have hrl : r.length + 6 ≤ 140737488355328 := by have := chk_ok (t := (unstuff s.data.toList).1) (by rw [h3]; simp); rw [h3] at this; simp at this; omega
  have H1 := Lib.hid h1
  have H3 := Lib.hid h3
  clear h1 h3
  have g0 : ∀ h, (bytesOf (255 :: 3 :: c2 :: c3 :: r))[0]'h = 255 := fun _ => rfl
  have g1 : ∀ h, (bytesOf (255 :: 3 :: c2 :: c3 :: r))[1]'h = 3 := fun _ => rfl
  have g2 : ∀ h, (bytesOf (255 :: 3 :: c2 :: c3 :: r))[2]'h = c2 := fun _ => rfl
  have g3 : ∀ h, (bytesOf (255 :: 3 :: c2 :: c3 :: r))[3]'h = c3 := fun _ => rfl
  have gx : (bytesOf (255 :: 3 :: c2 :: c3 :: r)).extract 0 2 = bytesOf [255, 3] := ext2 _ _ _ _ _
  have gq : ((bytesOf [255, 3]).toList == [255, 3]) = true := by rw [ba_toList]; rfl
  have gsz : (bytesOf (255 :: 3 :: c2 :: c3 :: r)).size = r.length + 4 := by rw [bytesOf_size]; rfl
  have hor : bits BinOp.or IntKind.i64 ((c2.toNat : Int) * 256) (c3.toNat : Int) = ((c2.toNat * 256 + c3.toNat : Nat) : Int) := or_bytes c2 c3
  have hc2 := c2.toNat_lt
  have hc3 := c3.toNat_lt
  have hx := ext4 255 3 c2 c3 r
  have H4 := Lib.hid h4
  clear h4
  go_enter Tryz.func36, Tryz.ntmps36
  go_wp2_with fail
  refine (runstuff_any _ _ hs).mono ?_
  rintro e w1 ⟨rfl, hb1⟩
  have k0 := below_cell hb1 (a := ⟨w.heap.size, 0, none⟩) (v := .int .i64 0) (by simp [World.cell?_alloc_new])
  have k1 := below_cell hb1 (a := ⟨w.heap.size, 1, none⟩) (v := .string ⟨#[]⟩) (by simp [World.cell?_alloc_new])
  have f0 : w1.frozen? ⟨w.heap.size, 0, none⟩ = false := ((bcell hb1).2 _ _ (by simp)).trans (by simp [go_sem])
  have f1 : w1.frozen? ⟨w.heap.size, 1, none⟩ = false := ((bcell hb1).2 _ _ (by simp)).trans (by simp [go_sem])
  have hlt1 : w.heap.size < w1.heap.size := by have := hb1.size; simp at this; omega
  have hB1 := seqB (allocB (Below.refl _ _) _) hb1
  clear hb1
  rw [H1.out]
  clear H1
  have hts : (bytesOf (unstuff s.data.toList).1).size = (unstuff s.data.toList).1.length := bytesOf_size _
  go_wp2_with fail
  refine (unsum_any _ _ (by rw [bytesOf_size]; unfold maxLen; omega)).mono ?_
  rintro e w2 ⟨rfl, hb2⟩
  rw [bytesOf_toList]
  replace k0 := below_cell hb2 k0
  replace k1 := below_cell hb2 k1
  replace f0 := ((bcell hb2).2 _ _ hlt1).trans f0
  replace f1 := ((bcell hb2).2 _ _ hlt1).trans f1
  have hB2 := seqB hB1 hb2
  have hlt2 : w.heap.size < w2.heap.size := Nat.lt_of_lt_of_le hlt1 hb2.size
  clear hb2 hB1
  rw [H3.out]
  clear H3
  generalize (unstuff s.data.toList).1 = t at *
  go_wp2_with fail
  go_region
  have hrs : (bytesOf r).size = r.length := bytesOf_size r
  go_wp2_with fail
  refine (protoMay_any _ _).mono ?_
  rintro e w3 ⟨rfl, rfl⟩
  rw [H4.out]
  go_wp2_with fail
  refine bodyPost_ret (v := ansF (0, [], 304)) (by simp [results, Tryz.results36, go_sem, k0, k1, ansF]; try rfl) rfl ⟨by rw [hr.out], ?_⟩
  exact drewB ((hB2.setCell (Nat.le_refl _) _).setCell (Nat.le_refl _) _)
set_option maxHeartbeats 1000000 in
theorem rget8 (s : ByteArray) (w : World) (hs : s.size ≤ 140737488355328) (h1 : (unstuff s.data.toList).2 = 0) (h2 : ¬ (unstuff s.data.toList).1.length < 6) (c2 c3 : UInt8) (r : List UInt8) (h3 : chk (unstuff s.data.toList).1 = (255 :: 3 :: c2 :: c3 :: r, 0)) (h4 : protoOk ((c2.toNat : Int) * 256 + (c3.toNat : Int)) = true) (h5 : ¬ 2048 < r.length) :
    Calls Tryz.prog 36 #[.string s] w fun e w' => e = .returned (ansF (unframe s.data.toList)) ∧ Below w.heap.size w w' := by
  have hul := unstuff_length s.data.toList
  rw [len_toList] at hul
  have hr : Hid (unframe s.data.toList = (((c2.toNat * 256 + c3.toNat : Nat) : Int), r, (0 : Int))) := by
    unfold unframe; rw [if_neg (by rintro (h | h); exact h h1; exact h2 h), if_neg (by rw [h3]; simp), h3]; unfold unhead; rw [if_neg (by simp), if_neg (by simpa using h4), if_neg (by simp; omega)]; exact rfl
  have hrl : r.length + 6 ≤ 140737488355328 := by have := chk_ok (t := (unstuff s.data.toList).1) (by rw [h3]; simp); rw [h3] at this; simp at this; omega
  have H1 := Lib.hid h1
  have H3 := Lib.hid h3
  clear h1 h3
  have g0 : ∀ h, (bytesOf (255 :: 3 :: c2 :: c3 :: r))[0]'h = 255 := fun _ => rfl
  have g1 : ∀ h, (bytesOf (255 :: 3 :: c2 :: c3 :: r))[1]'h = 3 := fun _ => rfl
  have g2 : ∀ h, (bytesOf (255 :: 3 :: c2 :: c3 :: r))[2]'h = c2 := fun _ => rfl
  have g3 : ∀ h, (bytesOf (255 :: 3 :: c2 :: c3 :: r))[3]'h = c3 := fun _ => rfl
  have gx : (bytesOf (255 :: 3 :: c2 :: c3 :: r)).extract 0 2 = bytesOf [255, 3] := ext2 _ _ _ _ _
  have gq : ((bytesOf [255, 3]).toList == [255, 3]) = true := by rw [ba_toList]; rfl
  have gsz : (bytesOf (255 :: 3 :: c2 :: c3 :: r)).size = r.length + 4 := by rw [bytesOf_size]; rfl
  have hor : bits BinOp.or IntKind.i64 ((c2.toNat : Int) * 256) (c3.toNat : Int) = ((c2.toNat * 256 + c3.toNat : Nat) : Int) := or_bytes c2 c3
  have hc2 := c2.toNat_lt
  have hc3 := c3.toNat_lt
  have hx := ext4 255 3 c2 c3 r
  have H4 := Lib.hid h4
  clear h4
  go_enter Tryz.func36, Tryz.ntmps36
  go_wp2_with fail
  refine (runstuff_any _ _ hs).mono ?_
  rintro e w1 ⟨rfl, hb1⟩
  have k0 := below_cell hb1 (a := ⟨w.heap.size, 0, none⟩) (v := .int .i64 0) (by simp [World.cell?_alloc_new])
  have k1 := below_cell hb1 (a := ⟨w.heap.size, 1, none⟩) (v := .string ⟨#[]⟩) (by simp [World.cell?_alloc_new])
  have f0 : w1.frozen? ⟨w.heap.size, 0, none⟩ = false := ((bcell hb1).2 _ _ (by simp)).trans (by simp [go_sem])
  have f1 : w1.frozen? ⟨w.heap.size, 1, none⟩ = false := ((bcell hb1).2 _ _ (by simp)).trans (by simp [go_sem])
  have hlt1 : w.heap.size < w1.heap.size := by have := hb1.size; simp at this; omega
  have hB1 := seqB (allocB (Below.refl _ _) _) hb1
  clear hb1
  rw [H1.out]
  clear H1
  have hts : (bytesOf (unstuff s.data.toList).1).size = (unstuff s.data.toList).1.length := bytesOf_size _
  go_wp2_with fail
  refine (unsum_any _ _ (by rw [bytesOf_size]; unfold maxLen; omega)).mono ?_
  rintro e w2 ⟨rfl, hb2⟩
  rw [bytesOf_toList]
  replace k0 := below_cell hb2 k0
  replace k1 := below_cell hb2 k1
  replace f0 := ((bcell hb2).2 _ _ hlt1).trans f0
  replace f1 := ((bcell hb2).2 _ _ hlt1).trans f1
  have hB2 := seqB hB1 hb2
  have hlt2 : w.heap.size < w2.heap.size := Nat.lt_of_lt_of_le hlt1 hb2.size
  clear hb2 hB1
  rw [H3.out]
  clear H3
  generalize (unstuff s.data.toList).1 = t at *
  go_wp2_with fail
  go_region
  have hrs : (bytesOf r).size = r.length := bytesOf_size r
  go_wp2_with fail
  refine (protoMay_any _ _).mono ?_
  rintro e w3 ⟨rfl, rfl⟩
  rw [H4.out]
  go_wp2_with fail
  refine bodyPost_ret (v := ansF (((c2.toNat * 256 + c3.toNat : Nat) : Int), r, (0 : Int))) (by simp [results, Tryz.results36, go_sem, k0, k1, ansF]; try rfl) rfl ⟨by rw [hr.out], ?_⟩
  exact drewB ((hB2.setCell (Nat.le_refl _) _).setCell (Nat.le_refl _) _)
theorem rget_any (s : ByteArray) (w : World) (hs : s.size ≤ 140737488355328) :
    Calls Tryz.prog 36 #[.string s] w fun e w' => e = .returned (ansF (unframe s.data.toList)) ∧ Below w.heap.size w w' := by
  by_cases h1 : (unstuff s.data.toList).2 = 0
  · by_cases h2 : (unstuff s.data.toList).1.length < 6
    · exact rget2 s w hs h1 h2
    · by_cases h3 : (chk (unstuff s.data.toList).1).2 = 0
      · obtain ⟨c0, c1, c2, c3, r, hu⟩ : ∃ c0 c1 c2 c3 r, (chk (unstuff s.data.toList).1).1 = c0 :: c1 :: c2 :: c3 :: r := by
          have hl := chk_ok (t := (unstuff s.data.toList).1) (by simp [h3])
          match h : (chk (unstuff s.data.toList).1).1 with
          | c0 :: c1 :: c2 :: c3 :: r => exact ⟨_, _, _, _, _, rfl⟩
          | [] | [_] | [_, _] | [_, _, _] => rw [h] at hl; simp at hl; omega
        have h3' : chk (unstuff s.data.toList).1 = (c0 :: c1 :: c2 :: c3 :: r, 0) := by rw [← hu, ← h3]
        by_cases h4 : c0 = 255
        · subst h4
          by_cases h5 : c1 = 3
          · subst h5
            cases h6 : protoOk ((c2.toNat : Int) * 256 + (c3.toNat : Int)) with
            | false => exact rget6 s w hs h1 h2 c2 c3 r h3' h6
            | true =>
              by_cases h7 : 2048 < r.length
              · exact rget7 s w hs h1 h2 c2 c3 r h3' h6 h7
              · exact rget8 s w hs h1 h2 c2 c3 r h3' h6 h7
          · exact rget5 s w hs h1 h2 c1 c2 c3 r h3' h5
        · exact rget4 s w hs h1 h2 c0 c1 c2 c3 r h3' h4
      · exact rget3 s w hs h1 h2 h3
  · exact rget1 s w hs h1
end Go.Proofs.YteigigepmoicaaaGreatDoor
