/- The law's tells: walked. -/
import Derived.Test.YteigigepmoicaaaGreatDoorCon27
import Derived.Test.YteigigepmoicaaaGreatDoorFrameRef
import Derived.Test.YteigigepmoicaaaGreatDoorMd5Q
import Derived.Test.YteigigepmoicaaaGreatDoorCon15
import Derived.Test.YteigigepmoicaaaGreatDoorCon11
import Derived.Test.YteigigepmoicaaaGreatDoorCon10
namespace Go.Proofs.YteigigepmoicaaaGreatDoor
open Go.RowKit Go.Crc
set_option linter.unusedVariables false
set_option linter.unusedSimpArgs false
def tellT (ws : List (List UInt8)) : List UInt8 := if skipB ws then [] else tellsL ws
theorem tframe_err (p : Int) (d : List UInt8) : 0 ≤ (frameT p d 0).2 ∧ (frameT p d 0).2 ≤ 9999 := by
  unfold frameT
  split
  · decide
  · split
    · decide
    · exact ⟨Int.le_refl _, by show (0 : Int) ≤ 9999; decide⟩
theorem unframe_cat (p t : List UInt8) : bytesOf p ++ (⟨#[32]⟩ : ByteArray) ++ bytesOf t = bytesOf (p ++ [32] ++ t) := by
  rw [show (⟨#[32]⟩ : ByteArray) = bytesOf [32] from rfl, bytesOf_append, bytesOf_append]
theorem words_facts (s : ByteArray) (hs : s.size ≤ 65536) {ws : List (List UInt8)} (hws : wordsM s.data.toList = ws) : (∀ x ∈ ws, x.length ≤ 65536) ∧ ws.length ≤ 65537 := by
  subst hws
  have hl := len_toList s
  refine ⟨fun x hx => ?_, ?_⟩
  · have := wordsC_size s.data.toList [] x hx
    simp only [List.length_nil] at this; omega
  · have := wordsC_done s.data.toList
    omega
theorem lit_ne {n l : List UInt8} (h : n ≠ l) : ((bytesOf n).toList == l) = false := by
  rw [ba_toList]
  exact beq_eq_false_iff_ne.2 h
set_option maxRecDepth 100000 in
set_option maxHeartbeats 4000000 in
theorem ltells_nil (s : ByteArray) (w : World) (hs : s.size ≤ 65536) (hws : wordsM s.data.toList = []) :
    Calls Tryz.prog 14 #[.string s] w fun e w' => e = .returned (.tuple #[.string (bytesOf ([])), .bool false]) ∧ Below w.heap.size w w' := by
  have hw := lwords_any s w hs
  obtain ⟨hwl, hwn⟩ := words_facts s hs hws
  rw [hws] at hw
  clear hws
  go_enter Tryz.func14, Tryz.ntmps14
  go_wp2_with fail
  refine hw.mono ?_
  rintro e w1 ⟨v, rfl, hown, hb1⟩
  obtain ⟨va, vc, hv⟩ := hown.form
  rw [show (([] : List (List UInt8)).map bytesOf).length = 0 from rfl] at hv
  subst hv
  clear hown hw
  go_wp2_with fail
  go_ret2
  exact ⟨rfl, hb1⟩
set_option maxRecDepth 100000 in
set_option maxHeartbeats 4000000 in
theorem ltells_rem (s : ByteArray) (w : World) (hs : s.size ≤ 65536) (t : List UInt8) (r : List (List UInt8)) (hws : wordsM s.data.toList = (35 :: t) :: r) :
    Calls Tryz.prog 14 #[.string s] w fun e w' => e = .returned (.tuple #[.string (bytesOf ([])), .bool false]) ∧ Below w.heap.size w w' := by
  have hw := lwords_any s w hs
  obtain ⟨hwl, hwn⟩ := words_facts s hs hws
  rw [hws] at hw
  clear hws
  obtain ⟨X, hX⟩ : ∃ X, bytesOf (35 :: t) = X := ⟨_, rfl⟩
  have hXs : 0 < X.size := by rw [← hX, bytesOf_size]; simp
  have hX0 : X[0].toNat = 35 := by subst hX; rfl
  have hcmp : ((X[0].toNat : Int) == 35) = true := by rw [hX0]; rfl
  go_enter Tryz.func14, Tryz.ntmps14
  go_wp2_with fail
  refine hw.mono ?_
  rintro e w1 ⟨v, rfl, hown, hb1⟩
  obtain ⟨A, c, rfl, hin⟩ := wordsIn_of hown (by simp)
  clear hown hw
  have c0 : w1.cell? ⟨A, 0, none⟩ = some (.string X) := by rw [← hX]; exact hin 0 (by simp)
  have hlen : ((((35 :: t) :: r).length : Int) == 0) = false := by rw [beq_eq_false_iff_ne]; simp; omega
  have hlp : 0 < ((35 :: t) :: r).length := by simp
  obtain ⟨n, hn⟩ : ∃ n, ((35 :: t) :: r).length = n := ⟨_, rfl⟩
  rw [hn] at hlen hlp ⊢
  have hni : (0 : Int) < n := by omega
  clear hin hX hX0 hn
  go_wp2_with fail
  go_ret2
  exact ⟨rfl, hb1⟩
set_option maxRecDepth 100000 in
set_option maxHeartbeats 4000000 in
theorem ltells_fsm (s : ByteArray) (w : World) (hs : s.size ≤ 65536) (r : List (List UInt8)) (P : List UInt8) (hC : ∀ A c w, WordsIn w A (nFsm :: r) → Calls Tryz.prog 32 #[.slice (some ⟨A, 0, none⟩) (r.length + 1) c] w fun e w' => e = .returned (.string (bytesOf P)) ∧ Below w.heap.size w w') (hws : wordsM s.data.toList = nFsm :: r) :
    Calls Tryz.prog 14 #[.string s] w fun e w' => e = .returned (.tuple #[.string (bytesOf (P)), .bool true]) ∧ Below w.heap.size w w' := by
  have hw := lwords_any s w hs
  obtain ⟨hwl, hwn⟩ := words_facts s hs hws
  rw [hws] at hw
  clear hws
  go_enter Tryz.func14, Tryz.ntmps14
  go_wp2_with fail
  refine hw.mono ?_
  rintro e w1 ⟨v, rfl, hown, hb1⟩
  obtain ⟨A, c, rfl, hin⟩ := wordsIn_of hown (by simp)
  clear hown hw
  have hCw := hC A c w1 hin
  have c0 : w1.cell? ⟨A, 0, none⟩ = some (.string ⟨#[102, 115, 109]⟩) := hin 0 (by simp)
  rw [show (nFsm :: r).length = r.length + 1 from rfl]
  have hlen : (((r.length + 1 : Nat) : Int) == 0) = false := by rw [beq_eq_false_iff_ne]; omega
  have hni : (0 : Int) < ((r.length + 1 : Nat) : Int) := by omega
  obtain ⟨n, hn⟩ : ∃ n, r.length + 1 = n := ⟨_, rfl⟩
  rw [hn] at hlen hni hCw ⊢
  have hnp : 0 < n := by omega
  clear hin hC hn hwl hwn
  go_wp2_with fail
  refine hCw.mono ?_
  rintro e w2 ⟨rfl, hb2⟩
  go_wp2_with fail
  go_ret2
  exact ⟨rfl, seqB hb1 hb2⟩
set_option maxRecDepth 100000 in
set_option maxHeartbeats 4000000 in
theorem ltells_delay (s : ByteArray) (w : World) (hs : s.size ≤ 65536) (r : List (List UInt8)) (P : List UInt8) (hC : ∀ A c w, WordsIn w A (nDelay :: r) → Calls Tryz.prog 32 #[.slice (some ⟨A, 0, none⟩) (r.length + 1) c] w fun e w' => e = .returned (.string (bytesOf P)) ∧ Below w.heap.size w w') (hws : wordsM s.data.toList = nDelay :: r) :
    Calls Tryz.prog 14 #[.string s] w fun e w' => e = .returned (.tuple #[.string (bytesOf (P)), .bool true]) ∧ Below w.heap.size w w' := by
  have hw := lwords_any s w hs
  obtain ⟨hwl, hwn⟩ := words_facts s hs hws
  rw [hws] at hw
  clear hws
  go_enter Tryz.func14, Tryz.ntmps14
  go_wp2_with fail
  refine hw.mono ?_
  rintro e w1 ⟨v, rfl, hown, hb1⟩
  obtain ⟨A, c, rfl, hin⟩ := wordsIn_of hown (by simp)
  clear hown hw
  have hCw := hC A c w1 hin
  have c0 : w1.cell? ⟨A, 0, none⟩ = some (.string ⟨#[100, 101, 108, 97, 121]⟩) := hin 0 (by simp)
  rw [show (nDelay :: r).length = r.length + 1 from rfl]
  have hlen : (((r.length + 1 : Nat) : Int) == 0) = false := by rw [beq_eq_false_iff_ne]; omega
  have hni : (0 : Int) < ((r.length + 1 : Nat) : Int) := by omega
  obtain ⟨n, hn⟩ : ∃ n, r.length + 1 = n := ⟨_, rfl⟩
  rw [hn] at hlen hni hCw ⊢
  have hnp : 0 < n := by omega
  clear hin hC hn hwl hwn
  go_wp2_with fail
  refine hCw.mono ?_
  rintro e w2 ⟨rfl, hb2⟩
  go_wp2_with fail
  go_ret2
  exact ⟨rfl, seqB hb1 hb2⟩
set_option maxRecDepth 100000 in
set_option maxHeartbeats 4000000 in
theorem ltells_target (s : ByteArray) (w : World) (hs : s.size ≤ 65536) (r : List (List UInt8)) (P : List UInt8) (hC : ∀ A c w, WordsIn w A (nTarget :: r) → Calls Tryz.prog 32 #[.slice (some ⟨A, 0, none⟩) (r.length + 1) c] w fun e w' => e = .returned (.string (bytesOf P)) ∧ Below w.heap.size w w') (hws : wordsM s.data.toList = nTarget :: r) :
    Calls Tryz.prog 14 #[.string s] w fun e w' => e = .returned (.tuple #[.string (bytesOf (P)), .bool true]) ∧ Below w.heap.size w w' := by
  have hw := lwords_any s w hs
  obtain ⟨hwl, hwn⟩ := words_facts s hs hws
  rw [hws] at hw
  clear hws
  go_enter Tryz.func14, Tryz.ntmps14
  go_wp2_with fail
  refine hw.mono ?_
  rintro e w1 ⟨v, rfl, hown, hb1⟩
  obtain ⟨A, c, rfl, hin⟩ := wordsIn_of hown (by simp)
  clear hown hw
  have hCw := hC A c w1 hin
  have c0 : w1.cell? ⟨A, 0, none⟩ = some (.string ⟨#[116, 97, 114, 103, 101, 116]⟩) := hin 0 (by simp)
  rw [show (nTarget :: r).length = r.length + 1 from rfl]
  have hlen : (((r.length + 1 : Nat) : Int) == 0) = false := by rw [beq_eq_false_iff_ne]; omega
  have hni : (0 : Int) < ((r.length + 1 : Nat) : Int) := by omega
  obtain ⟨n, hn⟩ : ∃ n, r.length + 1 = n := ⟨_, rfl⟩
  rw [hn] at hlen hni hCw ⊢
  have hnp : 0 < n := by omega
  clear hin hC hn hwl hwn
  go_wp2_with fail
  refine hCw.mono ?_
  rintro e w2 ⟨rfl, hb2⟩
  go_wp2_with fail
  go_ret2
  exact ⟨rfl, seqB hb1 hb2⟩
set_option maxRecDepth 100000 in
set_option maxHeartbeats 4000000 in
theorem ltells_frame_len (s : ByteArray) (w : World) (hs : s.size ≤ 65536) (r : List (List UInt8)) (hr : r.length ≠ 2) (hws : wordsM s.data.toList = nFrame :: r) :
    Calls Tryz.prog 14 #[.string s] w fun e w' => e = .returned (.tuple #[.string (bytesOf (errW 2800)), .bool true]) ∧ Below w.heap.size w w' := by
  have hw := lwords_any s w hs
  obtain ⟨hwl, hwn⟩ := words_facts s hs hws
  rw [hws] at hw
  clear hws
  go_enter Tryz.func14, Tryz.ntmps14
  go_wp2_with fail
  refine hw.mono ?_
  rintro e w1 ⟨v, rfl, hown, hb1⟩
  obtain ⟨A, c, rfl, hin⟩ := wordsIn_of hown (by simp)
  clear hown hw
  have c0 : w1.cell? ⟨A, 0, none⟩ = some (.string ⟨#[102, 114, 97, 109, 101]⟩) := hin 0 (by simp)
  rw [show (nFrame :: r).length = r.length + 1 from rfl]
  have hlen : (((r.length + 1 : Nat) : Int) == 0) = false := by rw [beq_eq_false_iff_ne]; omega
  have hni : (0 : Int) < ((r.length + 1 : Nat) : Int) := by omega
  have hn3 : (((r.length + 1 : Nat) : Int) != 3) = true := by rw [bne_iff_ne]; omega
  obtain ⟨n, hn⟩ : ∃ n, r.length + 1 = n := ⟨_, rfl⟩
  rw [hn] at hlen hni hn3 ⊢
  have hnp : 0 < n := by omega
  clear hin hn hwl hwn
  go_wp2_with fail
  go_ret2
  exact ⟨rfl, hb1⟩
set_option maxRecDepth 100000 in
set_option maxHeartbeats 4000000 in
theorem ltells_frame_num (s : ByteArray) (w : World) (hs : s.size ≤ 65536) (a t : List UInt8) (ha : numM a = none) (hws : wordsM s.data.toList = [nFrame, a, t]) :
    Calls Tryz.prog 14 #[.string s] w fun e w' => e = .returned (.tuple #[.string (bytesOf (errW 2800)), .bool true]) ∧ Below w.heap.size w w' := by
  have hw := lwords_any s w hs
  obtain ⟨hwl, hwn⟩ := words_facts s hs hws
  rw [hws] at hw
  clear hws
  have hd := fun w => ldecimal_any (bytesOf a) w (by rw [bytesOf_size]; have := hwl a (by simp); omega)
  have hh := fun w => lbytes_any (bytesOf t) w (by rw [bytesOf_size]; have := hwl t (by simp); omega)
  rw [show (bytesOf a).data.toList = a from rfl, ha] at hd
  rw [show (bytesOf t).data.toList = t from rfl, show unhexM t = unhexM t from rfl] at hh
  clear ha
  obtain ⟨B, hB⟩ : ∃ B, (unhexM t).isSome = B := ⟨_, rfl⟩
  rw [hB] at hh
  clear hB
  go_enter Tryz.func14, Tryz.ntmps14
  go_wp2_with fail
  refine hw.mono ?_
  rintro e w1 ⟨v, rfl, hown, hb1⟩
  obtain ⟨A, c, rfl, hin⟩ := wordsIn_of hown (by simp)
  clear hown hw
  have c0 : w1.cell? ⟨A, 0, none⟩ = some (.string ⟨#[102, 114, 97, 109, 101]⟩) := hin 0 (by simp)
  have c1 : w1.cell? ⟨A, 1, none⟩ = some (.string (bytesOf a)) := hin 1 (by simp)
  have c2 : w1.cell? ⟨A, 2, none⟩ = some (.string (bytesOf t)) := hin 2 (by simp)
  rw [show [nFrame, a, t].length = 3 from rfl]
  clear hin hwl hwn
  go_wp2_with fail
  refine (hd _).mono ?_
  rintro e w2 ⟨p, rfl, hp, rfl⟩
  go_wp2_with fail
  refine (hh _).mono ?_
  rintro e w3 ⟨d, rfl, hdd, hb3⟩
  have hB3 := seqB hb1 hb3
  clear hp hdd
  go_wp2_with fail
  go_ret2
  exact ⟨rfl, hB3⟩
set_option maxRecDepth 100000 in
set_option maxHeartbeats 4000000 in
theorem ltells_frame_hex (s : ByteArray) (w : World) (hs : s.size ≤ 65536) (a t : List UInt8) (x : Int) (ha : numM a = some x) (ht : unhexM t = none) (hws : wordsM s.data.toList = [nFrame, a, t]) :
    Calls Tryz.prog 14 #[.string s] w fun e w' => e = .returned (.tuple #[.string (bytesOf (errW 2800)), .bool true]) ∧ Below w.heap.size w w' := by
  have hw := lwords_any s w hs
  obtain ⟨hwl, hwn⟩ := words_facts s hs hws
  rw [hws] at hw
  clear hws
  have hd := fun w => ldecimal_any (bytesOf a) w (by rw [bytesOf_size]; have := hwl a (by simp); omega)
  have hh := fun w => lbytes_any (bytesOf t) w (by rw [bytesOf_size]; have := hwl t (by simp); omega)
  rw [show (bytesOf a).data.toList = a from rfl, ha] at hd
  rw [show (bytesOf t).data.toList = t from rfl, ht] at hh
  clear ha ht
  go_enter Tryz.func14, Tryz.ntmps14
  go_wp2_with fail
  refine hw.mono ?_
  rintro e w1 ⟨v, rfl, hown, hb1⟩
  obtain ⟨A, c, rfl, hin⟩ := wordsIn_of hown (by simp)
  clear hown hw
  have c0 : w1.cell? ⟨A, 0, none⟩ = some (.string ⟨#[102, 114, 97, 109, 101]⟩) := hin 0 (by simp)
  have c1 : w1.cell? ⟨A, 1, none⟩ = some (.string (bytesOf a)) := hin 1 (by simp)
  have c2 : w1.cell? ⟨A, 2, none⟩ = some (.string (bytesOf t)) := hin 2 (by simp)
  rw [show [nFrame, a, t].length = 3 from rfl]
  clear hin hwl hwn
  go_wp2_with fail
  refine (hd _).mono ?_
  rintro e w2 ⟨p, rfl, hp, rfl⟩
  go_wp2_with fail
  refine (hh _).mono ?_
  rintro e w3 ⟨d, rfl, hdd, hb3⟩
  have hB3 := seqB hb1 hb3
  clear hp hdd
  go_wp2_with fail
  go_ret2
  exact ⟨rfl, hB3⟩
set_option maxRecDepth 100000 in
set_option maxHeartbeats 4000000 in
theorem ltells_frame_err (s : ByteArray) (w : World) (hs : s.size ≤ 65536) (a t : List UInt8) (x : Int) (y : List UInt8) (ha : numM a = some x) (ht : unhexM t = some y) (he : (frameT x y 0).2 ≠ 0) (hws : wordsM s.data.toList = [nFrame, a, t]) :
    Calls Tryz.prog 14 #[.string s] w fun e w' => e = .returned (.tuple #[.string (bytesOf (errW (frameT x y 0).2)), .bool true]) ∧ Below w.heap.size w w' := by
  have hw := lwords_any s w hs
  obtain ⟨hwl, hwn⟩ := words_facts s hs hws
  rw [hws] at hw
  clear hws
  have hd := fun w => ldecimal_any (bytesOf a) w (by rw [bytesOf_size]; have := hwl a (by simp); omega)
  have hh := fun w => lbytes_any (bytesOf t) w (by rw [bytesOf_size]; have := hwl t (by simp); omega)
  rw [show (bytesOf a).data.toList = a from rfl, ha] at hd
  rw [show (bytesOf t).data.toList = t from rfl, ht] at hh
  have hyl := unhex_len ht
  have htl := hwl t (by simp)
  have hf := fun w => rframe_any x (bytesOf y) 0 w (by rw [bytesOf_size]; unfold maxLen; omega)
  rw [show (bytesOf y).data.toList = y from rfl] at hf
  have hfe := tframe_err x y
  have hfl := frameT_len x y 0
  obtain ⟨⟨T, E⟩, hF⟩ : ∃ F, frameT x y 0 = F := ⟨_, rfl⟩
  rw [hF] at hf he hfe hfl ⊢
  dsimp only at hf he hfe hfl ⊢
  clear ha ht hF
  have hE : (E != 0) = true := by rw [bne_iff_ne]; exact he
  have hwr := fun w => wrong_any E hfe.1 (by omega) w
  clear he
  go_enter Tryz.func14, Tryz.ntmps14
  go_wp2_with fail
  refine hw.mono ?_
  rintro e w1 ⟨v, rfl, hown, hb1⟩
  obtain ⟨A, c, rfl, hin⟩ := wordsIn_of hown (by simp)
  clear hown hw
  have c0 : w1.cell? ⟨A, 0, none⟩ = some (.string ⟨#[102, 114, 97, 109, 101]⟩) := hin 0 (by simp)
  have c1 : w1.cell? ⟨A, 1, none⟩ = some (.string (bytesOf a)) := hin 1 (by simp)
  have c2 : w1.cell? ⟨A, 2, none⟩ = some (.string (bytesOf t)) := hin 2 (by simp)
  rw [show [nFrame, a, t].length = 3 from rfl]
  clear hin hwl hwn
  go_wp2_with fail
  refine (hd _).mono ?_
  rintro e w2 ⟨p, rfl, hp, rfl⟩
  go_wp2_with fail
  refine (hh _).mono ?_
  rintro e w3 ⟨d, rfl, hdd, hb3⟩
  have hB3 := seqB hb1 hb3
  obtain rfl := hp x rfl
  obtain rfl := hdd y rfl
  clear hp hdd
  go_wp2_with fail
  refine (hf _).mono ?_
  rintro e w4 ⟨rfl, hb4⟩
  have hB4 := seqB hB3 hb4
  go_wp2_with fail
  refine (hwr _).mono ?_
  rintro e w5 ⟨rfl, hb5⟩
  go_wp2_with fail
  go_ret2
  exact ⟨rfl, seqB hB4 hb5⟩
set_option maxRecDepth 100000 in
set_option maxHeartbeats 4000000 in
theorem ltells_frame_ok (s : ByteArray) (w : World) (hs : s.size ≤ 65536) (a t : List UInt8) (x : Int) (y : List UInt8) (ha : numM a = some x) (ht : unhexM t = some y) (he : (frameT x y 0).2 = 0) (hws : wordsM s.data.toList = [nFrame, a, t]) :
    Calls Tryz.prog 14 #[.string s] w fun e w' => e = .returned (.tuple #[.string (bytesOf (hexM (frameT x y 0).1)), .bool true]) ∧ Below w.heap.size w w' := by
  have hw := lwords_any s w hs
  obtain ⟨hwl, hwn⟩ := words_facts s hs hws
  rw [hws] at hw
  clear hws
  have hd := fun w => ldecimal_any (bytesOf a) w (by rw [bytesOf_size]; have := hwl a (by simp); omega)
  have hh := fun w => lbytes_any (bytesOf t) w (by rw [bytesOf_size]; have := hwl t (by simp); omega)
  rw [show (bytesOf a).data.toList = a from rfl, ha] at hd
  rw [show (bytesOf t).data.toList = t from rfl, ht] at hh
  have hyl := unhex_len ht
  have htl := hwl t (by simp)
  have hf := fun w => rframe_any x (bytesOf y) 0 w (by rw [bytesOf_size]; unfold maxLen; omega)
  rw [show (bytesOf y).data.toList = y from rfl] at hf
  have hfe := tframe_err x y
  have hfl := frameT_len x y 0
  obtain ⟨⟨T, E⟩, hF⟩ : ∃ F, frameT x y 0 = F := ⟨_, rfl⟩
  rw [hF] at hf he hfe hfl ⊢
  dsimp only at hf he hfe hfl ⊢
  clear ha ht hF
  subst he
  have hx := fun w => lhex_any (bytesOf T) w (by rw [bytesOf_size]; omega)
  rw [show (bytesOf T).data.toList = T from rfl] at hx
  go_enter Tryz.func14, Tryz.ntmps14
  go_wp2_with fail
  refine hw.mono ?_
  rintro e w1 ⟨v, rfl, hown, hb1⟩
  obtain ⟨A, c, rfl, hin⟩ := wordsIn_of hown (by simp)
  clear hown hw
  have c0 : w1.cell? ⟨A, 0, none⟩ = some (.string ⟨#[102, 114, 97, 109, 101]⟩) := hin 0 (by simp)
  have c1 : w1.cell? ⟨A, 1, none⟩ = some (.string (bytesOf a)) := hin 1 (by simp)
  have c2 : w1.cell? ⟨A, 2, none⟩ = some (.string (bytesOf t)) := hin 2 (by simp)
  rw [show [nFrame, a, t].length = 3 from rfl]
  clear hin hwl hwn
  go_wp2_with fail
  refine (hd _).mono ?_
  rintro e w2 ⟨p, rfl, hp, rfl⟩
  go_wp2_with fail
  refine (hh _).mono ?_
  rintro e w3 ⟨d, rfl, hdd, hb3⟩
  have hB3 := seqB hb1 hb3
  obtain rfl := hp x rfl
  obtain rfl := hdd y rfl
  clear hp hdd
  go_wp2_with fail
  refine (hf _).mono ?_
  rintro e w4 ⟨rfl, hb4⟩
  have hB4 := seqB hB3 hb4
  go_wp2_with fail
  refine (hx _).mono ?_
  rintro e w5 ⟨rfl, hb5⟩
  go_wp2_with fail
  go_ret2
  exact ⟨rfl, seqB hB4 hb5⟩
set_option maxRecDepth 100000 in
set_option maxHeartbeats 4000000 in
theorem ltells_len (s : ByteArray) (w : World) (hs : s.size ≤ 65536) (c0 : UInt8) (t0 : List UInt8) (r : List (List UInt8)) (h35 : c0 ≠ 35) (h0 : (c0 :: t0) ≠ nFsm) (h1 : (c0 :: t0) ≠ nDelay) (h2 : (c0 :: t0) ≠ nTarget) (h3 : (c0 :: t0) ≠ nFrame) (hr : r.length ≠ 1) (hws : wordsM s.data.toList = (c0 :: t0) :: r) :
    Calls Tryz.prog 14 #[.string s] w fun e w' => e = .returned (.tuple #[.string (bytesOf (errW 2800)), .bool true]) ∧ Below w.heap.size w w' := by
  have hw := lwords_any s w hs
  obtain ⟨hwl, hwn⟩ := words_facts s hs hws
  rw [hws] at hw
  clear hws
  have q0 : ((bytesOf (c0 :: t0)).toList == [102, 115, 109]) = false := lit_ne h0
  have q1 : ((bytesOf (c0 :: t0)).toList == [100, 101, 108, 97, 121]) = false := lit_ne h1
  have q2 : ((bytesOf (c0 :: t0)).toList == [116, 97, 114, 103, 101, 116]) = false := lit_ne h2
  have q3 : ((bytesOf (c0 :: t0)).toList == [102, 114, 97, 109, 101]) = false := lit_ne h3
  obtain ⟨X, hX⟩ : ∃ X, bytesOf (c0 :: t0) = X := ⟨_, rfl⟩
  have hXs : 0 < X.size := by rw [← hX, bytesOf_size]; simp
  have hX0 : X[0] = c0 := by subst hX; rfl
  have hcmp : ((X[0].toNat : Int) == 35) = false := by
    rw [hX0, beq_eq_false_iff_ne]
    intro e
    exact h35 (UInt8.toNat_inj.1 (by have : c0.toNat = 35 := by omega
                                     rw [this]; rfl))
  rw [hX] at q0 q1 q2 q3
  go_enter Tryz.func14, Tryz.ntmps14
  go_wp2_with fail
  refine hw.mono ?_
  rintro e w1 ⟨v, rfl, hown, hb1⟩
  obtain ⟨A, c, rfl, hin⟩ := wordsIn_of hown (by simp)
  clear hown hw
  have cc : w1.cell? ⟨A, 0, none⟩ = some (.string X) := by rw [← hX]; exact hin 0 (by simp)
  rw [show ((c0 :: t0) :: r).length = r.length + 1 from rfl]
  have hlen : (((r.length + 1 : Nat) : Int) == 0) = false := by rw [beq_eq_false_iff_ne]; omega
  have hni : (0 : Int) < ((r.length + 1 : Nat) : Int) := by omega
  have hn3 : (((r.length + 1 : Nat) : Int) != 2) = true := by rw [bne_iff_ne]; omega
  obtain ⟨n, hn⟩ : ∃ n, r.length + 1 = n := ⟨_, rfl⟩
  rw [hn] at hlen hni hn3 ⊢
  have hnp : 0 < n := by omega
  clear hin hn hwl hwn hX hX0 h35 h0 h1 h2 h3
  go_wp2_with fail
  go_ret2
  exact ⟨rfl, hb1⟩
set_option maxRecDepth 100000 in
set_option maxHeartbeats 4000000 in
theorem ltells_hex (s : ByteArray) (w : World) (hs : s.size ≤ 65536) (c0 : UInt8) (t0 a : List UInt8) (h35 : c0 ≠ 35) (h0 : (c0 :: t0) ≠ nFsm) (h1 : (c0 :: t0) ≠ nDelay) (h2 : (c0 :: t0) ≠ nTarget) (h3 : (c0 :: t0) ≠ nFrame) (ha : unhexM a = none) (hws : wordsM s.data.toList = [c0 :: t0, a]) :
    Calls Tryz.prog 14 #[.string s] w fun e w' => e = .returned (.tuple #[.string (bytesOf (errW 2800)), .bool true]) ∧ Below w.heap.size w w' := by
  have hw := lwords_any s w hs
  obtain ⟨hwl, hwn⟩ := words_facts s hs hws
  rw [hws] at hw
  clear hws
  have q0 : ((bytesOf (c0 :: t0)).toList == [102, 115, 109]) = false := lit_ne h0
  have q1 : ((bytesOf (c0 :: t0)).toList == [100, 101, 108, 97, 121]) = false := lit_ne h1
  have q2 : ((bytesOf (c0 :: t0)).toList == [116, 97, 114, 103, 101, 116]) = false := lit_ne h2
  have q3 : ((bytesOf (c0 :: t0)).toList == [102, 114, 97, 109, 101]) = false := lit_ne h3
  obtain ⟨X, hX⟩ : ∃ X, bytesOf (c0 :: t0) = X := ⟨_, rfl⟩
  have hXs : 0 < X.size := by rw [← hX, bytesOf_size]; simp
  have hX0 : X[0] = c0 := by subst hX; rfl
  have hcmp : ((X[0].toNat : Int) == 35) = false := by
    rw [hX0, beq_eq_false_iff_ne]
    intro e
    exact h35 (UInt8.toNat_inj.1 (by have : c0.toNat = 35 := by omega
                                     rw [this]; rfl))
  rw [hX] at q0 q1 q2 q3
  have hal := hwl a (by simp)
  have hh := fun w => lbytes_any (bytesOf a) w (by rw [bytesOf_size]; omega)
  rw [show (bytesOf a).data.toList = a from rfl, ha] at hh
  clear ha
  go_enter Tryz.func14, Tryz.ntmps14
  go_wp2_with fail
  refine hw.mono ?_
  rintro e w1 ⟨v, rfl, hown, hb1⟩
  obtain ⟨A, c, rfl, hin⟩ := wordsIn_of hown (by simp)
  clear hown hw
  have cc : w1.cell? ⟨A, 0, none⟩ = some (.string X) := by rw [← hX]; exact hin 0 (by simp)
  have c1 : w1.cell? ⟨A, 1, none⟩ = some (.string (bytesOf a)) := hin 1 (by simp)
  rw [show [c0 :: t0, a].length = 2 from rfl]
  clear hin hwl hwn hX hX0 h35 h0 h1 h2 h3
  go_wp2_with fail
  refine (hh _).mono ?_
  rintro e w3 ⟨d, rfl, hdd, hb3⟩
  have hB3 := seqB hb1 hb3
  have cc3 := (hb3.cell (block_lt_of_cell cc)).trans cc
  clear hdd
  go_wp2_with fail
  go_ret2
  exact ⟨rfl, hB3⟩
set_option maxRecDepth 100000 in
set_option maxHeartbeats 4000000 in
theorem ltells_none (s : ByteArray) (w : World) (hs : s.size ≤ 65536) (c0 : UInt8) (t0 a : List UInt8) (h35 : c0 ≠ 35) (h0 : (c0 :: t0) ≠ nFsm) (h1 : (c0 :: t0) ≠ nDelay) (h2 : (c0 :: t0) ≠ nTarget) (h3 : (c0 :: t0) ≠ nFrame) (h4 : (c0 :: t0) ≠ nFcs) (h5 : (c0 :: t0) ≠ nMd5) (h6 : (c0 :: t0) ≠ nUnframe) (y : List UInt8) (ha : unhexM a = some y) (hws : wordsM s.data.toList = [c0 :: t0, a]) :
    Calls Tryz.prog 14 #[.string s] w fun e w' => e = .returned (.tuple #[.string (bytesOf (errW 2800)), .bool true]) ∧ Below w.heap.size w w' := by
  have hw := lwords_any s w hs
  obtain ⟨hwl, hwn⟩ := words_facts s hs hws
  rw [hws] at hw
  clear hws
  have q0 : ((bytesOf (c0 :: t0)).toList == [102, 115, 109]) = false := lit_ne h0
  have q1 : ((bytesOf (c0 :: t0)).toList == [100, 101, 108, 97, 121]) = false := lit_ne h1
  have q2 : ((bytesOf (c0 :: t0)).toList == [116, 97, 114, 103, 101, 116]) = false := lit_ne h2
  have q3 : ((bytesOf (c0 :: t0)).toList == [102, 114, 97, 109, 101]) = false := lit_ne h3
  have q4 : ((bytesOf (c0 :: t0)).toList == [102, 99, 115]) = false := lit_ne h4
  have q5 : ((bytesOf (c0 :: t0)).toList == [109, 100, 53]) = false := lit_ne h5
  have q6 : ((bytesOf (c0 :: t0)).toList == [117, 110, 102, 114, 97, 109, 101]) = false := lit_ne h6
  obtain ⟨X, hX⟩ : ∃ X, bytesOf (c0 :: t0) = X := ⟨_, rfl⟩
  have hXs : 0 < X.size := by rw [← hX, bytesOf_size]; simp
  have hX0 : X[0] = c0 := by subst hX; rfl
  have hcmp : ((X[0].toNat : Int) == 35) = false := by
    rw [hX0, beq_eq_false_iff_ne]
    intro e
    exact h35 (UInt8.toNat_inj.1 (by have : c0.toNat = 35 := by omega
                                     rw [this]; rfl))
  rw [hX] at q0 q1 q2 q3 q4 q5 q6
  have hal := hwl a (by simp)
  have hh := fun w => lbytes_any (bytesOf a) w (by rw [bytesOf_size]; omega)
  rw [show (bytesOf a).data.toList = a from rfl, ha] at hh
  clear ha
  go_enter Tryz.func14, Tryz.ntmps14
  go_wp2_with fail
  refine hw.mono ?_
  rintro e w1 ⟨v, rfl, hown, hb1⟩
  obtain ⟨A, c, rfl, hin⟩ := wordsIn_of hown (by simp)
  clear hown hw
  have cc : w1.cell? ⟨A, 0, none⟩ = some (.string X) := by rw [← hX]; exact hin 0 (by simp)
  have c1 : w1.cell? ⟨A, 1, none⟩ = some (.string (bytesOf a)) := hin 1 (by simp)
  rw [show [c0 :: t0, a].length = 2 from rfl]
  clear hin hwl hwn hX hX0 h35 h0 h1 h2 h3
  go_wp2_with fail
  refine (hh _).mono ?_
  rintro e w3 ⟨d, rfl, hdd, hb3⟩
  have hB3 := seqB hb1 hb3
  have cc3 := (hb3.cell (block_lt_of_cell cc)).trans cc
  clear hdd
  go_wp2_with fail
  go_ret2
  exact ⟨rfl, hB3⟩
set_option maxRecDepth 100000 in
set_option maxHeartbeats 4000000 in
theorem ltells_fcs (s : ByteArray) (w : World) (hs : s.size ≤ 65536) (a y : List UInt8) (ha : unhexM a = some y) (hws : wordsM s.data.toList = [nFcs, a]) :
    Calls Tryz.prog 14 #[.string s] w fun e w' => e = .returned (.tuple #[.string (bytesOf (itoaM (fcs y))), .bool true]) ∧ Below w.heap.size w w' := by
  have hw := lwords_any s w hs
  obtain ⟨hwl, hwn⟩ := words_facts s hs hws
  rw [hws] at hw
  clear hws
  have hal := hwl a (by simp)
  have hh := fun w => lbytes_any (bytesOf a) w (by rw [bytesOf_size]; omega)
  rw [show (bytesOf a).data.toList = a from rfl, ha] at hh
  have hyl := unhex_len ha
  have hf := fun w => rfcs_any (bytesOf y) w (by rw [bytesOf_size]; unfold maxLen; omega)
  rw [show (bytesOf y).data.toList = y from rfl] at hf
  have hfl := fcs_lt y
  have hd := fun w => decimal_any (fcs y) (by omega) (by omega) w
  clear ha
  go_enter Tryz.func14, Tryz.ntmps14
  go_wp2_with fail
  refine hw.mono ?_
  rintro e w1 ⟨v, rfl, hown, hb1⟩
  obtain ⟨A, c, rfl, hin⟩ := wordsIn_of hown (by simp)
  clear hown hw
  have cc : w1.cell? ⟨A, 0, none⟩ = some (.string ⟨#[102, 99, 115]⟩) := hin 0 (by simp)
  have c1 : w1.cell? ⟨A, 1, none⟩ = some (.string (bytesOf a)) := hin 1 (by simp)
  rw [show [nFcs, a].length = 2 from rfl]
  clear hin hwl hwn
  go_wp2_with fail
  refine (hh _).mono ?_
  rintro e w3 ⟨d, rfl, hdd, hb3⟩
  obtain rfl := hdd y rfl
  have hB3 := seqB hb1 hb3
  have cc3 := (hb3.cell (block_lt_of_cell cc)).trans cc
  clear hdd
  go_wp2_with fail
  refine (hf _).mono ?_
  rintro e w4 ⟨rfl, rfl⟩
  go_wp2_with fail
  refine (hd _).mono ?_
  rintro e w5 ⟨rfl, hb5⟩
  go_wp2_with fail
  go_ret2
  exact ⟨rfl, seqB hB3 hb5⟩
set_option maxRecDepth 100000 in
set_option maxHeartbeats 4000000 in
theorem ltells_md5 (s : ByteArray) (w : World) (hs : s.size ≤ 65536) (a y : List UInt8) (ha : unhexM a = some y) (hws : wordsM s.data.toList = [nMd5, a]) :
    Calls Tryz.prog 14 #[.string s] w fun e w' => e = .returned (.tuple #[.string (bytesOf (hexM (md5M y))), .bool true]) ∧ Below w.heap.size w w' := by
  have hw := lwords_any s w hs
  obtain ⟨hwl, hwn⟩ := words_facts s hs hws
  rw [hws] at hw
  clear hws
  have hal := hwl a (by simp)
  have hh := fun w => lbytes_any (bytesOf a) w (by rw [bytesOf_size]; omega)
  rw [show (bytesOf a).data.toList = a from rfl, ha] at hh
  have hyl := unhex_len ha
  have hf := fun w => rmd5_any (bytesOf y) w (by rw [bytesOf_size]; omega)
  rw [show (bytesOf y).data.toList = y from rfl] at hf
  have hml : (md5M y).length = 16 := rfl
  have hd := fun w => lhex_any (bytesOf (md5M y)) w (by rw [bytesOf_size, hml]; decide)
  rw [show (bytesOf (md5M y)).data.toList = md5M y from rfl] at hd
  obtain ⟨M, hM⟩ : ∃ M, md5M y = M := ⟨_, rfl⟩
  rw [hM] at hf hd ⊢
  clear ha hM hml
  go_enter Tryz.func14, Tryz.ntmps14
  go_wp2_with fail
  refine hw.mono ?_
  rintro e w1 ⟨v, rfl, hown, hb1⟩
  obtain ⟨A, c, rfl, hin⟩ := wordsIn_of hown (by simp)
  clear hown hw
  have cc : w1.cell? ⟨A, 0, none⟩ = some (.string ⟨#[109, 100, 53]⟩) := hin 0 (by simp)
  have c1 : w1.cell? ⟨A, 1, none⟩ = some (.string (bytesOf a)) := hin 1 (by simp)
  rw [show [nMd5, a].length = 2 from rfl]
  clear hin hwl hwn
  go_wp2_with fail
  refine (hh _).mono ?_
  rintro e w3 ⟨d, rfl, hdd, hb3⟩
  obtain rfl := hdd y rfl
  have hB3 := seqB hb1 hb3
  have cc3 := (hb3.cell (block_lt_of_cell cc)).trans cc
  clear hdd
  go_wp2_with fail
  refine (hf _).mono ?_
  rintro e w4 ⟨rfl, hb4⟩
  go_wp2_with fail
  refine (hd _).mono ?_
  rintro e w5 ⟨rfl, hb5⟩
  go_wp2_with fail
  go_ret2
  exact ⟨rfl, seqB (seqB hB3 hb4) hb5⟩
set_option maxRecDepth 100000 in
set_option maxHeartbeats 4000000 in
theorem ltells_unframe_err (s : ByteArray) (w : World) (hs : s.size ≤ 65536) (a y : List UInt8) (ha : unhexM a = some y) (he : (unframe y).2.2 ≠ 0) (hws : wordsM s.data.toList = [nUnframe, a]) :
    Calls Tryz.prog 14 #[.string s] w fun e w' => e = .returned (.tuple #[.string (bytesOf (errW (unframe y).2.2)), .bool true]) ∧ Below w.heap.size w w' := by
  have hw := lwords_any s w hs
  obtain ⟨hwl, hwn⟩ := words_facts s hs hws
  rw [hws] at hw
  clear hws
  have hal := hwl a (by simp)
  have hh := fun w => lbytes_any (bytesOf a) w (by rw [bytesOf_size]; omega)
  rw [show (bytesOf a).data.toList = a from rfl, ha] at hh
  have hyl := unhex_len ha
  have hf := fun w => rget_any (bytesOf y) w (by rw [bytesOf_size]; omega)
  rw [show (bytesOf y).data.toList = y from rfl] at hf
  have hur := unframe_range y
  have hus := unframe_size y
  have hue := unframe_err y
  obtain ⟨⟨p, t, E⟩, hF⟩ : ∃ F, unframe y = F := ⟨_, rfl⟩
  rw [hF] at hf he hur hus hue ⊢
  dsimp only [ansF] at hf he hur hus hue ⊢
  clear ha hF
  have hE : (E != 0) = true := by rw [bne_iff_ne]; exact he
  have hwr := fun w => wrong_any E hue.1 (by omega) w
  clear he
  go_enter Tryz.func14, Tryz.ntmps14
  go_wp2_with fail
  refine hw.mono ?_
  rintro e w1 ⟨v, rfl, hown, hb1⟩
  obtain ⟨A, c, rfl, hin⟩ := wordsIn_of hown (by simp)
  clear hown hw
  have cc : w1.cell? ⟨A, 0, none⟩ = some (.string ⟨#[117, 110, 102, 114, 97, 109, 101]⟩) := hin 0 (by simp)
  have c1 : w1.cell? ⟨A, 1, none⟩ = some (.string (bytesOf a)) := hin 1 (by simp)
  rw [show [nUnframe, a].length = 2 from rfl]
  clear hin hwl hwn
  go_wp2_with fail
  refine (hh _).mono ?_
  rintro e w3 ⟨d, rfl, hdd, hb3⟩
  obtain rfl := hdd y rfl
  have hB3 := seqB hb1 hb3
  have cc3 := (hb3.cell (block_lt_of_cell cc)).trans cc
  clear hdd
  go_wp2_with fail
  refine (hf _).mono ?_
  rintro e w4 ⟨rfl, hb4⟩
  go_wp2_with fail
  refine (hwr _).mono ?_
  rintro e w5 ⟨rfl, hb5⟩
  go_wp2_with fail
  go_ret2
  exact ⟨rfl, seqB (allocB (seqB hB3 hb4) _) hb5⟩
set_option maxRecDepth 100000 in
set_option maxHeartbeats 4000000 in
theorem ltells_unframe_ok (s : ByteArray) (w : World) (hs : s.size ≤ 65536) (a y : List UInt8) (ha : unhexM a = some y) (he : (unframe y).2.2 = 0) (hws : wordsM s.data.toList = [nUnframe, a]) :
    Calls Tryz.prog 14 #[.string s] w fun e w' => e = .returned (.tuple #[.string (bytesOf (itoaM (unframe y).1 ++ [32] ++ hexM (unframe y).2.1)), .bool true]) ∧ Below w.heap.size w w' := by
  have hw := lwords_any s w hs
  obtain ⟨hwl, hwn⟩ := words_facts s hs hws
  rw [hws] at hw
  clear hws
  have hal := hwl a (by simp)
  have hh := fun w => lbytes_any (bytesOf a) w (by rw [bytesOf_size]; omega)
  rw [show (bytesOf a).data.toList = a from rfl, ha] at hh
  have hyl := unhex_len ha
  have hf := fun w => rget_any (bytesOf y) w (by rw [bytesOf_size]; omega)
  rw [show (bytesOf y).data.toList = y from rfl] at hf
  have hur := unframe_range y
  have hus := unframe_size y
  have hue := unframe_err y
  obtain ⟨⟨p, t, E⟩, hF⟩ : ∃ F, unframe y = F := ⟨_, rfl⟩
  rw [hF] at hf he hur hus hue ⊢
  dsimp only [ansF] at hf he hur hus hue ⊢
  clear ha hF
  subst he
  have hd := fun w => decimal_any p hur.1 (by omega) w
  have hx := fun w => lhex_any (bytesOf t) w (by rw [bytesOf_size]; omega)
  rw [show (bytesOf t).data.toList = t from rfl] at hx
  have hcat := unframe_cat (itoaM p) (hexM t)
  have l1 := itoa_len' p
  have l2 := hexM_len t
  have z1 : (bytesOf (itoaM p)).size ≤ 21 := by rw [bytesOf_size]; exact l1
  have z2 : (bytesOf (hexM t)).size ≤ 5000 := by rw [bytesOf_size]; omega
  obtain ⟨P, hP⟩ : ∃ P, bytesOf (itoaM p) = P := ⟨_, rfl⟩
  obtain ⟨T, hT⟩ : ∃ T, bytesOf (hexM t) = T := ⟨_, rfl⟩
  rw [hP] at hcat hd z1
  rw [hT] at hcat hx z2
  have HC := Lib.hid hcat
  have z3 : ¬ 9223372036854775807 < P.size + 1 := by omega
  have z4 : ¬ 9223372036854775807 < P.size + 1 + T.size := by omega
  have z5 : ¬ 9223372036854775807 < (P ++ (⟨#[32]⟩ : ByteArray)).size + T.size := by rw [ByteArray.size_append]; show ¬ _ < P.size + 1 + T.size; omega
  clear hcat l1 l2 hP hT
  go_enter Tryz.func14, Tryz.ntmps14
  go_wp2_with fail
  refine hw.mono ?_
  rintro e w1 ⟨v, rfl, hown, hb1⟩
  obtain ⟨A, c, rfl, hin⟩ := wordsIn_of hown (by simp)
  clear hown hw
  have cc : w1.cell? ⟨A, 0, none⟩ = some (.string ⟨#[117, 110, 102, 114, 97, 109, 101]⟩) := hin 0 (by simp)
  have c1 : w1.cell? ⟨A, 1, none⟩ = some (.string (bytesOf a)) := hin 1 (by simp)
  rw [show [nUnframe, a].length = 2 from rfl]
  clear hin hwl hwn
  go_wp2_with fail
  refine (hh _).mono ?_
  rintro e w3 ⟨d, rfl, hdd, hb3⟩
  obtain rfl := hdd y rfl
  have hB3 := seqB hb1 hb3
  have cc3 := (hb3.cell (block_lt_of_cell cc)).trans cc
  clear hdd
  go_wp2_with fail
  refine (hf _).mono ?_
  rintro e w4 ⟨rfl, hb4⟩
  go_wp2_with fail
  have hB4 := allocB (seqB hB3 hb4) (Obj.cells #[.int .i64 p, .string (bytesOf t)] 69)
  have d0 : (w4.alloc (Obj.cells #[.int .i64 p, .string (bytesOf t)] 69)).cell? ⟨w4.heap.size, 0, none⟩ = some (.int .i64 p) := by rw [World.cell?_alloc_new]; rfl
  have d1 : (w4.alloc (Obj.cells #[.int .i64 p, .string (bytesOf t)] 69)).cell? ⟨w4.heap.size, 1, none⟩ = some (.string (bytesOf t)) := by rw [World.cell?_alloc_new]; rfl
  obtain ⟨V, hV⟩ : ∃ V, w4.alloc (Obj.cells #[.int .i64 p, .string (bytesOf t)] 69) = V := ⟨_, rfl⟩
  rw [hV] at hB4 d0 d1 ⊢
  obtain ⟨B, hBB⟩ : ∃ B, w4.heap.size = B := ⟨_, rfl⟩
  rw [hBB] at d0 d1 ⊢
  clear hV hb4 hBB
  refine wp_schedL (fun w' => w'.cell? ⟨B, 0, none⟩ = some (.int .i64 p) ∧ w'.cell? ⟨B, 1, none⟩ = some (.string (bytesOf t))) [(0, true), (1, true), (4, true), (5, true), (2, false), (3, true), (6, false), (7, true), (8, true), (9, true)] (by kernel_rfl) (by kernel_rfl) rfl (by kernel_rfl) (by kernel_rfl) ⟨d0, d1⟩ (fun _ d _ _ _ h => by cases d <;> exact h) ?_
  simp only [schedOps, List.filterMap_cons, List.filterMap_nil, List.getElem?_toArray, List.getElem?_cons_zero, List.getElem?_cons_succ, Option.map_some]
  repeat (first | (refine' wpSched_take _ (by rfl) (fun wS hS => ?_) ?_; rotate_left; (focus (obtain ⟨j0, j1⟩ := hS; go_simp; first | done | rfl)); (try simp only [Act.put, List.setIfInBounds_toArray, List.set_cons_zero, List.set_cons_succ])) | (refine wpSched_skip (by rfl) ?_; try simp only [Act.put, List.setIfInBounds_toArray, List.set_cons_zero, List.set_cons_succ]))
  refine wpSched_run (fun K hK => ?_)
  go_wp2_with (go_at_call 15; refine (hd _).mono ?_; rintro e w5 ⟨rfl, hb5⟩)
  have gg := fun {x : Addr} {v : Value} (h : V.cell? x = some v) => fsm_below_cell (W := V.drew) hb5 h
  refine QRun_normal (hK.out _ _ ⟨gg d0, gg d1⟩ ?_)
  clear hK K
  have d05 := gg d0
  have d15 := gg d1
  repeat (first | (refine' wpSched_take _ (by rfl) (fun wS hS => ?_) ?_; rotate_left; (focus (obtain ⟨j0, j1⟩ := hS; go_simp; first | done | rfl)); (try simp only [Act.put, List.setIfInBounds_toArray, List.set_cons_zero, List.set_cons_succ])) | (refine wpSched_skip (by rfl) ?_; try simp only [Act.put, List.setIfInBounds_toArray, List.set_cons_zero, List.set_cons_succ]))
  refine wpSched_run (fun K hK => ?_)
  go_wp2_with (go_at_call 16; refine (hx _).mono ?_; rintro e w6 ⟨rfl, hb6⟩)
  have g6 := fun {x : Addr} {v : Value} (h : w5.cell? x = some v) => fsm_below_cell (W := w5) hb6 h
  refine QRun_normal (hK.out _ _ ⟨g6 d05, g6 d15⟩ ?_)
  clear hK K
  repeat (first | (refine' wpSched_take _ (by rfl) (fun wS hS => ?_) ?_; rotate_left; (focus (obtain ⟨j0, j1⟩ := hS; go_simp; first | done | rfl)); (try simp only [Act.put, List.setIfInBounds_toArray, List.set_cons_zero, List.set_cons_succ])) | (refine wpSched_skip (by rfl) ?_; try simp only [Act.put, List.setIfInBounds_toArray, List.set_cons_zero, List.set_cons_succ]))
  refine wpSched_done ?_
  go_wp2_with fail
  go_ret2
  exact ⟨by rw [← HC.out]; rfl, seqB (seqB hB4.drew hb5) hb6⟩
end Go.Proofs.YteigigepmoicaaaGreatDoor
