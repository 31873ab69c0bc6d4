/- The console's read: walked. -/
import Derived.Test.YteigigepmoicaaaGreatDoorCon9
import Derived.Test.YteigigepmoicaaaGreatDoorCon11
import Derived.Test.YteigigepmoicaaaGreatDoorFsmStep
namespace Go.Proofs.YteigigepmoicaaaGreatDoor
open Go.RowKit
set_option linter.unusedVariables false
set_option linter.unusedSimpArgs false
/-- a world's first blocks -/
def cutW (w : World) (n : Nat) : World := { w with heap := w.heap.extract 0 n }
theorem cutW_size {w : World} {n : Nat} (h : n ≤ w.heap.size) : (cutW w n).heap.size = n := by simp [cutW]; omega
theorem cutW_below {w : World} {n : Nat} (h : n ≤ w.heap.size) : Below (cutW w n).heap.size (cutW w n) w := by
  refine ⟨rfl, rfl, rfl, by rw [cutW_size h]; exact h, fun i hi => ?_⟩
  rw [cutW_size h] at hi
  rw [show (cutW w n).heap = w.heap.extract 0 n from rfl, Array.getElem?_extract, if_pos (by omega), Nat.zero_add]
theorem cutW_out {w0 w2 w5 : World} {n : Nat} (hn : n ≤ w2.heap.size) (h : Below (cutW w2 n).heap.size (cutW w2 n) w5) (h2 : Below w0.heap.size w0 w2) (h0 : w0.heap.size ≤ n) : Below w0.heap.size w0 w5 ∧ ∀ i, i < n → w5.heap[i]? = w2.heap[i]? := by
  have hs := cutW_size hn
  have hb := cutW_below hn
  rw [hs] at h hb
  have key : ∀ i, i < n → w5.heap[i]? = w2.heap[i]? := fun i hi => (h.block i hi).trans (hb.block i hi).symm
  refine ⟨⟨h.os.trans h2.os, h.tape.trans h2.tape, h.output.trans h2.output, ?_, fun i hi => (key i (by omega)).trans (h2.block i hi)⟩, key⟩
  have := h.size
  rw [hs] at this
  omega
theorem row_set {w : World} {base e size n : Nat} {v : Value} {xs : List Value} (h : w.ownsRow base e size v n xs) (p : Addr) (hp : p.block < base) (x : Value) : (w.setCell p x).ownsRow base e size v n xs := by
  refine ⟨h.1, ?_⟩
  rcases h.2 with h2 | ⟨g, cap, cur, hv, hg, hh, r⟩
  · exact .inl h2
  · exact .inr ⟨g, cap, cur, hv, hg, by rw [Below.heap_setCell _ _ _ _ (by omega)]; exact hh, r⟩
theorem box_cell {w : World} {p : Nat} {a b : Value} {t : TypeId} (h : w.heap[p]? = some (.cells #[a, b] t (0, 0))) : w.cell? ⟨p, 0, none⟩ = some a ∧ w.cell? ⟨p, 1, none⟩ = some b ∧ w.frozen? ⟨p, 0, none⟩ = false ∧ w.frozen? ⟨p, 1, none⟩ = false := by
  refine ⟨by simp [World.cell?, h], by simp [World.cell?, h], by simp [World.frozen?, h], by simp [World.frozen?, h]⟩
def readK (ks : List UInt8) (ws : List (List UInt8)) (k : Nat) (n : List Int) (b : List (List UInt8)) : Prop :=
  readM ks ws = match readM (ks.drop k) (ws.drop k) with
    | some (n', b') => some (n ++ n', b ++ b')
    | none => none
theorem readK_zero (ks : List UInt8) (ws : List (List UInt8)) : readK ks ws 0 [] [] := by
  unfold readK
  rw [List.drop_zero, List.drop_zero]
  cases readM ks ws <;> rfl
theorem readK_end {ks : List UInt8} {ws : List (List UInt8)} {k : Nat} {n : List Int} {b : List (List UInt8)} (h : readK ks ws k n b) (h1 : ks.length = k) (h2 : ws.length = k) : readM ks ws = some (n, b) := by
  unfold readK at h
  rw [List.drop_of_length_le (by omega), List.drop_of_length_le (by omega)] at h
  rw [h]
  simp [readM]
theorem readK_num {ks : List UInt8} {ws : List (List UInt8)} {k : Nat} {n : List Int} {b : List (List UInt8)} (h : readK ks ws k n b) (h1 : k < ks.length) (h2 : k < ws.length) (hk : ks[k] = 110) :
    (∀ x, numM ws[k] = some x → readK ks ws (k + 1) (n ++ [x]) b) ∧ (numM ws[k] = none → readM ks ws = none) := by
  unfold readK at h ⊢
  rw [List.drop_eq_getElem_cons h1, List.drop_eq_getElem_cons h2, readM, if_pos hk] at h
  constructor
  · intro x hx
    rw [hx] at h
    rw [h]
    cases readM (ks.drop (k + 1)) (ws.drop (k + 1)) with
    | none => rfl
    | some y => obtain ⟨n', b'⟩ := y; simp
  · intro hx
    rw [hx] at h
    rw [h]
theorem readK_hex {ks : List UInt8} {ws : List (List UInt8)} {k : Nat} {n : List Int} {b : List (List UInt8)} (h : readK ks ws k n b) (h1 : k < ks.length) (h2 : k < ws.length) (hk : ks[k] ≠ 110) :
    (∀ x, unhexM ws[k] = some x → readK ks ws (k + 1) n (b ++ [x])) ∧ (unhexM ws[k] = none → readM ks ws = none) := by
  unfold readK at h ⊢
  rw [List.drop_eq_getElem_cons h1, List.drop_eq_getElem_cons h2, readM, if_neg hk] at h
  constructor
  · intro x hx
    rw [hx] at h
    rw [h]
    cases readM (ks.drop (k + 1)) (ws.drop (k + 1)) with
    | none => rfl
    | some y => obtain ⟨n', b'⟩ := y; simp
  · intro hx
    rw [hx] at h
    rw [h]
def kindsGood (ks : List UInt8) : Prop := ks ≠ [] ∧ ks.length ≤ 4 ∧ ∀ i (h : i < ks.length), ks[i] ≠ 110 → i + 1 = ks.length
set_option maxRecDepth 100000 in
set_option maxHeartbeats 4000000 in
theorem read_any (S : ByteArray) (v : Value) (ws : List (List UInt8)) (w : World) (hv : TextsAt w v (ws.map bytesOf)) (hk : kindsGood S.data.toList) (hs : ∀ x ∈ ws, x.length ≤ 65536) (hwl : ws.length ≤ 65537) :
    Calls Tryz.prog 51 #[.string S, v] w fun e w' => ∃ p, e = .returned (.tuple #[.pointer (some ⟨p, 0, none⟩), .bool (readM S.data.toList ws).isSome]) ∧ (∀ n b, readM S.data.toList ws = some (n, b) → ArgsAt w' p n b) ∧ Below w.heap.size w w' := by
  obtain ⟨hk0, hk4, hkx⟩ := hk
  have hls : S.data.toList.length = S.size := len_toList S
  have hb0 : Below w.heap.size w (w.alloc (.cells #[.slice none 0 0, .slice none 0 0] 97)) := allocB (Below.refl _ _) _
  by_cases hl : ws.length = S.size
  case neg =>
    have HN : Hid (readM S.data.toList ws = none) := Lib.hid (readM_len _ _ (by rw [hls]; exact Ne.symm hl))
    obtain ⟨a, c, rfl⟩ : ∃ a c, v = .slice a ws.length c := by
      rcases hv with ⟨h0, rfl⟩ | ⟨g, o, c, rfl, _⟩
      · exact ⟨none, 0, by rw [← List.length_map (f := bytesOf), h0]; rfl⟩
      · exact ⟨_, c, by rw [List.length_map]⟩
    obtain ⟨n, hn⟩ : ∃ n, ws.length = n := ⟨_, rfl⟩
    rw [hn] at hl ⊢
    have hne : ((n : Int) != (S.size : Int)) = true := by rw [bne_iff_ne]; omega
    clear hl hn hv hls hkx hk0
    go_enter Tryz.func51, Tryz.ntmps51
    go_wp2_with fail
    go_ret2
    exact ⟨_, by rw [HN.out]; rfl, fun n b h => (by rw [HN.out] at h; cases h), hb0⟩
  case pos =>
    obtain ⟨g, o, c, rfl, hc⟩ : ∃ g o c, v = .slice (some ⟨g, o, none⟩) ws.length c ∧ ∀ j (h : j < ws.length), w.cell? ⟨g, o + j, none⟩ = some (.string (bytesOf ws[j])) := by
      rcases hv with ⟨h0, rfl⟩ | ⟨g, o, c, rfl, hcc⟩
      · exfalso
        have h1 : ws.length = 0 := by rw [← List.length_map (f := bytesOf), h0]; rfl
        exact hk0 (List.eq_nil_of_length_eq_zero (by rw [hls]; omega))
      · exact ⟨g, o, c, by rw [List.length_map], fun j h => by have := hcc j (by rw [List.length_map]; exact h); simpa using this⟩
    have hne : (((S.size : Nat) : Int) != (S.size : Int)) = false := by simp
    have HL := Lib.hid hl
    replace hc : ∀ j (h : j < S.size), w.cell? ⟨g, o + j, none⟩ = some (.string (bytesOf (ws[j]'(by omega)))) := fun j h => hc j (by omega)
    rw [hl]
    have hN4 : S.size ≤ 4 := by rw [← hls]; exact hk4
    clear hv
    have hbox : (w.alloc (.cells #[.slice none 0 0, .slice none 0 0] 97)).heap[w.heap.size]? = some (.cells #[.slice none 0 0, .slice none 0 0] 97 (0, 0)) := (MapKept.heap_alloc w _).1
    go_enter Tryz.func51, Tryz.ntmps51
    go_wp2_with fail
    go_loopw [23] (fun i wr => ∃ (k : Nat) (vn vb : Value) (nk : List Int) (bk : List (List UInt8)), i = .int .i64 k ∧ k ≤ S.size ∧ wr.heap[w.heap.size]? = some (.cells #[vn, vb] 97 (0, 0)) ∧ OwnI wr (w.heap.size + 1) vn nk ∧ nk.length ≤ k ∧ TextsAt wr vb (bk.map bytesOf) ∧ (k < S.size → vb = .slice none 0 0 ∧ bk = []) ∧ Hid (readK S.data.toList ws k nk bk) ∧ Below w.heap.size w wr) (fun i _ => S.size - (intOf i).toNat)
    case atStart => exact ⟨0, _, _, [], [], rfl, Nat.zero_le _, hbox, OwnI.nil _ _, Nat.zero_le _, .inl ⟨rfl, rfl⟩, fun _ => ⟨rfl, rfl⟩, Lib.hid (readK_zero _ _), hb0⟩
    case round =>
      obtain ⟨k, vn, vb, nk, bk, rfl, hkn, hbx, hn, hnl, hb, hvb, HR, hbl⟩ := hrel
      by_cases hlt : k < S.size
      · obtain ⟨rfl, rfl⟩ := hvb hlt
        have hlw : k < ws.length := by omega
        have hlk : k < S.data.toList.length := by omega
        obtain ⟨x, hx⟩ : ∃ x, ws[k] = x := ⟨_, rfl⟩
        have h1 := (hbl.cell (block_lt_of_cell (hc k hlt))).trans (hc k hlt)
        have hxs : x.length ≤ 65536 := by rw [← hx]; exact hs _ (List.getElem_mem _)
        simp only [hx] at h1
        have hbd : (bytesOf x).data.toList = x := rfl
        have hSk : S[k] = S.data.toList[k] := rfl
        by_cases hck : S[k] = 110
        · have hstep := readK_num HR.out hlk hlw (by rw [← hSk]; exact hck)
          rw [hx] at hstep
          obtain ⟨hst1, hst2⟩ := hstep
          have hnu := fun w => number_any (bytesOf x) w (by rw [bytesOf_size]; omega)
          rw [hbd] at hnu
          have hc110 : ((S[k].toNat : Int) == 110) = true := by rw [hck]; rfl
          cases hnx : numM x with
          | none =>
            rw [hnx] at hnu
            have HN : Hid (readM S.data.toList ws = none) := Lib.hid (hst2 hnx)
            clear hst1 hst2 hnx hck hSk hx
            go_wp2_with fail
            refine (hnu _).mono ?_
            rintro e w2 ⟨x0, rfl, -, hb2⟩
            go_wp2_with fail
            go_ret2
            exact ⟨_, by rw [HN.out]; rfl, fun n b h => (by rw [HN.out] at h; cases h), seqB hbl hb2⟩
          | some z =>
            rw [hnx] at hnu
            have HR2 := Lib.hid (hst1 z hnx)
            clear hst1 hst2 hnx hck hSk hx HR
            go_wp2_with fail
            refine (hnu _).mono ?_
            rintro e w2 ⟨x0, rfl, hx0, hb2⟩
            obtain rfl := hx0 z rfl
            clear hx0 hnu
            have hlt2 : w.heap.size < wr.heap.size := (Array.getElem?_eq_some_iff.1 hbx).1
            have hbx2 := (hb2.block _ hlt2).trans hbx
            have hBl2 := seqB hbl hb2
            have hn2 := hn.below hb2
            obtain ⟨bc0, bc1, bf0, bf1⟩ := box_cell hbx2
            have hlt3 : w.heap.size + 1 ≤ w2.heap.size := Nat.le_trans hlt2 hb2.size
            clear hbx hn hb hvb
            go_wp2_with (at_builtin; refine wpList_appI rfl _ _ rfl (cutW w2 (w.heap.size + 1)) _ nk x0 1 (by rw [cutW_size hlt3]; exact hn2) rfl rfl (by omega) (cutW_below hlt3) ?_; intro v' w5 hown3 hbl3; obtain ⟨va, vc, rfl⟩ := hown3.form; rw [cutW_size hlt3] at hown3; rw [List.length_append, List.length_singleton] at hown3; obtain ⟨hBl5, hkeep⟩ := cutW_out hlt3 hbl3 hBl2 (by omega); have hbx5 := (hkeep _ (by omega)).trans hbx2; obtain ⟨ec0, ec1, ef0, ef1⟩ := box_cell hbx5)
            go_roundw
            case rel =>
              exact ⟨k + 1, _, _, nk ++ [x0], [], by go_num, by omega, heap_setCell_same _ _ 0 _ _ _ hbx5, row_set hown3 ⟨w.heap.size, 0, none⟩ (by show w.heap.size < _; omega) _, by simp; omega, .inl ⟨rfl, rfl⟩, fun _ => ⟨rfl, rfl⟩, HR2, hBl5.setCell (Nat.le_refl _) _⟩
            case measure => simp [intOf]; omega
        · have hstep := readK_hex HR.out hlk hlw (by rw [← hSk]; exact hck)
          rw [hx] at hstep
          obtain ⟨hst1, hst2⟩ := hstep
          have hnu := fun w => unhex_any (bytesOf x) w (by rw [bytesOf_size]; omega)
          rw [hbd] at hnu
          have hlast := hkx k hlk (by rw [← hSk]; exact hck)
          rw [hls] at hlast
          have hc110 : ((S[k].toNat : Int) == 110) = false := by
            rw [beq_eq_false_iff_ne]
            intro e
            apply hck
            exact UInt8.toNat_inj.1 (by have : S[k].toNat = 110 := by omega
                                        rw [this]; rfl)
          cases hnx : unhexM x with
          | none =>
            rw [hnx] at hnu
            have HN : Hid (readM S.data.toList ws = none) := Lib.hid (hst2 hnx)
            clear hst1 hst2 hnx hck hSk hx hlast
            go_wp2_with fail
            refine (hnu _).mono ?_
            rintro e w2 ⟨x0, rfl, -, hb2⟩
            go_wp2_with fail
            go_ret2
            exact ⟨_, by rw [HN.out]; rfl, fun n b h => (by rw [HN.out] at h; cases h), seqB hbl hb2⟩
          | some z =>
            rw [hnx] at hnu
            have HR2 := Lib.hid (hst1 z hnx)
            have HL2 := Lib.hid hlast
            clear hst1 hst2 hnx hck hSk hx HR hlast
            go_wp2_with fail
            refine (hnu _).mono ?_
            rintro e w2 ⟨x0, rfl, hx0, hb2⟩
            obtain rfl := hx0 z rfl
            clear hx0 hnu
            have hlt2 : w.heap.size < wr.heap.size := (Array.getElem?_eq_some_iff.1 hbx).1
            have hbx2 := (hb2.block _ hlt2).trans hbx
            have hBl2 := seqB hbl hb2
            have hn2 := hn.below hb2
            obtain ⟨bc0, bc1, bf0, bf1⟩ := box_cell hbx2
            have hlt3 : w.heap.size + 1 ≤ w2.heap.size := Nat.le_trans hlt2 hb2.size
            clear hbx hn hb hvb
            go_wp2_with (at_builtin; refine wpList_appT rfl _ _ rfl w2 _ [] (bytesOf x0) 1 (OwnT.nil _ _) rfl rfl (by simp) (Below.refl _ _) ?_; intro v' w5 hown3 hbl3; obtain ⟨va, vc, rfl⟩ := hown3.form; have hbx5 := (hbl3.block _ hlt3).trans hbx2; obtain ⟨ec0, ec1, ef0, ef1⟩ := box_cell hbx5)
            go_roundw
            case rel =>
              have hq := fun u => OwnT.at (w := w5.setCell ⟨w.heap.size, 1, none⟩ u) (base := w2.heap.size) (l := [bytesOf x0]) (row_set hown3 ⟨w.heap.size, 1, none⟩ (by show w.heap.size < _; omega) u)
              exact ⟨k + 1, vn, _, nk, [x0], by go_num, by omega, heap_setCell_same _ _ 1 _ _ _ hbx5, row_set (hn2.below hbl3) ⟨w.heap.size, 1, none⟩ (by show w.heap.size < _; omega) _, by omega, hq _, fun h => absurd HL2.out (by omega), HR2, (seqB hBl2 hbl3).setCell (Nat.le_refl _) _⟩
            case measure => simp [intOf]; omega
      · obtain rfl : k = S.size := by omega
        have HN := Lib.hid (readK_end HR.out hls HL.out)
        clear HR
        obtain ⟨bc0, bc1, bf0, bf1⟩ := box_cell hbx
        go_wp2_with fail
        go_ret2
        exact ⟨w.heap.size, by rw [HN.out]; rfl, fun n b h => (by rw [HN.out] at h; cases h; exact ⟨vn, vb, bc0, bc1, hn.at, hb⟩), hbl⟩
end Go.Proofs.YteigigepmoicaaaGreatDoor
