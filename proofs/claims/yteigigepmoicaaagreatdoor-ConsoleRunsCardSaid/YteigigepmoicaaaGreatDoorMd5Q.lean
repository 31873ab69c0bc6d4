/- The reference's MD5: Md5: walked. -/
import Derived.Test.YteigigepmoicaaaGreatDoorMd5S
import Derived.Test.YteigigepmoicaaaGreatDoorAppC
namespace Go.Proofs.YteigigepmoicaaaGreatDoor
open Go.RowKit
set_option linter.unusedVariables false
set_option linter.unusedSimpArgs false
def initI : List Int := [1732584193, 4023233417, 2562383102, 271733878]
theorem init_at (w : World) : HAt (w.alloc (.cells (initI.map (Value.int .u32)).toArray 73)) w.heap.size mdInit := by
  refine ⟨fun j hj => ?_, fun j hj => by simp [go_sem]⟩
  rw [World.cell?_alloc_new]
  match j, hj with
  | 0, _ => rfl
  | 1, _ => rfl
  | 2, _ => rfl
  | 3, _ => rfl
theorem sines_at (w : World) : ∀ i, i < 64 → (w.alloc (.cells (sinesI.map (Value.int .u32)).toArray 73)).cell? ⟨w.heap.size, i, none⟩ = some (.int .u32 (sinesT.getD i 0 : Int)) := by
  intro i hi
  have hl : sinesI.length = 64 := rfl
  rw [row_at w .u32 sinesI _ i (by omega)]
  have hl2 : sinesT.length = 64 := rfl
  simp only [sinesI, List.getElem_map]
  rw [List.getD_eq_getElem?_getD, List.getElem?_eq_getElem (by omega)]
  rfl
theorem tail_at8 (n : Nat) : mdTail n = (List.range 8).map fun i => UInt8.ofNat (n / 256 ^ i % 256) := by
  simp [mdTail, List.range, List.range.loop]
def outW (S : MdS) (k : Nat) : List UInt8 := (List.range k).flatMap fun q => le4 (hcell S q)
theorem outW_more (S : MdS) (k : Nat) : outW S (k + 1) = outW S k ++ le4 (hcell S k) := by
  unfold outW
  rw [List.range_succ, List.flatMap_append]
  simp
theorem outW_length (S : MdS) : ∀ k, (outW S k).length = 4 * k
  | 0 => rfl
  | k + 1 => by rw [outW_more, List.length_append, outW_length S k]; simp [le4]; omega
theorem hcell_lt (S : MdS) (i : Nat) (h : S.ok) : hcell S i < 4294967296 := by
  obtain ⟨h1, h2, h3, h4⟩ := h
  unfold hcell
  split
  · exact h1
  · split
    · exact h2
    · split
      · exact h3
      · exact h4
theorem le4_take (x j : Nat) (h : j < 4) : (le4 x).take (j + 1) = (le4 x).take j ++ [UInt8.ofNat (x / 256 ^ j % 256)] := by
  obtain rfl | rfl | rfl | rfl : j = 0 ∨ j = 1 ∨ j = 2 ∨ j = 3 := by omega
  · simp [le4]
  · simp [le4]
  · simp [le4]
  · simp [le4]
def lenOfV : Value → Nat
  | .slice _ n _ => n
  | _ => 0
def padTo (s : List UInt8) (j : Nat) : List UInt8 := s ++ 128 :: List.replicate j 0
theorem padTo_more (s : List UInt8) (j : Nat) : padTo s j ++ [0] = padTo s (j + 1) := by
  simp [padTo, List.replicate_succ']
theorem padTo_length (s : List UInt8) (j : Nat) : (padTo s j).length = s.length + 1 + j := by simp [padTo]; omega
def lenTo (s : List UInt8) (z n k : Nat) : List UInt8 := padTo s z ++ (List.range k).map fun i => UInt8.ofNat (n / 256 ^ i % 256)
theorem lenTo_more (s : List UInt8) (z n k : Nat) : lenTo s z n k ++ [UInt8.ofNat (n / 256 ^ k % 256)] = lenTo s z n (k + 1) := by
  unfold lenTo
  rw [List.range_succ, List.map_append, List.append_assoc]
  rfl
theorem lenTo_length (s : List UInt8) (z n k : Nat) : (lenTo s z n k).length = s.length + 1 + z + k := by
  unfold lenTo
  rw [List.length_append, padTo_length]
  simp
theorem lenTo_all (s : List UInt8) : lenTo s (mdZeros s.length) (8 * s.length) 8 = mdPad s := by
  unfold lenTo mdPad padTo
  rw [tail_at8]
theorem byte_wrap (x : Nat) : IntKind.u8.wrap ((x % 256 : Nat) : Int) = ((UInt8.ofNat (x % 256)).toNat : Int) := by
  rw [IntKind.wrap_u8, UInt8.toNat_ofNat', Nat.mod_mod_of_dvd _ (by decide)]
  omega
theorem byte_and (X k : Nat) (h : X < 9223372036854775808) : IntKind.u8.wrap (bits BinOp.and IntKind.u64 ((X : Int) / 2 ^ (8 * k)) 255) = ((UInt8.ofNat (X / 256 ^ k % 256)).toNat : Int) := by
  have e : (X : Int) / 2 ^ (8 * k) = ((X / 256 ^ k : Nat) : Int) := by
    rw [Int.natCast_ediv, Int.natCast_pow, Int.pow_mul]
    rfl
  have hle : X / 256 ^ k ≤ X := Nat.div_le_self _ _
  have := bits_and_u64_nat (X / 256 ^ k) 255 (by omega) (by decide)
  rw [show ((255 : Nat) : Int) = 255 from rfl] at this
  rw [e, this, show (255 : Nat) = 2 ^ 8 - 1 from rfl, Nat.and_two_pow_sub_one_eq_mod]
  exact byte_wrap _
theorem byte_and32 (X k : Nat) (h : X < 4294967296) : IntKind.u8.wrap (bits BinOp.and IntKind.u32 ((X : Int) / 2 ^ (8 * k)) 255) = ((UInt8.ofNat (X / 256 ^ k % 256)).toNat : Int) := by
  have e : (X : Int) / 2 ^ (8 * k) = ((X / 256 ^ k : Nat) : Int) := by
    rw [Int.natCast_ediv, Int.natCast_pow, Int.pow_mul]
    rfl
  have hle : X / 256 ^ k ≤ X := Nat.div_le_self _ _
  have := u32_and_nat (X / 256 ^ k) 255 (by omega) (by decide)
  rw [show ((255 : Nat) : Int) = 255 from rfl] at this
  rw [e, this, show (255 : Nat) = 2 ^ 8 - 1 from rfl, Nat.and_two_pow_sub_one_eq_mod]
  exact byte_wrap _
theorem byte_cell1 (X k : Nat) : #[Value.int IntKind.u8 ((X : Int) / 256 ^ k % 256)] = (Lib.byteCells [UInt8.ofNat (X / 256 ^ k % 256)]).toArray := by
  have h : ((UInt8.ofNat (X / 256 ^ k % 256)).toNat : Int) = (X : Int) / 256 ^ k % 256 := by
    rw [UInt8.toNat_ofNat', Nat.mod_mod_of_dvd _ (by decide), Int.natCast_emod, Int.natCast_ediv, Int.natCast_pow]
    rfl
  simp only [Lib.byteCells, List.map_cons, List.map_nil]
  rw [h]
set_option maxRecDepth 100000 in
set_option maxHeartbeats 8000000 in
theorem rmd5_any (s : ByteArray) (w : World) (hs : s.size ≤ 1000000) :
    Calls Tryz.prog 19 #[.string s] w fun e w' => e = .returned (.string (bytesOf (md5M s.data.toList))) ∧ Below w.heap.size w w' := by
  have hl := len_toList s
  have hsn := fun w => rsines_any w
  go_enter Tryz.func19, Tryz.ntmps19
  go_wp2_with (refine wpList_buildFlat rfl 74 73 4 _ rfl .u32 initI Tryz.underlying74 rfl rfl rfl (by decide) (by decide) (by kernel_rfl) ?_)
  refine (hsn _).mono ?_
  rintro e w1 ⟨rfl, hw1⟩
  have hinit := init_at w
  have hsz1 : (w.alloc (.cells (initI.map (Value.int .u32)).toArray 73)).heap.size = w.heap.size + 1 := Array.size_push _
  have hsin := sines_at (w.alloc (.cells (initI.map (Value.int .u32)).toArray 73))
  have hB1 : Below w.heap.size w w1 := by rw [hw1]; exact allocB (allocB (Below.refl _ _) _) _
  rw [← hw1, hsz1] at hsin
  have hin1 : HAt w1 w.heap.size mdInit := by
    have hb : Below (w.alloc (.cells (initI.map (Value.int .u32)).toArray 73)).heap.size (w.alloc (.cells (initI.map (Value.int .u32)).toArray 73)) w1 := by rw [hw1]; exact allocB (Below.refl _ _) _
    exact hinit.only (S := fun _ => False) (Only.ofBelow hb) (fun h => h)
  have hsz2 : w1.heap.size = w.heap.size + 2 := by rw [hw1]; simp
  obtain ⟨p, hp⟩ : ∃ p, w.heap.size = p := ⟨_, rfl⟩
  rw [hp] at hsin hin1 hsz2 hsz1 ⊢
  rw [hsz1]
  have HSZ := Lib.hid hsz2
  clear hinit hw1 hsz1 hsn hsz2
  have hcv := run_bytes_of_string (P := Tryz.prog) w1 9 27 5 s rfl Tryz.underlying27 rfl
  have hownc := OwnC.conv w1.drew s w1.heap.size (Nat.le_refl _) hs w1
  have hbc : Below w1.heap.size w1 (w1.drew.alloc (.cells (bytesRow s (grownCap w1 s.size 0 5)) 5 ((bytesRow s (grownCap w1 s.size 0 5)).size, (bytesRow s (grownCap w1 s.size 0 5)).size + 1))) := allocB (Below.refl _ _).drew _
  obtain ⟨V, hV⟩ : ∃ V, w1.drew.alloc (.cells (bytesRow s (grownCap w1 s.size 0 5)) 5 ((bytesRow s (grownCap w1 s.size 0 5)).size, (bytesRow s (grownCap w1 s.size 0 5)).size + 1)) = V := ⟨_, rfl⟩
  obtain ⟨G, hG⟩ : ∃ G, grownCap w1 s.size 0 5 = G := ⟨_, rfl⟩
  rw [hV, hG] at hcv
  rw [hV, hG] at hownc
  rw [hV] at hbc
  have hb1 : (w1.drew).heap.size = w1.heap.size := rfl
  rw [hb1] at hownc
  clear hV hG hb1
  go_wp2_with (at_builtin; refine wpList_appC rfl _ _ rfl w1 _ s.data.toList [128] 1 _ _ hownc rfl rfl rfl rfl (by decide) (by simp; omega) hbc ?_; intro v' w2 hown2 hbl2)
  have hp0 : OwnC w2 w1.heap.size v' (padTo s.data.toList 0) := hown2
  obtain ⟨z, hz⟩ : ∃ z, mdZeros s.size = z := ⟨_, rfl⟩
  have hz64 : z < 64 := by rw [← hz]; exact Nat.mod_lt _ (by decide)
  have HZ : Hid (z = (119 - s.size % 64) % 64) := Lib.hid hz.symm
  obtain ⟨L, hL⟩ : ∃ L, s.data.toList = L := ⟨_, rfl⟩
  rw [hL] at hp0 hl
  have HSL := Lib.hid hL
  have HLZ : Hid (mdZeros L.length = z) := Lib.hid (by rw [hl]; exact hz)
  have HL := Lib.hid hl
  clear hownc hown2 hcv hbc hz hL hl
  go_loopw [5] (fun v wr => ∃ j : Nat, j ≤ z ∧ OwnC wr w1.heap.size v (padTo L j) ∧ Below w1.heap.size w1 wr) (fun v _ => 2000000 - lenOfV v)
  case atStart => exact ⟨0, Nat.zero_le _, hp0, hbl2⟩
  case round =>
    clear hp0 hbl2
    obtain ⟨j, hj, hown, hbl⟩ := hrel
    obtain ⟨g, c, hv, hc1, hc2⟩ := hown.form
    have hn := padTo_length L j
    rw [HL.out] at hn
    subst hv
    obtain ⟨n, hnn⟩ : ∃ n, (padTo L j).length = n := ⟨_, rfl⟩
    rw [hnn] at hn hc1 hown ⊢
    have htm : (n : Int).tmod 64 = ((n % 64 : Nat) : Int) := by rw [Int.tmod_eq_emod_of_nonneg (by omega)]; omega
    obtain ⟨r, hr⟩ : ∃ r, n % 64 = r := ⟨_, rfl⟩
    rw [hr] at htm
    have HN := Lib.hid hnn
    have HNE := Lib.hid hn
    have HR := Lib.hid hr
    have hnU : n ≤ 1000100 := by omega
    clear hn hr
    by_cases hlt : j < z
    · have hr56 : r ≠ 56 := by have := HZ.out; have := HNE.out; have := HR.out; omega
      have hri : ((r : Int) != 56) = true := by rw [bne_iff_ne]; omega
      have hlen : (padTo L j).length + 1 ≤ 140737488355328 := by rw [hnn]; omega
      have HLEN := Lib.hid hlen
      clear hlen hnn
      go_wp2_with (at_builtin; refine wpList_appC rfl _ _ rfl w1 _ _ [0] 1 _ _ hown rfl rfl rfl rfl (by decide) HLEN.out hbl ?_; intro v' w3 hown3 hbl3)
      go_roundw
      case rel => exact ⟨j + 1, hlt, by rw [← padTo_more]; exact hown3, hbl3⟩
      case measure =>
        obtain ⟨g3, c3, rfl, _, _⟩ := hown3.form
        simp only [lenOfV, List.length_append, List.length_cons, List.length_nil, HN.out]
        omega
    · obtain rfl : j = z := by omega
      have hr56 : r = 56 := by have := HZ.out; have := HNE.out; have := HR.out; omega
      have hri : ((r : Int) != 56) = false := by rw [hr56]; rfl
      clear hr56 hlt hnn
      go_wp2_with fail
      obtain ⟨X, hX⟩ : ∃ X, 8 * s.size = X := ⟨_, rfl⟩
      have hXi : (s.size : Int) * 8 = (X : Int) := by omega
      have hXU : X ≤ 8000000 := by omega
      have hp8 : OwnC wr w1.heap.size (.slice (some ⟨g, 0, none⟩) n c) (lenTo L j X 0) := by
        have e : lenTo L j X 0 = padTo L j := by simp [lenTo]
        rw [e]; exact hown
      have HX := Lib.hid hX
      rw [hXi]
      clear hX hXi hown hc1 hc2
      go_loopw [5, 7] (fun v i wr => ∃ k : Nat, k ≤ 8 ∧ i = .int .i64 k ∧ OwnC wr w1.heap.size v (lenTo L j X k) ∧ Below w1.heap.size w1 wr) (fun _ i _ => 8 - (intOf i).toNat)
      case atStart => exact ⟨0, by omega, rfl, hp8, hbl⟩
      case round =>
        clear hp8 hbl
        obtain ⟨k, hk, rfl, hown, hbl⟩ := hrel
        obtain ⟨g, c, hv, hc1, hc2⟩ := hown.form
        have hn := lenTo_length L j X k
        rw [HL.out] at hn
        subst hv
        obtain ⟨n, hnn⟩ : ∃ n, (lenTo L j X k).length = n := ⟨_, rfl⟩
        rw [hnn] at hn hc1 hown ⊢
        have HN := Lib.hid hnn
        have HNE := Lib.hid hn
        have hnU : n ≤ 1000100 := by omega
        clear hn
        by_cases hlt : k < 8
        · have hlen : (lenTo L j X k).length + 1 ≤ 140737488355328 := by rw [hnn]; omega
          have HLEN := Lib.hid hlen
          have hki : (k : Int) < 8 := by omega
          clear hlen hnn
          have hcell := byte_cell1 X k
          have HCELL := Lib.hid hcell
          clear hcell
          have hbw := byte_and X k (by omega)
          go_wp2_with (at_builtin; refine wpList_appC rfl _ _ rfl w1 _ _ [UInt8.ofNat (X / 256 ^ k % 256)] 1 _ _ hown rfl rfl HCELL.out rfl (Nat.succ_pos _) HLEN.out hbl ?_; intro v' w3 hown3 hbl3)
          go_roundw
          case rel => exact ⟨k + 1, hlt, by go_num, by rw [← lenTo_more]; exact hown3, hbl3⟩
          case measure => simp [intOf]; omega
        · obtain rfl : k = 8 := by omega
          have HPD : Hid (lenTo L j X 8 = mdPad L) := Lib.hid (by
            have := lenTo_all L
            rw [HLZ.out, HL.out, HX.out] at this
            exact this)
          rw [HPD.out] at hown hnn
          have hcl := hown.cells
          have HCL : Hid (∀ q, q < (mdPad L).length → wr.cell? ⟨g, q, none⟩ = some (.int .u8 (((mdPad L).getD q 0).toNat : Int))) := Lib.hid hcl
          have hgg : w1.heap.size ≤ g ∧ g < wr.heap.size := by
            obtain ⟨g', cap, cur, fz, hv, h1, h2, _⟩ := hown
            cases hv
            exact ⟨h1, (Array.getElem?_eq_some_iff.1 h2).1⟩
          obtain ⟨P, hP⟩ : ∃ P, mdPad L = P := ⟨_, rfl⟩
          obtain ⟨N, hN⟩ : ∃ N, P.length = 64 * N := ⟨P.length / 64, by have := mdPad_mod L; rw [hP] at this; omega⟩
          have HMD : Hid (md5M L = mdOut (mdBlocks N mdInit P)) := Lib.hid (by
            unfold md5M
            rw [hP, hN, Nat.mul_div_cancel_left _ (by decide)])
          rw [hP] at hnn HCL
          have hn64 : n = 64 * N := by omega
          have HN64 := Lib.hid hn64
          have hiN := hin1.only (S := fun _ => False) (Only.ofBelow hbl) (fun h => h)
          have hsN : ∀ i, i < 64 → wr.cell? ⟨p + 1, i, none⟩ = some (.int .u32 (sinesT.getD i 0 : Int)) := fun i hi => (hbl.cell (p := ⟨p + 1, i, none⟩) (by have := HSZ.out; show p + 1 < _; omega)).trans (hsin i hi)
          have HIN := Lib.hid hiN
          have HSN := Lib.hid hsN
          have hpg : p < g ∧ p + 1 < g := by have := HSZ.out; omega
          have HPN := Lib.hid hN
          have HNN := Lib.hid hnn
          clear hcl hown hP hN hnn hn64 hiN hsN hin1 hsin HN HNE HX HPD
          obtain ⟨W3, hW3⟩ : ∃ W3, wr = W3 := ⟨_, rfl⟩
          rw [hW3] at HCL HIN HSN hbl hgg
          rw [hW3]
          clear hW3
          go_wp2_with fail
          go_loopw [8] (fun i wr => ∃ k : Nat, k ≤ N ∧ i = .int .i64 (64 * k : Nat) ∧ HAt wr p (mdBlocks k mdInit P) ∧ Only (· = p) W3 wr) (fun i _ => 64 * N - (intOf i).toNat)
          case atStart => exact ⟨0, Nat.zero_le _, rfl, HIN.out, Only.refl _ _⟩
          case round =>
            obtain ⟨k, hk, rfl, hat, hO⟩ := hrel
            have HOK := Lib.hid (mdBlocks_ok k mdInit P ⟨by decide, by decide, by decide, by decide⟩)
            have HSUC := Lib.hid (mdBlocks_succ k mdInit P)
            obtain ⟨t, ht⟩ : ∃ t, 64 * k = t := ⟨_, rfl⟩
            rw [ht] at HSUC ⊢
            have HT := Lib.hid ht
            have HN64v := HN64.out
            by_cases hlt : k < N
            · have htn : t + 64 ≤ n := by omega
              have b1 : (t : Int) < n := by omega
              have b2 : (t : Int) + 64 ≤ c := by omega
              have b3 : (t : Int) ≤ (t : Int) + 64 := by omega
              have hblk : Hid (∀ w', HAt w' p (mdBlocks k mdInit P) → Only (· = p) W3 w' → Calls Tryz.prog 38 #[.slice (some ⟨p, 0, none⟩) 4 4, .slice (some ⟨g, t, none⟩) 64 (c - t), .slice (some ⟨p + 1, 0, none⟩) 64 64] w' fun e w6 => e = .returned (.tuple #[]) ∧ HAt w6 p (mdBlocks (k + 1) mdInit P) ∧ Only (· = p) w' w6) := Lib.hid (fun w' h1 h2 => by
                rw [HSUC.out]
                refine rblock_any p _ g t (c - t) ((P.drop t).take 64) (p + 1) w' h1 HOK.out (fun q hq => ?_) (fun i hi => ?_)
                · have := h2.cell (HCL.out (t + q) (by rw [HNN.out]; omega)) (by show ¬ g = p; omega)
                  rw [this]
                  have e : ((P.drop t).take 64).getD q 0 = P.getD (t + q) 0 := by
                    rw [List.getD_eq_getElem?_getD, List.getD_eq_getElem?_getD, List.getElem?_take, if_pos hq, List.getElem?_drop]
                  rw [e]
                · exact h2.cell (HSN.out i hi) (by show ¬ p + 1 = p; omega))
              clear HN64v ht
              go_wp2_with (go_at_call 38; refine (hblk.out _ hat hO).mono ?_; rintro e w6 ⟨rfl, hat6, hO6⟩)
              refine ⟨?_, ?measure⟩
              iterate 15 apply Exists.intro
              refine ⟨?rel, rfl⟩
              case rel => exact ⟨k + 1, hlt, by have := HT.out; go_num, hat6, hO.trans hO6⟩
              case measure => have := HT.out; simp [intOf]; omega
            · obtain rfl : k = N := by omega
              have h2 : ¬ (t : Int) < n := by omega
              have HBF : Hid (Below w.heap.size w wr) := Lib.hid (by
                have h3 : Below w.heap.size w W3 := hB1.trans (hbl.mono hB1.size)
                exact ((Only.ofBelow (S := (· = p)) h3).trans hO).below (Nat.le_refl _) (fun i e => by omega))
              obtain ⟨S, hS⟩ : ∃ S, mdBlocks k mdInit P = S := ⟨_, rfl⟩
              rw [hS] at hat
              have HMO : Hid (md5M s.data.toList = mdOut S) := Lib.hid (by rw [HSL.out, HMD.out, hS])
              have HOKS : Hid S.ok := Lib.hid (by rw [← hS]; exact HOK.out)
              have HAT := Lib.hid hat
              clear hS hat hO HN64v ht hlt HCL HIN HSN hgg hpg hbl HOK
              go_wp2_with fail
              obtain ⟨W4, hW4⟩ : ∃ W4, wr = W4 := ⟨_, rfl⟩
              rw [hW4] at HAT HBF
              rw [hW4]
              clear hW4
              go_loopw [9, 10] (fun v i wx => ∃ k : Nat, k ≤ 4 ∧ i = .int .i64 k ∧ Own wx W4.heap.size v (outW S k) ∧ Below W4.heap.size W4 wx) (fun _ i _ => 4 - (intOf i).toNat)
              case atStart => exact ⟨0, by decide, rfl, Own.nil _ _, Below.refl _ _⟩
              case round =>
                obtain ⟨i, hi, rfl, hown, hb4⟩ := hrel
                by_cases hi4 : i < 4
                · have hii : (i : Int) < 4 := by omega
                  have HXL : Hid (hcell S i < 4294967296) := Lib.hid (hcell_lt S i HOKS.out)
                  have HC4 : Hid (∀ wx, Below W4.heap.size W4 wx → wx.cell? ⟨p, i, none⟩ = some (.int .u32 (hcell S i : Int))) := Lib.hid (fun wx h => (h.cell (p := ⟨p, i, none⟩) (block_lt_of_cell (HAT.out.c i hi4))).trans (HAT.out.c i hi4))
                  have HOI := Lib.hid (outW_more S i)
                  obtain ⟨x, hx⟩ : ∃ x, hcell S i = x := ⟨_, rfl⟩
                  rw [hx] at HXL HC4 HOI
                  have hol : (outW S i).length ≤ 16 := by rw [outW_length]; omega
                  obtain ⟨pre, hpre⟩ : ∃ pre, outW S i = pre := ⟨_, rfl⟩
                  rw [hpre] at hown hol HOI
                  clear hx hpre
                  obtain ⟨va, vc, rfl⟩ := hown.form
                  go_wp2_with fail
                  go_loopw [9, 11] (fun v j wy => ∃ k : Nat, k ≤ 4 ∧ j = .int .i64 k ∧ Own wy W4.heap.size v (pre ++ (le4 x).take k) ∧ Below W4.heap.size W4 wy) (fun _ j _ => 4 - (intOf j).toNat)
                  case atStart => exact ⟨0, by decide, rfl, by rw [List.take_zero, List.append_nil]; exact hown, hb4⟩
                  case round =>
                    clear hown hb4
                    obtain ⟨j, hj, rfl, hown, hb4⟩ := hrel
                    have hpl : (pre ++ (le4 x).take j).length ≤ 20 := by rw [List.length_append, List.length_take]; have : (le4 x).length = 4 := rfl; omega
                    obtain ⟨ac, hac⟩ : ∃ ac, pre ++ (le4 x).take j = ac := ⟨_, rfl⟩
                    rw [hac] at hown hpl
                    obtain ⟨va, vc, rfl⟩ := hown.form
                    by_cases hj4 : j < 4
                    · have hji : (j : Int) < 4 := by omega
                      have c4 := HC4.out _ hb4
                      have hbw := byte_and32 x j HXL.out
                      have HCELL := Lib.hid (byte_cell1 x j)
                      have HTK : Hid (pre ++ (le4 x).take (j + 1) = ac ++ [UInt8.ofNat (x / 256 ^ j % 256)]) := Lib.hid (by rw [← hac, le4_take x j hj4, List.append_assoc])
                      have HPL := Lib.hid hpl
                      clear hac hpl
                      go_wp2_with (at_builtin; refine wpList_app rfl _ _ rfl W4 _ _ [UInt8.ofNat (x / 256 ^ j % 256)] 1 _ _ hown rfl rfl HCELL.out rfl (by have := HPL.out; simp; omega) hb4 ?_; intro v' w7 hown7 hb7)
                      go_roundw
                      case rel => exact ⟨j + 1, hj4, by go_num, by rw [HTK.out]; exact hown7, hb7⟩
                      case measure => simp [intOf]; omega
                    · obtain rfl : j = 4 := by omega
                      have HAC : Hid (outW S (i + 1) = ac) := Lib.hid (by rw [← hac, HOI.out]; rfl)
                      clear hac
                      go_wp2_with fail
                      go_roundw
                      case rel => exact ⟨i + 1, hi4, by go_num, by rw [HAC.out]; exact hown, hb4⟩
                      case measure => simp [intOf]; omega
                · obtain rfl : i = 4 := by omega
                  have HOUT : Hid (outW S 4 = mdOut S) := Lib.hid (by simp [outW, mdOut, List.range, List.range.loop, hcell])
                  have hcv := hown.conv
                  obtain ⟨va, vc, rfl⟩ := hown.form
                  go_wp2_with fail
                  go_ret
                  exact ⟨by rw [HMO.out, ← HOUT.out]; rfl, seqB HBF.out hb4⟩
end Go.Proofs.YteigigepmoicaaaGreatDoor
