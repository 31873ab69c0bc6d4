/- The reference's policy: Ask. -/
import Derived.Test.YtagnbdenecphcaaGreatDoorRa
import Derived.Deep.CutRange
namespace Go.Proofs.YtagnbdenecphcaaGreatDoor
open Go.RowKit
set_option linter.unusedVariables false
set_option linter.unusedSimpArgs false
theorem askTo_skip (l : LinkM) (k : Nat) (hk : k < 6) (h : asksM l (kindsM.getD k 0) = false) : askTo l (k + 1) = askTo l k := by
  rw [askTo_succ l k hk, h]; simp
theorem askTo_take (l : LinkM) (k : Nat) (hk : k < 6) (o : OptM) (h : asksM l (kindsM.getD k 0) = true) (ho : optOf l (kindsM.getD k 0) = o) : askTo l (k + 1) = askTo l k ++ [o] := by
  rw [askTo_succ l k hk, h, if_pos rfl, ho]
set_option maxRecDepth 100000 in
set_option maxHeartbeats 8000000 in
theorem rask_any (l : LinkM) (w : World) (hm : mayM l = true) : Calls Tryz.prog 42 #[.agg (linkCells l)] w fun e w' => ∃ o, e = .returned (.tuple #[o, .int .i64 0]) ∧ OwnE optE w' w.heap.size o (askM l) ∧ Below w.heap.size w w' := by
  have hmay := fun w => rmay_any l w
  rw [hm] at hmay
  have HM := Lib.hid hm
  clear hm
  have hL : linkCells l = #[.int .i64 l.mru, .int .i64 l.magic, .int .i64 l.mrru, .bool l.short, .string l.disc, .int .i64 l.num] := rfl
  have HL := Lib.hid hL
  clear hL
  rw [HL.out] at hmay ⊢
  go_enter Tryz.func42, Tryz.ntmps42
  go_wp2_with fail
  refine (hmay _).mono ?_
  rintro e w1 ⟨rfl, hb1⟩
  have hh1 : w1.heap[w.heap.size]? = some (.cells (linkCells l) 23 (0, 0)) := below_of hb1 (by rw [HL.out]; exact heap_alloc_last _ _)
  obtain ⟨c0, c1, c2, c3, c4, c5⟩ := link_cells hh1
  have hB1 : Below w.heap.size w w1 := seqB (allocB (Below.refl _ _) _) hb1
  clear hb1 hmay hh1
  obtain ⟨V, hV⟩ : ∃ V, Value.agg #[.int .i64 l.mru, .int .i64 l.magic, .int .i64 l.mrru, .bool l.short, .string l.disc, .int .i64 l.num] = V := ⟨_, rfl⟩
  rw [hV]
  clear hV
  have HB1 := Lib.hid hB1
  clear hB1
  have hown : OwnE optE w1 w1.heap.size (.slice none 0 0) (askTo l 0) := OwnE.nil _ _ _
  have hbl : Below w1.heap.size w1 w1 := Below.refl _ _
  have hal := askTo_len l 0
  go_upto_if 10 with fail
  go_cut [4] from 8 to 63 (fun o wx => OwnE optE wx w1.heap.size o (askTo l 1) ∧ Below w1.heap.size w1 wx)
  case first =>
    by_cases hx : l.mru = 0
    · have HE := Lib.hid (askTo_skip l 0 (by decide) (by show decide (l.mru ≠ 0) = false; rw [hx]; rfl))
      go_wp2_with fail
      go_meet
      case rel => exact ⟨by rw [HE.out]; exact hown, hbl⟩
    · have HE := Lib.hid (askTo_take l 0 (by decide) (1, bytesOf (numB l.mru 2)) (by show decide (l.mru ≠ 0) = true; simp [hx]) rfl)
      obtain ⟨z0, z1⟩ := mayM_field HM.out (k := 1) (x := l.mru) rfl
      have hnum := fun w => rbytes2_any l.mru w z0 z1
      obtain ⟨N, hN⟩ : ∃ N, bytesOf (numB l.mru 2) = N := ⟨_, rfl⟩
      rw [hN] at HE hnum
      have hx3 : (l.mru == 0) = false := beq_eq_false_iff_ne.2 hx
      clear hN hx
      go_wp2_with fail
      refine (hnum _).mono ?_
      rintro e w4 ⟨rfl, hb4⟩
      have hown4 := hown.below hb4
      have hbl4 := seqB hbl hb4
      clear hown hbl hb4 hnum
      go_wp2_with (at_builtin; refine wpList_appO rfl _ _ rfl w1 _ _ 1 N 1 hown4 rfl _ rfl (by simp) (by omega) hbl4 ?_; intro v' w5 hown5 hbl5 _ _)
      go_meet
      case rel => exact ⟨by rw [HE.out]; exact hown5, hbl5⟩
  case rest =>
    obtain ⟨hown, hbl⟩ := hcut
    have c1r := fsm_below_cell hbl c1
    have hal := askTo_len l 1
    go_upto_if 20 with fail
    go_cut [4] from 8 to 63 (fun o wx => OwnE optE wx w1.heap.size o (askTo l 2) ∧ Below w1.heap.size w1 wx)
    case first =>
      by_cases hx : l.magic = 0
      · have HE := Lib.hid (askTo_skip l 1 (by decide) (by show decide (l.magic ≠ 0) = false; rw [hx]; rfl))
        go_wp2_with fail
        go_meet
        case rel => exact ⟨by rw [HE.out]; exact hown, hbl⟩
      · have HE := Lib.hid (askTo_take l 1 (by decide) (5, bytesOf (numB l.magic 4)) (by show decide (l.magic ≠ 0) = true; simp [hx]) rfl)
        obtain ⟨z0, z1⟩ := mayM_field HM.out (k := 5) (x := l.magic) rfl
        have hnum := fun w => rbytes4_any l.magic w z0 z1
        obtain ⟨N, hN⟩ : ∃ N, bytesOf (numB l.magic 4) = N := ⟨_, rfl⟩
        rw [hN] at HE hnum
        have hx3 : (l.magic == 0) = false := beq_eq_false_iff_ne.2 hx
        clear hN hx
        go_wp2_with fail
        refine (hnum _).mono ?_
        rintro e w4 ⟨rfl, hb4⟩
        have hown4 := hown.below hb4
        have hbl4 := seqB hbl hb4
        clear hown hbl hb4 hnum
        go_wp2_with (at_builtin; refine wpList_appO rfl _ _ rfl w1 _ _ 5 N 1 hown4 rfl _ rfl (by simp) (by omega) hbl4 ?_; intro v' w5 hown5 hbl5 _ _)
        go_meet
        case rel => exact ⟨by rw [HE.out]; exact hown5, hbl5⟩
    case rest =>
      obtain ⟨hown, hbl⟩ := hcut
      have c2r := fsm_below_cell hbl c2
      have hal := askTo_len l 2
      go_upto_if 30 with fail
      go_cut [4] from 8 to 63 (fun o wx => OwnE optE wx w1.heap.size o (askTo l 3) ∧ Below w1.heap.size w1 wx)
      case first =>
        by_cases hx : l.mrru = 0
        · have HE := Lib.hid (askTo_skip l 2 (by decide) (by show decide (l.mrru ≠ 0) = false; rw [hx]; rfl))
          go_wp2_with fail
          go_meet
          case rel => exact ⟨by rw [HE.out]; exact hown, hbl⟩
        · have HE := Lib.hid (askTo_take l 2 (by decide) (17, bytesOf (numB l.mrru 2)) (by show decide (l.mrru ≠ 0) = true; simp [hx]) rfl)
          obtain ⟨z0, z1⟩ := mayM_field HM.out (k := 17) (x := l.mrru) rfl
          have hnum := fun w => rbytes2_any l.mrru w z0 z1
          obtain ⟨N, hN⟩ : ∃ N, bytesOf (numB l.mrru 2) = N := ⟨_, rfl⟩
          rw [hN] at HE hnum
          have hx3 : (l.mrru == 0) = false := beq_eq_false_iff_ne.2 hx
          clear hN hx
          go_wp2_with fail
          refine (hnum _).mono ?_
          rintro e w4 ⟨rfl, hb4⟩
          have hown4 := hown.below hb4
          have hbl4 := seqB hbl hb4
          clear hown hbl hb4 hnum
          go_wp2_with (at_builtin; refine wpList_appO rfl _ _ rfl w1 _ _ 17 N 1 hown4 rfl _ rfl (by simp) (by omega) hbl4 ?_; intro v' w5 hown5 hbl5 _ _)
          go_meet
          case rel => exact ⟨by rw [HE.out]; exact hown5, hbl5⟩
      case rest =>
        obtain ⟨hown, hbl⟩ := hcut
        have c3r := fsm_below_cell hbl c3
        have hal := askTo_len l 3
        go_upto_if 39 with fail
        go_cut [4] from 8 to 63 (fun o wx => OwnE optE wx w1.heap.size o (askTo l 4) ∧ Below w1.heap.size w1 wx)
        case first =>
          cases hx : l.short with
          | false =>
            have HE := Lib.hid (askTo_skip l 3 (by decide) (by show l.short = false; exact hx))
            clear hx
            go_wp2_with fail
            go_meet
            case rel => exact ⟨by rw [HE.out]; exact hown, hbl⟩
          | true =>
            have HE := Lib.hid (askTo_take l 3 (by decide) (18, ⟨#[]⟩) (by show l.short = true; exact hx) rfl)
            clear hx
            go_wp2_with (at_builtin; refine wpList_appO rfl _ _ rfl w1 _ _ 18 ⟨#[]⟩ 1 hown rfl _ rfl (by simp) (by omega) hbl ?_; intro v' w5 hown5 hbl5 _ _)
            go_meet
            case rel => exact ⟨by rw [HE.out]; exact hown5, hbl5⟩
        case rest =>
          obtain ⟨hown, hbl⟩ := hcut
          have c4r := fsm_below_cell hbl c4
          have hal := askTo_len l 4
          go_upto_if 46 with fail
          go_cut [4] from 8 to 63 (fun o wx => OwnE optE wx w1.heap.size o (askTo l 5) ∧ Below w1.heap.size w1 wx)
          case first =>
            have hd0 : asksM l 19 = !l.disc.toList.isEmpty := by
              show decide (l.disc.data.toList ≠ []) = _
              rw [ba_toList]
              cases e : l.disc.data.toList <;> simp
            cases hx : l.disc.toList.isEmpty with
            | true =>
              have HE := Lib.hid (askTo_skip l 4 (by decide) (by show asksM l 19 = false; rw [hd0, hx]; rfl))
              clear hx hd0
              go_wp2_with fail
              go_meet
              case rel => exact ⟨by rw [HE.out]; exact hown, hbl⟩
            | false =>
              have HE := Lib.hid (askTo_take l 4 (by decide) (19, l.disc) (by show asksM l 19 = true; rw [hd0, hx]; rfl) rfl)
              clear hx hd0
              go_wp2_with (at_builtin; refine wpList_appO rfl _ _ rfl w1 _ _ 19 l.disc 1 hown rfl _ rfl (by simp) (by omega) hbl ?_; intro v' w5 hown5 hbl5 _ _)
              go_meet
              case rel => exact ⟨by rw [HE.out]; exact hown5, hbl5⟩
          case rest =>
            obtain ⟨hown, hbl⟩ := hcut
            have c5r := fsm_below_cell hbl c5
            have hal := askTo_len l 5
            go_upto_if 55 with fail
            go_cut [4] from 8 to 63 (fun o wx => OwnE optE wx w1.heap.size o (askTo l 6) ∧ Below w1.heap.size w1 wx)
            case first =>
              by_cases hx : l.num = 0
              · have HE := Lib.hid (askTo_skip l 5 (by decide) (by show decide (l.num ≠ 0) = false; rw [hx]; rfl))
                go_wp2_with fail
                go_meet
                case rel => exact ⟨by rw [HE.out]; exact hown, hbl⟩
              · have HE := Lib.hid (askTo_take l 5 (by decide) (23, bytesOf (numB l.num 2)) (by show decide (l.num ≠ 0) = true; simp [hx]) rfl)
                obtain ⟨z0, z1⟩ := mayM_field HM.out (k := 23) (x := l.num) rfl
                have hnum := fun w => rbytes2_any l.num w z0 z1
                obtain ⟨N, hN⟩ : ∃ N, bytesOf (numB l.num 2) = N := ⟨_, rfl⟩
                rw [hN] at HE hnum
                have hx3 : (l.num == 0) = false := beq_eq_false_iff_ne.2 hx
                clear hN hx
                go_wp2_with fail
                refine (hnum _).mono ?_
                rintro e w4 ⟨rfl, hb4⟩
                have hown4 := hown.below hb4
                have hbl4 := seqB hbl hb4
                clear hown hbl hb4 hnum
                go_wp2_with (at_builtin; refine wpList_appO rfl _ _ rfl w1 _ _ 23 N 1 hown4 rfl _ rfl (by simp) (by omega) hbl4 ?_; intro v' w5 hown5 hbl5 _ _)
                go_meet
                case rel => exact ⟨by rw [HE.out]; exact hown5, hbl5⟩
            case rest =>
              obtain ⟨hown, hbl⟩ := hcut
              go_wp2_with fail
              go_ret2
              exact ⟨_, rfl, hown.base HB1.out.size, seqB HB1.out hbl⟩
end Go.Proofs.YtagnbdenecphcaaGreatDoor
