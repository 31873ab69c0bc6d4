/- The console's line: walked. -/
import Derived.Test.YteigigepmoicaaaGreatDoorCon15
import Derived.Laws.EntriesVeiled
namespace Go.Proofs.YteigigepmoicaaaGreatDoor
open Go.RowKit Go.Crc
set_option linter.unusedVariables false
set_option linter.unusedSimpArgs false
theorem err_cat (e : Int) : ((⟨#[101, 114, 114, 111, 114, 32]⟩ : ByteArray) ++ bytesOf (itoaM e)) = bytesOf (errW e) := by
  rw [show (⟨#[101, 114, 114, 111, 114, 32]⟩ : ByteArray) = bytesOf [101, 114, 114, 111, 114, 32] from rfl, bytesOf_append]
  rfl
theorem err_size (e : Int) : ¬ 9223372036854775807 < 6 + (bytesOf (itoaM e)).size := by
  have := itoa_len e
  rw [bytesOf_size]; omega
set_option maxRecDepth 100000 in
set_option maxHeartbeats 4000000 in
theorem line_any (b A : Nat) (ws : List (List UInt8)) (ml : Int) (w : World) (hall : AllAt w b) (hne : ws ≠ []) (hc : ∀ j (h : j < ws.length), w.cell? ⟨A, j, none⟩ = some (.string (bytesOf ws[j]))) (hs : ∀ x ∈ ws, x.length ≤ 65536) (hwl : ws.length ≤ 65537) (ht : TabW w) (hm : MaxLenIs w ml) :
    Calls Tryz.prog 29 #[.map (some b), .slice (some ⟨A, 0, none⟩) ws.length ws.length] w fun e w' => e = .returned (.string (bytesOf (lineM ws))) ∧ Below w.heap.size w w' := by
  obtain ⟨name, r, rfl⟩ : ∃ name r, ws = name :: r := by
    cases ws with
    | nil => exact absurd rfl hne
    | cons a r => exact ⟨a, r, rfl⟩
  have hi := fun e (h0 : 0 ≤ e) (h1 : e ≤ 9999) w (ht : TabW w) => itoa_any e (by omega) (by omega) w ht
  have c0 := hc 0 (by simp)
  rw [List.getElem_cons_zero] at c0
  have e28 := err_cat 2800
  have s28 := err_size 2800
  have hlm : lineM (name :: r) = match kindsOf name with | none => errW 2800 | some k => tellW name (readM k r) := rfl
  cases hk : kindsOf name with
  | none =>
    rw [hk] at hlm
    dsimp only at hlm
    rw [hlm]
    have hmiss := cmd_miss name hk
    clear hlm hk hc hs hwl hne
    rw [List.length_cons]
    go_enter Tryz.func29, Tryz.ntmps29
    go_wp2_with fail
    refine (hi 2800 (by decide) (by decide) _ ht).mono ?_
    rintro e w1 ⟨rfl, hb1⟩
    have c1 := fsm_below_cell hb1 c0
    have hl := run_map_look Tryz.underlying48 Tryz.underlying9 (hall.below hb1) none hmiss _ (Tryz.zeroValue82 w1)
    dsimp only at hl
    go_wp2_with fail
    go_ret
    exact ⟨rfl, allocB hb1 _⟩
  | some ks =>
    rw [hk] at hlm
    dsimp only at hlm
    obtain ⟨ci, f, hfind, hd⟩ := cmd_find name ks hk
    have eg : ∀ args w, (callFunc f args).run Tryz.prog w = .ok (.enter f args) w := by
      rcases hd with ⟨-, rfl⟩ | ⟨-, rfl⟩ | ⟨-, rfl⟩ | ⟨-, rfl⟩ | ⟨-, rfl⟩ | ⟨-, rfl⟩ | ⟨-, rfl⟩
      · exact enters_of Tryz.func41 (by kernel_rfl) rfl
      · exact enters_of Tryz.func42 (by kernel_rfl) rfl
      · exact enters_of Tryz.func43 (by kernel_rfl) rfl
      · exact enters_of Tryz.func44 (by kernel_rfl) rfl
      · exact enters_of Tryz.func45 (by kernel_rfl) rfl
      · exact enters_of Tryz.func46 (by kernel_rfl) rfl
      · exact enters_of Tryz.func47 (by kernel_rfl) rfl
    have hsr : ∀ x ∈ r, x.length ≤ 65536 := fun x hx => hs x (by simp [hx])
    have htell := fun n b hr => tell_any name ks f hk hd r hsr n b hr ml
    have hcr : ∀ j (h : j < r.length), w.cell? ⟨A, 1 + j, none⟩ = some (.string (bytesOf r[j])) := fun j h => by
      have := hc (1 + j) (by simp; omega)
      simpa [Nat.add_comm 1 j] using this
    have hrl : r.length ≤ 65537 := by simp at hwl; omega
    have hrd := fun v w hv => read_any (bytesOf ks) v r w hv (kinds_good hk) hsr hrl
    rw [show (bytesOf ks).data.toList = ks from rfl] at hrd
    have HLM := Lib.hid hlm
    clear hlm hd hc hs hwl hne hsr hk
    rw [List.length_cons]
    obtain ⟨n, hn⟩ : ∃ n, r.length = n := ⟨_, rfl⟩
    rw [hn]
    go_enter Tryz.func29, Tryz.ntmps29
    go_wp2_with fail
    refine (hi 2800 (by decide) (by decide) _ ht).mono ?_
    rintro e w1 ⟨rfl, hb1⟩
    have c1 := fsm_below_cell hb1 c0
    have hl := run_map_look Tryz.underlying48 Tryz.underlying9 (hall.below hb1) (some (ci, cmdV ks f)) hfind _ (Tryz.zeroValue82 w1)
    dsimp only [cmdV] at hl
    go_wp2_with fail
    have d0 : (w1.alloc (Obj.cells #[.string (bytesOf ks), .func (.func f) #[] #[]] 82)).cell? ⟨w1.heap.size, 0, none⟩ = some (.string (bytesOf ks)) := by rw [World.cell?_alloc_new]; rfl
    have d1 : (w1.alloc (Obj.cells #[.string (bytesOf ks), .func (.func f) #[] #[]] 82)).cell? ⟨w1.heap.size, 1, none⟩ = some (.func (.func f) #[] #[]) := by rw [World.cell?_alloc_new]; rfl
    have hB2 := allocB hb1 (Obj.cells #[.string (bytesOf ks), .func (.func f) #[] #[]] 82)
    obtain ⟨B, hB⟩ : ∃ B, w1.heap.size = B := ⟨_, rfl⟩
    rw [hB] at d0 d1 ⊢
    obtain ⟨W, hW⟩ : ∃ W, w1.alloc (Obj.cells #[.string (bytesOf ks), .func (.func f) #[] #[]] 82) = W := ⟨_, rfl⟩
    rw [hW] at d0 d1 hB2 ⊢
    clear hW hB hl c1 hb1 hfind
    have ht2 := ht.below hB2
    have hm2 := hm.below hB2
    have h1n : (1 : Int) ≤ (n : Int) + 1 := by omega
    have hcW : ∀ j (h : j < r.length), W.cell? ⟨A, 1 + j, none⟩ = some (.string (bytesOf r[j])) := fun j h => fsm_below_cell hB2 (hcr j h)
    obtain ⟨O, hO, hv⟩ : ∃ O, (if n = 0 then some (⟨A, 0, none⟩ : Addr) else some ⟨A, 1, none⟩) = some ⟨A, O, none⟩ ∧ TextsAt W.drew (.slice (some ⟨A, O, none⟩) n n) (r.map bytesOf) := by
      by_cases h0 : n = 0
      · refine ⟨0, by rw [if_pos h0], .inr ⟨A, 0, n, by rw [List.length_map, hn], fun j hj => ?_⟩⟩
        rw [List.length_map] at hj; omega
      · refine ⟨1, by rw [if_neg h0], .inr ⟨A, 1, n, by rw [List.length_map, hn], fun j hj => ?_⟩⟩
        rw [List.length_map] at hj
        have := hcW j hj
        simp only [List.getElem_map]
        exact this
    clear hcW hcr
    refine wp_schedL (fun w' => w'.cell? ⟨B, 0, none⟩ = some (.string (bytesOf ks))) [(0, true), (1, true), (2, true), (3, true), (4, false), (5, true), (6, true), (7, true), (8, true), (9, true)] (by kernel_rfl) (by kernel_rfl) rfl (by kernel_rfl) (by kernel_rfl) d0 (fun _ d _ _ _ h => by cases d <;> exact h) ?_
    simp only [schedOps, List.filterMap_cons, List.filterMap_nil, List.getElem?_toArray, List.getElem?_cons_zero, List.getElem?_cons_succ, Option.map_some]
    repeat (first | (refine' wpSched_take _ (by rfl) (fun wS hS => ?_) ?_; rotate_left; (focus (obtain j0 := hS; go_simp; first | done | rfl)); (try simp only [Act.put, List.setIfInBounds_toArray, List.set_cons_zero, List.set_cons_succ])) | (refine wpSched_skip (by rfl) ?_; try simp only [Act.put, List.setIfInBounds_toArray, List.set_cons_zero, List.set_cons_succ]))
    refine wpSched_run (fun K hK => ?_)
    go_wp2_with (go_at_call 51; refine (hrd _ _ hv).mono ?_; rintro e w3 ⟨p, rfl, hargs, hb3⟩)
    have gg := fun {x : Addr} {v : Value} (h : W.cell? x = some v) => fsm_below_cell (W := W.drew) hb3 h
    refine QRun_normal (hK.out _ _ (gg d0) ?_)
    clear hK K
    repeat (first | (refine' wpSched_take _ (by rfl) (fun wS hS => ?_) ?_; rotate_left; (focus (obtain j0 := hS; go_simp; first | done | rfl)); (try simp only [Act.put, List.setIfInBounds_toArray, List.set_cons_zero, List.set_cons_succ])) | (refine wpSched_skip (by rfl) ?_; try simp only [Act.put, List.setIfInBounds_toArray, List.set_cons_zero, List.set_cons_succ]))
    refine wpSched_done ?_
    have e1 := gg d1
    have hB3 := seqB hB2.drew hb3
    have ht3 := ht.below hB3
    have hm3 := hm.below hB3
    clear gg hb3 hB2 ht2 hm2 d0 d1
    cases hrm : readM ks r with
    | none =>
      have HL2 : Hid (lineM (name :: r) = errW 2800) := Lib.hid (by rw [HLM.out, hrm]; rfl)
      clear hargs htell HLM hrm
      go_wp2_with fail
      go_ret
      exact ⟨by rw [HL2.out]; rfl, hB3⟩
    | some nb =>
      obtain ⟨ns, bs⟩ := nb
      obtain ⟨⟨tr0, tr1, trl⟩, htc⟩ := htell ns bs hrm
      have hcall := htc p w3 (hargs ns bs hrm) ht3 hm3
      have HL2 : Hid (lineM (name :: r) = if (tellM name ns bs).2 = 0 then (tellM name ns bs).1 else errW (tellM name ns bs).2) := Lib.hid (by rw [HLM.out, hrm]; rfl)
      obtain ⟨⟨T, E⟩, hTE⟩ : ∃ x, tellM name ns bs = x := ⟨_, rfl⟩
      rw [hTE] at hcall HL2 tr0 tr1 trl
      dsimp only at hcall HL2 tr0 tr1 trl
      clear hargs htell HLM hrm hTE htc hrd
      by_cases hE : E = 0
      · have hE0 : (E != 0) = false := by rw [hE]; rfl
        have HL3 : Hid (lineM (name :: r) = T) := Lib.hid (by rw [HL2.out, if_pos hE])
        clear hE HL2
        go_wp2_with fail
        refine hcall.mono ?_
        rintro e w4 ⟨rfl, hb4⟩
        go_wp2_with fail
        go_ret
        exact ⟨by rw [HL3.out]; rfl, seqB hB3 hb4⟩
      · have hE0 : (E != 0) = true := by rw [bne_iff_ne]; exact hE
        have HL3 : Hid (lineM (name :: r) = errW E) := Lib.hid (by rw [HL2.out, if_neg hE])
        have eE := err_cat E
        have sE := err_size E
        clear hE HL2
        go_wp2_with fail
        refine hcall.mono ?_
        rintro e w4 ⟨rfl, hb4⟩
        go_wp2_with fail
        refine (hi E tr0 tr1 _ (ht3.below hb4)).mono ?_
        rintro e w5 ⟨rfl, hb5⟩
        go_wp2_with fail
        go_ret
        exact ⟨by rw [HL3.out]; rfl, seqB (seqB hB3 hb4) hb5⟩
end Go.Proofs.YteigigepmoicaaaGreatDoor
