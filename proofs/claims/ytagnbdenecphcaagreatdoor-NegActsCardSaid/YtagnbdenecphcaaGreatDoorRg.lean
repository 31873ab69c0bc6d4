/- The reference's policy: Judge at nil; Judge. -/
import Derived.Test.YtagnbdenecphcaaGreatDoorRf
namespace Go.Proofs.YtagnbdenecphcaaGreatDoor
open Go.RowKit
set_option linter.unusedVariables false
set_option linter.unusedSimpArgs false
set_option maxRecDepth 100000 in
set_option maxHeartbeats 8000000 in
theorem rjudge_nil (own : LinkM) (a : Option Addr) (c : Nat) (w : World) (hm : mayM own = true) (hcm : c ≤ maxLen ∧ (a = none → c = 0)) :
    Calls Tryz.prog 32 #[.agg (linkCells own), .slice a 0 c] w fun e w' => ∃ v, e = .returned (.tuple #[.int .i64 0, v, .int .i64 0]) ∧ OwnE optE w' w.heap.size v [] ∧ Below w.heap.size w w' := by
  have hmay := fun w => rmay_any own w
  have hfits := fun w => rfits_any (.slice a 0 c) [] w (.inr ⟨rfl, a, c, rfl, hcm⟩) (fun o h => by cases h)
  rw [hm] at hmay
  have HCM := Lib.hid hcm
  have hcn : c ≤ 9223372036854775807 := by have := hcm.1; unfold maxLen at this; omega
  clear hm hcm
  have HLh := Lib.hid linkCells_eq
  rw [HLh.out] at hmay ⊢
  go_enter Tryz.func32, Tryz.ntmps32
  go_wp2_with fail
  refine (hmay _).mono ?_
  rintro e W2 ⟨rfl, hb1⟩
  have hBW : Below w.heap.size w W2 := seqB (allocB (Below.refl _ _) _) hb1
  clear hb1 hmay
  obtain ⟨V, hV⟩ : ∃ V, Value.agg #[.int .i64 own.mru, .int .i64 own.magic, .int .i64 own.mrru, .bool own.short, .string own.disc, .int .i64 own.num] = V := ⟨_, rfl⟩
  rw [hV]
  clear hV
  go_wp2_with fail
  refine (hfits _).mono ?_
  rintro e w' ⟨rfl, rfl⟩
  go_wp2_with fail
  go_loopw [7, 8, 9] (fun b d i wr => i = .int .i64 0 ∧ b = .slice none 0 0 ∧ d = .slice none 0 0 ∧ W2 = wr) (fun _ _ _ _ => 0)
  case atStart => exact ⟨rfl, rfl, rfl, rfl⟩
  case round =>
    obtain ⟨rfl, rfl, rfl, rfl⟩ := hrel
    have hoe := (own_empty W2).base (b' := w.heap.size) hBW.size
    have hBf2 := allocB hBW (.cells #[] 70)
    go_wp2_with (at_builtin; refine wpList_appIn rfl _ _ rfl w _ _ [] [] hoe (.inr ⟨rfl, a, c, rfl, HCM.out⟩) rfl rfl (by simp) hBf2 ?_; intro v' w6 hown6 hbl6 _)
    go_ret3
    exact ⟨v', rfl, by simpa using hown6, hbl6⟩
theorem rjudge_any (own : LinkM) (v : Value) (os : List OptM) (w : World) (hm : mayM own = true) (hv : OptsIn w v os) (hf : ∀ o ∈ os, fitM o = true) (hlen : os.length ≤ 1000000) :
    Calls Tryz.prog 32 #[.agg (linkCells own), v] w fun e w' => ∃ v, e = .returned (.tuple #[.int .i64 (judgeM own os).1, v, .int .i64 0]) ∧ OwnE optE w' w.heap.size v (judgeM own os).2.1 ∧ Below w.heap.size w w' := by
  rcases hv.or with ⟨rfl, a, c, rfl, hcm⟩ | ⟨g, o, c, rfl, hv⟩
  · have HJ : judgeM own [] = (0, [], 0) := by unfold judgeM; rw [if_neg (by rw [hm]; simp)]; rfl
    rw [HJ]
    exact rjudge_nil own a c w hm hcm
  · exact rjudge_some own g o c os w hm hv hf hlen
end Go.Proofs.YtagnbdenecphcaaGreatDoor
