/- The console's commands: sum, md5: walked. -/
import Derived.Test.YteigigepmoicaaaGreatDoorCon3
import Derived.Test.YteigigepmoicaaaGreatDoorCon4
import Derived.Test.YteigigepmoicaaaGreatDoorMd5O
import Derived.Test.YteigigepmoicaaaGreatDoorMg3
namespace Go.Proofs.YteigigepmoicaaaGreatDoor
open Go.RowKit Go.Crc
set_option linter.unusedVariables false
set_option linter.unusedSimpArgs false
/-- a line's numbers and bytes -/
def ArgsAt (w : World) (p : Nat) (n : List Int) (b : List (List UInt8)) : Prop := ∃ vn vb, w.cell? ⟨p, 0, none⟩ = some vn ∧ w.cell? ⟨p, 1, none⟩ = some vb ∧ IntsAt w vn n ∧ TextsAt w vb (b.map bytesOf)
theorem ArgsAt.text {w : World} {p : Nat} {d : List UInt8} (h : ArgsAt w p [] [d]) : ∃ g o c, w.cell? ⟨p, 1, none⟩ = some (.slice (some ⟨g, o, none⟩) 1 c) ∧ w.cell? ⟨g, o, none⟩ = some (.string (bytesOf d)) := by
  obtain ⟨vn, vb, h0, h1, hn, hb⟩ := h
  rcases hb with ⟨hb, _⟩ | ⟨g, o, c, rfl, hc⟩
  · cases hb
  · exact ⟨g, o, c, h1, hc 0 (by simp)⟩
set_option maxHeartbeats 1000000 in
theorem asum_any (p : Nat) (d : List UInt8) (w : World) (h : ArgsAt w p [] [d]) (hd : d.length ≤ 1000000) (ht : TabW w) :
    Calls Tryz.prog 41 #[.pointer (some ⟨p, 0, none⟩)] w fun e w' => e = .returned (.tuple #[.string (bytesOf (itoaM (fcs d))), .int .i64 0]) ∧ Below w.heap.size w w' := by
  obtain ⟨g, o, c, h1, h2⟩ := h.text
  have hf := of_any (bytesOf d) w (by rw [bytesOf_size]; unfold maxLen; omega)
  have hdd : (bytesOf d).data.toList = d := rfl
  rw [hdd] at hf
  have hlt := fcs_lt d
  have hi := fun w (ht : TabW w) => itoa_any (fcs d) (by omega) (by omega) w ht
  obtain ⟨F, hF⟩ : ∃ F, fcs d = F := ⟨_, rfl⟩
  rw [hF] at hf hi ⊢
  clear hF hlt hdd h
  go_enter Tryz.func41, Tryz.ntmps41
  go_wp2_with fail
  refine hf.mono ?_
  rintro e w1 ⟨rfl, hb1⟩
  have ht1 := ht.below hb1
  go_wp2_with fail
  refine (hi _ ht1).mono ?_
  rintro e w2 ⟨rfl, hb2⟩
  go_wp2_with fail
  go_ret2
  exact ⟨rfl, seqB hb1 hb2⟩
set_option maxHeartbeats 1000000 in
theorem amd5_any (p : Nat) (d : List UInt8) (w : World) (h : ArgsAt w p [] [d]) (hd : d.length ≤ 1000000) :
    Calls Tryz.prog 45 #[.pointer (some ⟨p, 0, none⟩)] w fun e w' => e = .returned (.tuple #[.string (bytesOf (hexM (md5M d))), .int .i64 0]) ∧ Below w.heap.size w w' := by
  obtain ⟨g, o, c, h1, h2⟩ := h.text
  have hf := dof_any (bytesOf d) w (by rw [bytesOf_size]; exact hd)
  have hdd : (bytesOf d).data.toList = d := rfl
  rw [hdd] at hf
  have hm16 : (bytesOf (md5M d)).size = 16 := by rw [bytesOf_size]; simp [md5M, mdOut, le4]
  have hx := fun w => chex_any (bytesOf (md5M d)) w (by rw [hm16]; decide)
  have hmm : (bytesOf (md5M d)).data.toList = md5M d := rfl
  rw [hmm] at hx
  obtain ⟨F, hF⟩ : ∃ F, md5M d = F := ⟨_, rfl⟩
  rw [hF] at hf hx ⊢
  clear hF hdd h hm16 hmm
  go_enter Tryz.func45, Tryz.ntmps45
  go_wp2_with fail
  refine hf.mono ?_
  rintro e w1 ⟨rfl, hb1⟩
  go_wp2_with fail
  refine (hx _).mono ?_
  rintro e w2 ⟨rfl, hb2⟩
  go_wp2_with fail
  go_ret2
  exact ⟨rfl, seqB hb1 hb2⟩
end Go.Proofs.YteigigepmoicaaaGreatDoor
