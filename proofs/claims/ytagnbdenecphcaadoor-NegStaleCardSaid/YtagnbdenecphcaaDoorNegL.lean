/- A side that is refused an option; an answer to an elder request: plain. -/
import Derived.Test.YtagnbdenecphcaaDoorNegQ
namespace Go.Proofs.YtagnbdenecphcaaDoor
open Go.RowKit
set_option linter.unusedVariables false
set_option linter.unusedSimpArgs false
def bit (b : Bool) : Nat := if b then 1 else 0
theorem ask_length (l : LinkM) : (askM l).length = bit (decide (l.mru ≠ 0)) + (bit (decide (l.magic ≠ 0)) + (bit (decide (l.mrru ≠ 0)) + (bit l.short + (bit (decide (l.disc.data.toList ≠ [])) + bit (decide (l.num ≠ 0)))))) := by
  rw [askM_eq]
  obtain ⟨mru, magic, mrru, short, disc, num⟩ := l
  dsimp only
  by_cases h1 : mru = 0 <;> by_cases h2 : magic = 0 <;> by_cases h3 : mrru = 0 <;> cases short <;> by_cases h5 : disc.data.toList = [] <;> by_cases h6 : num = 0 <;> simp [h1, h2, h3, h5, h6, bit]
theorem clear_length {l : LinkM} (hm : MayM l) {o : OptM} (h : o ∈ askM l) : (askM (clearM l o.1)).length + 1 = (askM l).length := by
  rw [ask_length, ask_length]
  have hz : ((⟨#[]⟩ : ByteArray).data.toList) = [] := rfl
  have z1 : bit (decide ((0 : Int) ≠ 0)) = 0 := rfl
  have z2 : bit false = 0 := rfl
  have z3 : bit (decide (((⟨#[]⟩ : ByteArray).data.toList) ≠ [])) = 0 := rfl
  rcases ask_mem hm h with ⟨rfl, hx⟩ | ⟨rfl, hx⟩ | ⟨rfl, hx⟩ | ⟨rfl, hx⟩ | ⟨rfl, hx⟩ | ⟨rfl, hx⟩
  · have e : clearM l 1 = { l with mru := 0 } := rfl
    have b : bit (decide (l.mru ≠ 0)) = 1 := by rw [decide_eq_true hx]; rfl
    rw [e]; dsimp only; rw [z1, b]; omega
  · have e : clearM l 5 = { l with magic := 0 } := rfl
    have b : bit (decide (l.magic ≠ 0)) = 1 := by rw [decide_eq_true hx]; rfl
    rw [e]; dsimp only; rw [z1, b]; omega
  · have e : clearM l 17 = { l with mrru := 0 } := rfl
    have b : bit (decide (l.mrru ≠ 0)) = 1 := by rw [decide_eq_true hx]; rfl
    rw [e]; dsimp only; rw [z1, b]; omega
  · have e : clearM l 18 = { l with short := false } := rfl
    have b : bit l.short = 1 := by rw [hx]; rfl
    rw [e]; dsimp only; rw [z2, b]; omega
  · have e : clearM l 19 = { l with disc := ⟨#[]⟩ } := rfl
    have b : bit (decide (l.disc.data.toList ≠ [])) = 1 := by rw [decide_eq_true hx]; rfl
    rw [e]; dsimp only; rw [z3, b]; omega
  · have e : clearM l 23 = { l with num := 0 } := rfl
    have b : bit (decide (l.num ≠ 0)) = 1 := by rw [decide_eq_true hx]; rfl
    rw [e]; dsimp only; rw [z1, b]; omega
theorem ask_asks {l : LinkM} {o : OptM} (h : o ∈ askM l) : asksM l o.1 = true := by
  have h1 : o.1 ∈ (askM l).map (·.1) := List.mem_map_of_mem h
  rw [ask_kinds, List.mem_filter] at h1
  exact h1.2
theorem learn_one {l : LinkM} (hm : mayM l = true) {o : OptM} (h : o ∈ askM l) : learnM l 4 [o] = (clearM l o.1, 0) := by
  unfold learnM
  rw [if_neg (by rw [hm]; simp)]
  simp only [List.foldl_cons, List.foldl_nil, learnStep, (ask_right (may_of hm) h).1, ask_asks h]
  simp
theorem st69 : stepSays 6 9 = (6, [5, 7], 0) := by kernel_rfl
theorem st68 : stepSays 6 8 = (7, [5], 0) := by kernel_rfl
/-- behind the refusal -/
def learntS (l' : LinkM) (k : Int) : NegM := ⟨6, k - 1, k, l', linkZ, 2, 2, askM l'⟩
theorem learns_rej {l : LinkM} (hm : mayM l = true) (k : Int) (hk : 1 ≤ k) {o : OptM} (h : o ∈ askM l) :
    takeM (quitS l k 0) ⟨4, 1, [o], ⟨#[]⟩⟩ = (learntS (clearM l o.1) k, [⟨1, 2, askM (clearM l o.1), ⟨#[]⟩⟩], 0) := by
  have hc : (controlM ⟨4, 1, [o], ⟨#[]⟩⟩).2 = 0 := control_opts 4 1 [o] (by omega) (by omega) (by simp) (by
    intro q hq
    rw [List.mem_singleton] at hq
    subst hq
    exact ask_small (may_of hm) _ h)
  have he : eventM (quitS l k 0) ⟨4, 1, [o], ⟨#[]⟩⟩ = ({ quitS l k 0 with own := clearM l o.1 }, ⟨⟨4, 1, [o], ⟨#[]⟩⟩, 0, 0, []⟩, some 9) := by
    have hl := learn_one hm h
    unfold eventM
    rw [if_neg (show ¬ ((4 : Int) = 1) by decide), if_neg (show ¬ ((4 : Int) = 2) by decide), if_pos (show ((4 : Int) = 3 ∨ (4 : Int) = 4) from .inr rfl), if_pos (show (1 : Int) = (quitS l k 0).asked by rfl)]
    show ({ quitS l k 0 with own := (learnM l 4 [o]).1 }, _, _) = _
    rw [hl]
  rw [take_some hc (by simp [quitS]) he]
  unfold runM
  rw [show ({ quitS l k 0 with own := clearM l o.1 } : NegM).state = 6 from rfl, st69, if_neg (by decide)]
  have e : max 0 (k - 1) = k - 1 := by omega
  simp [actsM, actM, setLeft, sendM, reqM, nextM, countM, quitS, learntS, e]
theorem learns_ack {l : LinkM} (hm : mayM l = true) (k : Int) : takeM (learntS l k) ⟨2, 2, askM l, ⟨#[]⟩⟩ = ({ learntS l k with state := 7, left := k }, [], 0) := by
  have hc := control_ask 2 2 hm (by omega) (by omega)
  have he : eventM (learntS l k) ⟨2, 2, askM l, ⟨#[]⟩⟩ = (learntS l k, ⟨⟨2, 2, askM l, ⟨#[]⟩⟩, 0, 0, []⟩, some 8) := by
    unfold eventM
    rw [if_neg (show ¬ ((2 : Int) = 1) by decide), if_pos rfl, if_pos ⟨rfl, rfl⟩]
  rw [take_some hc (by simp [learntS]) he]
  unfold runM
  rw [show (learntS l k).state = 6 from rfl, st68, if_neg (by decide)]
  simp [actsM, actM, setLeft, sendM, learntS]
/-- an answer to an elder request does nothing -/
theorem stale {l : LinkM} (hm : mayM l = true) (k c i : Int) (hc : c = 2 ∨ c = 3 ∨ c = 4) (hi : 0 ≤ i ∧ i ≤ 255) (h1 : i ≠ 1) : takeM (quitS l k 0) ⟨c, i, askM l, ⟨#[]⟩⟩ = (quitS l k 0, [], 0) := by
  have hct := control_ask c i hm (by omega) hi
  have ha : (quitS l k 0).asked = 1 := rfl
  have he : eventM (quitS l k 0) ⟨c, i, askM l, ⟨#[]⟩⟩ = (quitS l k 0, ⟨⟨c, i, askM l, ⟨#[]⟩⟩, 0, 0, []⟩, none) := by
    unfold eventM
    rw [if_neg (show ¬ c = 1 by omega)]
    rcases hc with rfl | hc
    · rw [if_pos rfl, if_neg (by rw [ha]; exact fun e => h1 e.1)]
    · rw [if_neg (show ¬ c = 2 by omega), if_pos (by exact hc), if_neg (by rw [ha]; exact h1)]
  exact take_none hct (by simp [quitS]) he
end Go.Proofs.YtagnbdenecphcaaDoor
