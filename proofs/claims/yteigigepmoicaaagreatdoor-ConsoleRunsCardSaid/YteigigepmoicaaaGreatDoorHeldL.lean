/- Regions that draw whose last writing operation L writes what the others read: S need not hold behind L. -/
import Derived.Test.YteigigepmoicaaaGreatDoorHeld
import Derived.StillTail
namespace Go.Proofs.YteigigepmoicaaaGreatDoor
open Go.RowKit
section
variable {P : Program} {ops : Array Oper} {Q : Exit → Act → World → Prop} {S : World → Prop}
/-- whatever order is picked; S holds behind each operation as long as L has not come up -/
def wpAnyS (P : Program) (ops : Array Oper) (Q : Exit → Act → World → Prop) (S : World → Prop) (L : Nat) : Nat → Array Bool → Act → World → Prop
  | 0, listed, a, w => Region.ready .any ops listed = [] ∧ Q .normal a w
  | fuel + 1, listed, a, w =>
    (Region.ready .any ops listed = [] → Q .normal a w) ∧
    ∀ i ∈ Region.ready .any ops listed, wpOp P ops Q i (fun a' w' => ((listed.setIfInBounds i true).getD L false = false → S w') ∧ wpAnyS P ops Q S L fuel (listed.setIfInBounds i true) a' w') a w
theorem wpAny_of_S {L : Nat} : ∀ (fuel : Nat) (listed : Array Bool) (a : Act) (w : World), wpAnyS P ops Q S L fuel listed a w → wpAny P .any ops Q fuel listed a w
  | 0, _, _, _, h => h
  | fuel + 1, _, _, _, h => ⟨h.1, fun i hi => wpOp_mono (fun a' w' h' => wpAny_of_S fuel _ a' w' h'.2) (h.2 i hi)⟩
theorem getD_clash {listed : Array Bool} {i : Nat} (h1 : listed.getD i false = true) (h0 : listed.getD i true = false) : False := by
  rcases Nat.lt_or_ge i listed.size with h' | h'
  · simp [h'] at h0 h1
    rw [h0] at h1; cases h1
  · simp [Array.getElem?_eq_none h'] at h1
theorem last_waits {L i : Nat} (h : Region.waitsFor .any ops L i = true) {listed : Array Bool} (hr : L ∈ Region.ready .any ops listed) : listed.getD i false = true := by
  obtain ⟨oj, hoj, e, he, hb, rfl⟩ := Region.waitsFor_spec h
  obtain ⟨_, oj', hoj', hall⟩ := mem_ready.1 hr
  rw [hoj] at hoj'
  cases hoj'
  exact hall e he hb
/-- an operation that yields in every world that meets T may be taken first; T is S where L waits for it, else nothing -/
theorem wpAnyS_first {L i : Nat} {oi : Oper} {v : Value} {T : World → Prop} (hil : i ≠ L) (hT : (Region.waitsFor .any ops L i = true ∧ ∀ w, S w → T w) ∨ (∀ w, T w)) (hi : ops[i]? = some oi) (hsel : ∀ (j : Nat) (o : Oper) cs b, ops[j]? = some o → o.op ≠ .select cs b)
    (hQ : ∀ c a w, Q (.panic c) (a.put oi.dst v) w → Q (.panic c) a w) :
    ∀ (fuel : Nat) (listed : Array Bool) (a : Act) (w : World),
      (∀ j oj, ops[j]? = some oj → j ≠ i → listed.getD j true = false → (∀ e ∈ oj.after, Region.binds .any e = true → e.on ≠ i) → oi.apart ops oj = true) →
      i ∈ Region.ready .any ops listed → YieldsIf P ops T oi v a → T w → (Region.waitsFor .any ops L i = true → listed.getD L false = false) → (listed.getD L false = false → S w) →
      wpAnyS P ops Q S L fuel (listed.setIfInBounds i true) (a.put oi.dst v) w → wpAnyS P ops Q S L (fuel + 1) listed a w := by
  intro fuel
  induction fuel with
  | zero =>
    intro listed a w _ hr hy hTw _ hS H
    refine ⟨fun h => absurd hr (by rw [h]; simp), fun j hj => ?_⟩
    by_cases hji : j = i
    · subst hji; exact hy.wpOp hi hTw ⟨fun h => hS (by rwa [getD_set_ne false hil] at h), H⟩
    · exact absurd (ready_mono hj hji) (by rw [H.1]; simp)
  | succ fuel ih =>
    intro listed a w hfree hr hy hTw hLu hS H
    refine ⟨fun h => absurd hr (by rw [h]; simp), fun j hj => ?_⟩
    by_cases hji : j = i
    · subst hji; exact hy.wpOp hi hTw ⟨fun h => hS (by rwa [getD_set_ne false hil] at h), H⟩
    · obtain ⟨hjun, oj, hoj, hall⟩ := mem_ready.1 hj
      have hiun := (mem_ready.1 hr).1
      have hnot : ∀ e ∈ oj.after, Region.binds .any e = true → e.on ≠ i := fun e he hb heq => by
        have h1 := hall e he hb
        rw [heq] at h1
        exact getD_clash h1 hiun
      have hjL : Region.waitsFor .any ops L i = true → j ≠ L := fun hw e => by
        subst e
        exact getD_clash (last_waits hw hj) hiun
      have h2 := wpOp_putIf hoj (hfree j oj hoj hji hjun hnot) (fun cs b => hsel i oi cs b hi) (fun cs b => hsel j oj cs b hoj) hQ hy (H.2 j (ready_mono hj hji))
      have hcm : (listed.setIfInBounds i true).setIfInBounds j true = (listed.setIfInBounds j true).setIfInBounds i true := Array.setIfInBounds_comm _ _ (Ne.symm hji)
      refine wpOp_mono (fun a' w' h3 => ?_) h2
      obtain ⟨h3y, h3S, h3H⟩ := h3
      rw [hcm] at h3S h3H
      have hS' : (listed.setIfInBounds j true).getD L false = false → S w' := fun h => h3S (by rwa [getD_set_ne false hil])
      have hLu' : Region.waitsFor .any ops L i = true → (listed.setIfInBounds j true).getD L false = false := fun hw => by rw [getD_set_ne false (hjL hw)]; exact hLu hw
      refine ⟨hS', ih (listed.setIfInBounds j true) a' w' ?_ (ready_mono hr (Ne.symm hji)) h3y ?_ hLu' hS' h3H⟩
      · intro k ok hk hki hun hno
        refine hfree k ok hk hki ?_ hno
        by_cases hjk : j = k
        · subst hjk; exact hjun
        · rw [getD_set_ne true hjk] at hun; exact hun
      · rcases hT with ⟨hw, hST⟩ | hT
        · exact hST _ (hS' (hLu' hw))
        · exact hT _
/-- a schedule: (i, 0) carried out alone; (i, 1) taken first, L waits for it; (i, 2) taken first in any world -/
def schedLB (ops : Array Oper) (L : Nat) : List (Nat × Nat) → Array Bool → Bool
  | [], listed => (Region.ready .any ops listed).isEmpty
  | (i, 0) :: r, listed => (Region.ready .any ops listed == [i]) && (if i == L then r.isEmpty else !r.isEmpty) && schedLB ops L r (listed.setIfInBounds i true)
  | (i, k + 1) :: r, listed => Region.free .any ops listed i && (Region.ready .any ops listed).contains i && i != L && (!(listed.getD L false)) && (if k == 0 then Region.waitsFor .any ops L i else k == 1) && schedLB ops L r (listed.setIfInBounds i true)
/-- what is asked of the world where a read is taken -/
def readS (S : World → Prop) : Nat → World → Prop
  | 0 => S
  | _ => fun _ => True
def wpSchedS (P : Program) (ops : Array Oper) (S : World → Prop) (Q : Exit → Act → World → Prop) : List (Oper × Nat) → Act → World → Prop
  | [], a, w => Q .normal a w
  | (o, k + 1) :: r, a, w => ∃ v, YieldsIf P ops (readS S k) o v a ∧ wpSchedS P ops S Q r (a.put o.dst v) w
  | (o, 0) :: r, a, w => ∀ K : Act → World → Prop, Hid (∀ a' w', (r ≠ [] → S w') → wpSchedS P ops S Q r a' w' → K a' w') → wpList P ops (QRun Q K) [o] a w
def schedOpsN (ops : Array Oper) (sc : List (Nat × Nat)) : List (Oper × Nat) := sc.filterMap fun x => (ops[x.1]?).map fun o => (o, x.2)
theorem schedOpsN_cons {i k : Nat} {r : List (Nat × Nat)} (hi : i < ops.size) : schedOpsN ops ((i, k) :: r) = (ops[i], k) :: schedOpsN ops r := by
  unfold schedOpsN
  rw [List.filterMap_cons]
  simp only [Array.getElem?_eq_getElem hi, Option.map_some]
theorem schedS_sound {L : Nat} (hs : Region.noSelect ops = true) (hQ : ∀ c d v a w, Q (.panic c) (Act.put a d v) w → Q (.panic c) a w) : ∀ (sc : List (Nat × Nat)) (listed : Array Bool) (a : Act) (w : World),
    (sc.all fun x => decide (x.1 < ops.size)) = true → schedLB ops L sc listed = true → (sc ≠ [] → S w) → wpSchedS P ops S Q (schedOpsN ops sc) a w → wpAnyS P ops Q S L sc.length listed a w
  | [], listed, a, w, _, hB, _, h => ⟨by simpa [schedLB] using hB, h⟩
  | (i, k + 1) :: r, listed, a, w, hA, hB, hS, h => by
    simp only [List.all_cons, Bool.and_eq_true, decide_eq_true_eq] at hA
    obtain ⟨hi, hr⟩ := hA
    rw [schedOpsN_cons hi] at h
    simp only [schedLB, Bool.and_eq_true, bne_iff_ne, ne_eq, Bool.not_eq_true'] at hB
    obtain ⟨⟨⟨⟨⟨h1, h2⟩, h3⟩, h4⟩, h5⟩, h6⟩ := hB
    simp only [wpSchedS] at h
    obtain ⟨v, hy, h⟩ := h
    have hSw : S w := hS (by simp)
    have ho : ops[i]? = some ops[i] := Array.getElem?_eq_getElem hi
    have hT : (Region.waitsFor .any ops L i = true ∧ ∀ w, S w → readS S k w) ∨ (∀ w, readS S k w) := by
      cases k with
      | zero => exact .inl ⟨by simpa using h5, fun _ h => h⟩
      | succ k => exact .inr fun _ => trivial
    have hTw : readS S k w := by rcases hT with ⟨_, h⟩ | h; exact h _ hSw; exact h _
    exact wpAnyS_first (T := readS S k) h3 hT ho (Region.noSelect_spec hs) (fun c a w => hQ c _ _ a w) r.length listed a w (Region.free_spec ho h1) (by simpa using h2) hy hTw (fun _ => h4) (fun _ => hSw)
      (schedS_sound hs hQ r _ _ w hr h6 (fun _ => hSw) h)
  | (i, 0) :: r, listed, a, w, hA, hB, hS, h => by
    simp only [List.all_cons, Bool.and_eq_true, decide_eq_true_eq] at hA
    obtain ⟨hi, hr⟩ := hA
    rw [schedOpsN_cons hi] at h
    simp only [schedLB, Bool.and_eq_true, beq_iff_eq] at hB
    obtain ⟨⟨h1, h2⟩, h3⟩ := hB
    simp only [wpSchedS] at h
    refine ⟨fun h0 => absurd h0 (by rw [h1]; simp), fun j hj => ?_⟩
    rw [h1, List.mem_singleton] at hj
    subst hj
    have hre : ∀ w', (schedOpsN ops r ≠ [] → S w') → r ≠ [] → S w' := fun w' hh hn => hh (by
      cases r with
      | nil => exact absurd rfl hn
      | cons x r =>
        obtain ⟨x1, x2⟩ := x
        simp only [List.all_cons, Bool.and_eq_true, decide_eq_true_eq] at hr
        rw [schedOpsN_cons hr.1]; simp)
    refine wpOp_of_list (Array.getElem?_eq_getElem hi) (h _ (Lib.hid fun a' w' hq1 hq2 => ⟨fun hn => ?_, schedS_sound hs hQ r _ a' w' hr h3 (hre w' hq1) hq2⟩))
    by_cases hjL : j = L
    · subst hjL
      have hj2 := (mem_ready.1 (show j ∈ Region.ready .any ops listed by rw [h1]; simp)).1
      rcases Nat.lt_or_ge j listed.size with h' | h'
      · simp [h'] at hn
      · simp [Array.getElem?_eq_none h'] at hj2
    · by_cases hrn : r = []
      · subst hrn
        rw [if_neg (by simpa using hjL)] at h2
        cases h2
      · exact hre w' hq1 hrn
theorem wp_schedS {id : Nat} {a : Act} {w : World} {l : List Oper} (S : World → Prop) (L : Nat) (sc : List (Nat × Nat)) (hm : P.follows .mixedOrders = true) (hs : Region.noSelect l.toArray = true) (hn : sc.length = l.toArray.size)
    (hi : (sc.all fun x => decide (x.1 < l.toArray.size)) = true)
    (hB : schedLB l.toArray L sc (Array.replicate l.toArray.size false) = true) (hS : S w.drew) (hQ : ∀ c d v a w, Q (.panic c) (Act.put a d v) w → Q (.panic c) a w)
    (h : wpSchedS P l.toArray S Q (schedOpsN l.toArray sc) a w.drew) : (Code.region id l.toArray true).wp P Q a w := by
  refine wp_region_any hm ?_
  rw [← hn]
  have := schedS_sound (P := P) hs hQ sc (Array.replicate l.toArray.size false) a w.drew hi hB (fun _ => hS) h
  rw [← hn] at this
  exact wpAny_of_S _ _ _ _ this
theorem wpS_take {o : Oper} {r : List (Oper × Nat)} {a : Act} {w : World} (v : Value) (hw : Region.wanted o (yielded ops a.tmps) = true)
    (hv : ∀ w, S w → (execOp a.eval o).run P w = .ok (.value v) w) (h : wpSchedS P ops S Q r (a.put o.dst v) w) : wpSchedS P ops S Q ((o, 1) :: r) a w := by
  unfold wpSchedS
  exact ⟨v, .inl ⟨hw, hv⟩, h⟩
theorem wpS_pure {o : Oper} {r : List (Oper × Nat)} {a : Act} {w : World} (v : Value) (hw : Region.wanted o (yielded ops a.tmps) = true)
    (hv : ∀ w, (execOp a.eval o).run P w = .ok (.value v) w) (h : wpSchedS P ops S Q r (a.put o.dst v) w) : wpSchedS P ops S Q ((o, 2) :: r) a w := by
  unfold wpSchedS
  exact ⟨v, .inl ⟨hw, fun w _ => hv w⟩, h⟩
theorem wpS_skip {o : Oper} {r : List (Oper × Nat)} {a : Act} {w : World} {k : Nat} (hw : Region.wanted o (yielded ops a.tmps) = false)
    (h : wpSchedS P ops S Q r (a.put o.dst undef) w) : wpSchedS P ops S Q ((o, k + 1) :: r) a w := by
  unfold wpSchedS
  exact ⟨undef, .inr ⟨hw, rfl⟩, h⟩
theorem wpS_run {o : Oper} {x : Oper × Nat} {r : List (Oper × Nat)} {a : Act} {w : World}
    (h : ∀ K : Act → World → Prop, Hid (∀ a' w', S w' → wpSchedS P ops S Q (x :: r) a' w' → K a' w') → wpList P ops (QRun Q K) [o] a w) : wpSchedS P ops S Q ((o, 0) :: x :: r) a w := by
  unfold wpSchedS
  exact fun K hK => h K (Lib.hid fun a' w' h1 h2 => hK.out a' w' (fun _ => h1) h2)
theorem wpS_last {o : Oper} {a : Act} {w : World}
    (h : ∀ K : Act → World → Prop, Hid (∀ a' w', Q .normal a' w' → K a' w') → wpList P ops (QRun Q K) [o] a w) : wpSchedS P ops S Q [(o, 0)] a w := by
  unfold wpSchedS
  exact fun K hK => h K (Lib.hid fun a' w' h1 => hK.out a' w' (fun hn => absurd rfl hn) h1)
end
end Go.Proofs.YteigigepmoicaaaGreatDoor
