/- A link compared with itself. -/
import Derived.Test.YtagnbdenecphcaaGreatDoorMj
namespace Go.Proofs.YtagnbdenecphcaaGreatDoor
open Go.RowKit
set_option linter.unusedVariables false
set_option linter.unusedSimpArgs false
theorem link_fields : (Tryz.prog.fieldsOf 23).toList.map (fun f => (f.name == "_", f.offset, f.type)) = [(false, 0, 3), (false, 1, 3), (false, 2, 3), (false, 3, 4), (false, 4, 9), (false, 5, 3)] := by kernel_rfl
theorem six_of {α β : Type} {f : α → β} {l : List α} {a b c d e g : β} (h : l.map f = [a, b, c, d, e, g]) : ∃ x1 x2 x3 x4 x5 x6, l = [x1, x2, x3, x4, x5, x6] := by
  match l, h with
  | [x1, x2, x3, x4, x5, x6], _ => exact ⟨x1, x2, x3, x4, x5, x6, rfl⟩
  | [], h => cases h
  | [_], h => simp at h
  | [_, _], h => simp at h
  | [_, _, _], h => simp at h
  | [_, _, _, _], h => simp at h
  | [_, _, _, _, _], h => simp at h
  | _ :: _ :: _ :: _ :: _ :: _ :: _ :: _, h => simp at h
set_option maxRecDepth 100000 in
theorem link_same (l : LinkM) (w : World) : (Op.equalIn 10000 23 (.agg (linkCells l)) (.agg (linkCells l))).run Tryz.prog w = .ok true w := by
  rw [run_equalIn_agg w 9999 23 _ _ (by kernel_rfl) (by kernel_rfl)]
  have hf := link_fields
  generalize (Tryz.prog.fieldsOf 23).toList = fs at hf
  obtain ⟨f1, f2, f3, f4, f5, f6, rfl⟩ := six_of hf
  simp only [List.map_cons, List.map_nil, List.cons.injEq, Prod.mk.injEq, and_true] at hf
  obtain ⟨⟨n1, o1, t1⟩, ⟨n2, o2, t2⟩, ⟨n3, o3, t3⟩, ⟨n4, o4, t4⟩, ⟨n5, o5, t5⟩, n6, o6, t6⟩ := hf
  have q1 : f1.name ≠ "_" := by simpa using n1
  have q2 : f2.name ≠ "_" := by simpa using n2
  have q3 : f3.name ≠ "_" := by simpa using n3
  have q4 : f4.name ≠ "_" := by simpa using n4
  have q5 : f5.name ≠ "_" := by simpa using n5
  have q6 : f6.name ≠ "_" := by simpa using n6
  simp only [Op.eqFields, o1, o2, o3, o4, o5, o6, t1, t2, t3, t4, t5, t6, if_pos q1, if_pos q2, if_pos q3, if_pos q4, if_pos q5, if_pos q6, Sem.run_bind]
  have p1 : (part 3 (linkCells l) 0).run Tryz.prog w = .ok (.int .i64 l.mru) w := run_part_plain w (by kernel_rfl) rfl
  have p2 : (part 3 (linkCells l) 1).run Tryz.prog w = .ok (.int .i64 l.magic) w := run_part_plain w (by kernel_rfl) rfl
  have p3 : (part 3 (linkCells l) 2).run Tryz.prog w = .ok (.int .i64 l.mrru) w := run_part_plain w (by kernel_rfl) rfl
  have p4 : (part 4 (linkCells l) 3).run Tryz.prog w = .ok (.bool l.short) w := run_part_plain w (by kernel_rfl) rfl
  have p5 : (part 9 (linkCells l) 4).run Tryz.prog w = .ok (.string l.disc) w := run_part_plain w (by kernel_rfl) rfl
  have p6 : (part 3 (linkCells l) 5).run Tryz.prog w = .ok (.int .i64 l.num) w := run_part_plain w (by kernel_rfl) rfl
  have ei : ∀ x : Int, (x == x) = true := fun x => by simp
  simp only [p1, p2, p3, p4, p5, p6, Result.andThen_ok, Sem.run_bind, run_equalIn_int (P := Tryz.prog) w 9998 3 .i64 .i64 _ _ Tryz.underlying3, run_equalIn_string (P := Tryz.prog) w 9998 9 _ _ Tryz.underlying9, run_equalIn_bool (P := Tryz.prog) w 9998 4 _ _ Tryz.underlying4, ei, beq_self_eq_true, Bool.not_true, Bool.false_eq_true, if_false, if_true, Sem.run_pure]
theorem link_eql (l : LinkM) (w : World) : (binOp .eql 23 (.agg (linkCells l)) (.agg (linkCells l))).run Tryz.prog w = .ok (.bool true) w := by
  rw [run_eql_struct, link_same]; rfl
theorem link_neq (l : LinkM) (w : World) : (binOp .neq 23 (.agg (linkCells l)) (.agg (linkCells l))).run Tryz.prog w = .ok (.bool false) w := by
  rw [run_neq_struct, link_same]; rfl
end Go.Proofs.YtagnbdenecphcaaGreatDoor
