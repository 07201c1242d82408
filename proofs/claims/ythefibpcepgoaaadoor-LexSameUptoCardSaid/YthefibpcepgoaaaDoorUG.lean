/- The listed variables of the seat of the package lex. -/
import Derived.Test.YthefibpcepgoaaaDoorHLaid
import Derived.Test.YthefibpcepgoaaaDoorUM
namespace Go.Proofs.YthefibpcepgoaaaDoor.HLexG
open Go.RowKit Go.Proofs.YthefibpcepgoaaaDoor.HLaid Go.Proofs.YthefibpcepgoaaaDoor.HNameP Go.Proofs.YthefibpcepgoaaaDoor.HName Go.Proofs.YthefibpcepgoaaaDoor.HErr Go.Proofs.YthefibpcepgoaaaDoor.HLexW
set_option linter.unusedVariables false

theorem g_res : Tryd.prog.globalNamed "vestry/name.reserved" = some 0 := by kernel_rfl
theorem t_res : (Tryd.prog.globals[0]?).map (·.type) = some 67 := by kernel_rfl
theorem c_res : Tryd.prog.cellsOf 67 = 3 := by kernel_rfl
theorem c_str : Tryd.prog.cellsOf 9 = 1 := by kernel_rfl
abbrev laid : List (String × DataW Unit) := [("errors.errorType", Rows.laid_errors_errorType), ("vestry/name.reserved", Rows.laid_vestry_name_reserved)]
theorem glob {W : World} (h : laidMetH Tryd.prog laid W) : GV W := by
  have h' : laidMet Tryd.prog [("vestry/name.reserved", Rows.laid_vestry_name_reserved)] W ∧ handlesMet Tryd.prog [("errors.errorType", Rows.laid_errors_errorType)] W := h
  have hr := fun i hi => strs_at (zs := [DEF, REL, PERM]) g_res t_res Tryd.underlying67 Tryd.underlying9 c_str c_res h'.1 (List.mem_singleton.2 rfl) i hi
  have he := errtype_at (d := Rows.laid_errors_errorType) h'.2 (List.mem_singleton.2 rfl)
  exact ⟨⟨size_of_cell (hr 0 (by decide)), hr⟩, ⟨size_of_cell he, he⟩⟩
noncomputable def laidWorld (os : Os) : World :=
  let w0 := World.holding Tryd.prog os ⟨#[], #[], []⟩
  { w0 with heap := (w0.heap.modify 1 fun
      | .cells _ t frozen => .cells #[.iface 95 (.agg #[.pointer (some ⟨3, 25, none⟩)])] t frozen
      | o => o).modify 0 fun
      | .cells _ t frozen => .cells #[.string DEF, .string REL, .string PERM] t frozen
      | o => o }
theorem laid_met (os : Os) (args : Array Value) : laidMetH Tryd.prog laid ((laidWorld os).forCall (fun _ _ => 0) ⟨#[], args, []⟩).memory :=
  laidMetH_of_parts (laidMet_of_run' 8 (by kernel_rfl) (by kernel_rfl)) (by kernel_rfl)
end Go.Proofs.YthefibpcepgoaaaDoor.HLexG
