/- The listed variables of the seat of the package fault. -/
import Derived.Test.YtmnfemdcccpmfaaDoorHLaid
import Derived.Test.YtmnfemdcccpmfaaDoorHFaultA
namespace Go.Proofs.YtmnfemdcccpmfaaDoor.HFaultG
open Go.RowKit Go.Proofs.YtmnfemdcccpmfaaDoor.HLaid Go.Proofs.YtmnfemdcccpmfaaDoor.HErr Go.Proofs.YtmnfemdcccpmfaaDoor.HFaultA
set_option linter.unusedVariables false

theorem g_names : Tryd.prog.globalNamed "vestry/fault.names" = some 0 := by kernel_rfl
theorem t_names : (Tryd.prog.globals[0]?).map (·.type) = some 61 := by kernel_rfl
theorem c_names : Tryd.prog.cellsOf 61 = 17 := by kernel_rfl
theorem c_str : Tryd.prog.cellsOf 9 = 1 := by kernel_rfl
theorem t_pow : (Tryd.prog.globals[2]?).map (·.type) = some 96 := by kernel_rfl
theorem c_pow : Tryd.prog.cellsOf 96 = 20 := by kernel_rfl
theorem c_u64 : Tryd.prog.cellsOf 88 = 1 := by kernel_rfl
abbrev plain : List (String × DataW Unit) := [("math/bits.deBruijn32tab", Rows.laid_math_bits_deBruijn32tab), ("math/bits.deBruijn64tab", Rows.laid_math_bits_deBruijn64tab), ("internal/strconv.uint64pow10", Rows.laid_internal_strconv_uint64pow10), ("vestry/fault.names", Rows.laid_vestry_fault_names)]
abbrev laid : List (String × DataW Unit) := [("math/bits.deBruijn32tab", Rows.laid_math_bits_deBruijn32tab), ("math/bits.deBruijn64tab", Rows.laid_math_bits_deBruijn64tab), ("internal/strconv.uint64pow10", Rows.laid_internal_strconv_uint64pow10), ("errors.errorType", Rows.laid_errors_errorType), ("vestry/fault.names", Rows.laid_vestry_fault_names)]
def NAMES : List ByteArray := [⟨#[]⟩, ⟨#[115, 104, 111, 114, 116]⟩, ⟨#[108, 111, 110, 103]⟩, ⟨#[109, 105, 110, 105, 109, 97, 108]⟩, ⟨#[99, 104, 101, 99, 107, 115, 117, 109]⟩, ⟨#[110, 97, 109, 101]⟩, ⟨#[115, 121, 110, 116, 97, 120]⟩, ⟨#[100, 101, 112, 116, 104]⟩, ⟨#[117, 110, 107, 110, 111, 119, 110]⟩, ⟨#[116, 121, 112, 101]⟩, ⟨#[100, 117, 112, 108, 105, 99, 97, 116, 101]⟩, ⟨#[111, 114, 100, 101, 114]⟩, ⟨#[116, 97, 103]⟩, ⟨#[118, 101, 114, 115, 105, 111, 110]⟩, ⟨#[115, 116, 97, 116, 101]⟩, ⟨#[108, 105, 109, 105, 116]⟩, ⟨#[116, 114, 97, 105, 108, 105, 110, 103]⟩]
theorem names_data : (strData NAMES : DataW Unit) = Rows.laid_vestry_fault_names := rfl
theorem pow_data : (Lib.tabData .u64 Lib.pow10Tab : DataW Unit) = Rows.laid_internal_strconv_uint64pow10 := rfl
theorem glob {W : World} (h : laidMetH Tryd.prog laid W) : GV W := by
  have h' : laidMet Tryd.prog plain W ∧ handlesMet Tryd.prog [("errors.errorType", Rows.laid_errors_errorType)] W := h
  have hr := fun i hi => strs_at (zs := NAMES) g_names t_names Tryd.underlying61 Tryd.underlying9 c_str c_names h'.1 (by rw [names_data]; exact List.mem_cons_of_mem _ (List.mem_cons_of_mem _ (List.mem_cons_of_mem _ List.mem_cons_self))) i hi
  have he := errtype_at (d := Rows.laid_errors_errorType) h'.2 (List.mem_singleton.2 rfl)
  have hm : ("internal/strconv.uint64pow10", (Lib.tabData .u64 Lib.pow10Tab : DataW Unit)) ∈ plain := by rw [pow_data]; exact List.mem_cons_of_mem _ (List.mem_cons_of_mem _ List.mem_cons_self)
  have ht := tab_is g_pow t_pow Tryd.underlying96 Tryd.underlying88 c_u64 c_pow h'.1 hm
  have hc := ht.cell g_pow 0 (by decide)
  exact ⟨⟨size_of_cell he, he⟩, ⟨size_of_cell hc, ht⟩, ⟨size_of_cell (hr 7 (by decide)), hr 7 (by decide), hr 12 (by decide)⟩⟩
def cellIn : DataW Unit → Value
  | .lit (.int k n) => .int k n
  | .lit (.string s) => .string ⟨s.toArray⟩
  | _ => .nilIface
def cellsIn : DataW Unit → Array Value
  | .agg ps => (ps.map cellIn).toArray
  | _ => #[]
noncomputable def laidWorld (os : Os) : World :=
  let w0 := World.holding Tryd.prog os ⟨#[], #[], []⟩
  let put := fun (h : Array Obj) (g : Nat) (cs : Array Value) => h.modify g fun
      | .cells _ t frozen => .cells cs t frozen
      | o => o
  { w0 with heap := put (put (put (put (put w0.heap 1 #[.iface 73 (.agg #[.pointer (some ⟨5, 28, none⟩)])]) 0 (cellsIn Rows.laid_vestry_fault_names)) 2 (cellsIn Rows.laid_internal_strconv_uint64pow10)) 3 (cellsIn Rows.laid_math_bits_deBruijn32tab)) 4 (cellsIn Rows.laid_math_bits_deBruijn64tab) }
set_option maxRecDepth 100000 in
theorem laid_met (os : Os) (args : Array Value) : laidMetH Tryd.prog laid ((laidWorld os).forCall (fun _ _ => 0) ⟨#[], args, []⟩).memory :=
  laidMetH_of_parts (laidMet_of_run' 8 (by kernel_rfl) (by kernel_rfl)) (by kernel_rfl)
end Go.Proofs.YtmnfemdcccpmfaaDoor.HFaultG
