/- Byte slices that came in, opened (nil ones have no room). -/
import Derived.Test.YtlbbhgmpiednfaaGreatDoorUO
import Derived.Test.YtlbbhgmpiednfaaGreatDoorUT
namespace Go.Proofs.YtlbbhgmpiednfaaGreatDoor.HTupOb
open Go.RowKit Go.WideShapes Go.Proofs.YtlbbhgmpiednfaaGreatDoorW.PrintWords Go.Proofs.YtlbbhgmpiednfaaGreatDoor.HLib
set_option linter.unusedVariables false
set_option maxRecDepth 100000

theorem opensBytes : HOpen.Opens Tryz.prog 36 (Kd.slice 5 (Kd.int .u8)) (fun xs : List Int => (∀ b ∈ xs, (Lit.int .u8 b).wf = true) ∧ xs.length ≤ maxLen) (fun xs : List Int => (xs.map fun _ => 1).sum + 1) :=
  HOpen.opens_slice Tryz.underlying36 (by kernel_rfl) (HOpen.opens_int Tryz.underlying5)
/-- This cell is a slice of these bytes. -/
def KB (w : World) (xs : List Int) (cs : List Value) : Prop := ∃ A c, cs = [.slice A xs.length c] ∧ xs.length ≤ c ∧ (Kd.int .u8).C w A xs.length xs ∧ (A = none → c = 0)
def OKB (xs : List Int) : Prop := (∀ b ∈ xs, (Lit.int .u8 b).wf = true) ∧ xs.length ≤ maxLen
theorem open_bytes {H : Type} (enc : TypeId × Value → H) (w : World) (held : Bool) (fuel : Nat) (cs : List Value) (x : DataW H × List MemPlace)
    (h : DataW.trod enc Tryz.prog w 0 (fun _ => true) held fuel 36 cs = some x) : ∃ a : List Int, KB w a cs ∧ OKB a ∧ (0 : Nat) ≤ Rows.uptoBulk x.1 := by
  obtain ⟨a, ⟨A, c, e, hc, hC⟩, ok, _⟩ := opensBytes enc w held fuel cs x h
  refine ⟨a, ⟨A, c, e, hc, hC, ?_⟩, ok, Nat.zero_le _⟩
  rintro rfl
  subst e
  cases c with
  | zero => rfl
  | succ c =>
    exfalso
    cases fuel with
    | zero => simp [DataW.trod] at h
    | succ fuel => simp [DataW.trod, Tryz.underlying36] at h
theorem bs_of {w : World} {v : Value} {xs : List Int} {base : Nat} (hv : Value.okWide Tryz.prog w .any base 36 v) (k : KB w xs v.cells.toList) : ∃ A c, v = .slice A xs.length c ∧ Bs w v xs := by
  obtain ⟨A0, len, cap, rfl⟩ := WideShapes.okWide_slice Tryz.underlying36 hv
  obtain ⟨A, c, e, hc, hC, hn⟩ := k
  simp only [Value.cells, List.cons.injEq, and_true] at e
  rw [e]
  exact ⟨A, c, rfl, A, c, rfl, hc, hC, hn⟩
theorem byte_wf {xs : List Int} (h : OKB xs) : ∀ x ∈ xs, 0 ≤ x ∧ x < 256 := fun x hx => HLib.wf_u8 (h.1 x hx)
end Go.Proofs.YtlbbhgmpiednfaaGreatDoor.HTupOb
