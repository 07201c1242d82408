/- Structs of two strings that came in, by value. -/
import Derived.Test.YtpbkcfgcmknijaaDoorRows
import Derived.Lib.SmallJoins
namespace Go.Proofs.YtpbkcfgcmknijaaDoor.HStr2
open Go.WideShapes Go.ChangeShapes Go.Joins Go.Deep
set_option linter.unusedVariables false

theorem open_str2 {H : Type} {enc : TypeId × Value → H} {P : Program} {w : World} {base : Nat} {spare : Nat → Bool} {held : Bool} {r : Reach} {b0 : Nat} {t : TypeId} {f0 f1 : Field} {v : Value} {d : DataW H} {p : List MemPlace}
    (hs : P.underlying t = some (.struct #[f0, f1])) (hone : oneCellFields P #[f0, f1] = true) (hC : P.cellsOf t = 2) (e0 : P.underlying f0.type = some .string) (e1 : P.underlying f1.type = some .string)
    (hv : Value.okWide P w r b0 t v) (h : DataW.Trod enc P w base spare held t v d p) :
    ∃ a b : ByteArray, v = .agg #[.string a, .string b] ∧ (a.size ≤ maxLen ∧ b.size ≤ maxLen) ∧ a.size + b.size ≤ Rows.uptoBulk d := by
  obtain ⟨c0, c1, y0, y1, m, rfl, rfl, rfl, hy0, hy1⟩ := open_agg2 hs hone hC hv h
  obtain ⟨a, h0, rfl, wa⟩ := DataW.trod_string e0 hy0
  obtain ⟨b, h1, rfl, wb⟩ := DataW.trod_string e1 hy1
  simp at h0 h1
  subst h0 h1
  refine ⟨a, b, rfl, ⟨wa, wb⟩, ?_⟩
  have ea : a.data.toList.length = a.size := by rw [Array.length_toList]; rfl
  have eb : b.data.toList.length = b.size := by rw [Array.length_toList]; rfl
  simp only [Rows.uptoBulk, Rows.uptoBulkAll]
  omega
end Go.Proofs.YtpbkcfgcmknijaaDoor.HStr2
