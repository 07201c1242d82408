/- Descriptions of errors that came in, opened. -/
import Derived.Test.YtmnfemdcccpmfaaDoorHOpen
import Derived.Test.YtmnfemdcccpmfaaDoorHFault
import Derived.Lib.SmallJoins
namespace Go.Proofs.YtmnfemdcccpmfaaDoor.HFaultO
open Go.RowKit Go.WideShapes Go.Proofs.YtmnfemdcccpmfaaDoorW.PrintWords Go.Proofs.YtmnfemdcccpmfaaDoor.HLib Go.Proofs.YtmnfemdcccpmfaaDoor.HOpen Go.Joins
set_option linter.unusedVariables false
set_option maxRecDepth 100000

abbrev Desc := Bool × List ByteArray × Int × Int × Bool
/-- These cells are a description. -/
def KD (w : World) (x : Desc) (cs : List Value) : Prop :=
  ∃ A cap, cs = [.bool x.1, .slice A x.2.1.length cap, .int .i64 x.2.2.1, .int .i64 x.2.2.2.1, .bool x.2.2.2.2] ∧ x.2.1.length ≤ cap ∧ Kd.C Kd.string w A x.2.1.length x.2.1
def OK (x : Desc) : Prop := ((Lit.int .i64 x.2.2.1).wf = true ∧ (Lit.int .i64 x.2.2.2.1).wf = true) ∧ (∀ p ∈ x.2.1, p.size ≤ maxLen) ∧ x.2.1.length ≤ maxLen
theorem c4 : Tryd.prog.cellsOf 4 = 1 := by kernel_rfl
theorem c22 : Tryd.prog.cellsOf 22 = 1 := by kernel_rfl
theorem c3 : Tryd.prog.cellsOf 3 = 1 := by kernel_rfl
theorem c24 : Tryd.prog.cellsOf 24 = 5 := by kernel_rfl
theorem c9 : Tryd.prog.cellsOf 9 = 1 := by kernel_rfl

theorem open_desc {H : Type} (enc : TypeId × Value → H) (w : World) (held : Bool) (fuel : Nat) (cs : List Value) (x : DataW H × List MemPlace)
    (h : DataW.trod enc Tryd.prog w 0 (fun _ => true) held fuel 24 cs = some x) : ∃ a : Desc, KD w a cs ∧ OK a ∧ (0 : Nat) ≤ Rows.uptoBulk x.1 := by
  obtain ⟨xs, n, _, rfl, hl, hlen, hf⟩ := DataW.trod_struct Tryd.underlying24 h
  rw [c24] at hl
  have h0 := hf 0 _ rfl
  have h1 := hf 1 _ rfl
  have h2 := hf 2 _ rfl
  have h3 := hf 3 _ rfl
  have h4 := hf 4 _ rfl
  match cs, hl with
  | [v0, v1, v2, v3, v4], _ =>
    match xs, hlen with
    | [y0, y1, y2, y3, y4], _ =>
      have h0 : DataW.trod enc Tryd.prog w 0 (fun _ => true) held n 4 (([v0, v1, v2, v3, v4].drop 0).take (Tryd.prog.cellsOf 4)) = some y0 := h0
      rw [c4] at h0
      have h1 : DataW.trod enc Tryd.prog w 0 (fun _ => true) held n 22 (([v0, v1, v2, v3, v4].drop 1).take (Tryd.prog.cellsOf 22)) = some y1 := h1
      rw [c22] at h1
      have h2 : DataW.trod enc Tryd.prog w 0 (fun _ => true) held n 3 (([v0, v1, v2, v3, v4].drop 2).take (Tryd.prog.cellsOf 3)) = some y2 := h2
      rw [c3] at h2
      have h3 : DataW.trod enc Tryd.prog w 0 (fun _ => true) held n 3 (([v0, v1, v2, v3, v4].drop 3).take (Tryd.prog.cellsOf 3)) = some y3 := h3
      rw [c3] at h3
      have h4 : DataW.trod enc Tryd.prog w 0 (fun _ => true) held n 4 (([v0, v1, v2, v3, v4].drop 4).take (Tryd.prog.cellsOf 4)) = some y4 := h4
      rw [c4] at h4
      obtain ⟨b0, e0, _⟩ := DataW.trod_bool Tryd.underlying4 (show DataW.trod enc Tryd.prog w 0 (fun _ => true) held n 4 [v0] = some y0 from h0)
      obtain ⟨ps, ⟨A, cap, e1, hcap, hC⟩, hok, _⟩ := opens_slice Tryd.underlying22 c9 (opens_string Tryd.underlying9) enc w held n [v1] y1 h1
      obtain ⟨c, e2, _, wc⟩ := DataW.trod_int Tryd.underlying3 (show DataW.trod enc Tryd.prog w 0 (fun _ => true) held n 3 [v2] = some y2 from h2)
      obtain ⟨a, e3, _, wa⟩ := DataW.trod_int Tryd.underlying3 (show DataW.trod enc Tryd.prog w 0 (fun _ => true) held n 3 [v3] = some y3 from h3)
      obtain ⟨b4, e4, _⟩ := DataW.trod_bool Tryd.underlying4 (show DataW.trod enc Tryd.prog w 0 (fun _ => true) held n 4 [v4] = some y4 from h4)
      injection e0 with e0 _
      injection e1 with e1 _
      injection e2 with e2 _
      injection e3 with e3 _
      injection e4 with e4 _
      subst e0 e1 e2 e3 e4
      exact ⟨(b0, ps, c, a, b4), ⟨A, cap, rfl, hcap, hC⟩, ⟨⟨wc, wa⟩, hok⟩, Nat.zero_le _⟩
/-- The value of a description. -/
theorem desc_of {w : World} {base : Nat} {v : Value} {x : Desc} (hv : Value.okWide Tryd.prog w .any base 24 v) (hk : KD w x v.cells.toList) :
    ∃ A cap, v = .agg #[.bool x.1, .slice A x.2.1.length cap, .int .i64 x.2.2.1, .int .i64 x.2.2.2.1, .bool x.2.2.2.2] ∧ x.2.1.length ≤ cap ∧ Kd.C Kd.string w A x.2.1.length x.2.1 := by
  obtain ⟨cs, rfl, hsz⟩ := okWide_struct Tryd.underlying24 hv
  obtain ⟨A, cap, e, h1, h2⟩ := hk
  refine ⟨A, cap, ?_, h1, h2⟩
  congr 1
  apply Array.ext'
  exact e
end Go.Proofs.YtmnfemdcccpmfaaDoor.HFaultO
