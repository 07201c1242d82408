/- Lists of bytes that a walk lays. -/
import Derived.Test.YthhckkfdcnddfaaDoorHShaW
namespace Go.Proofs.YthhckkfdcnddfaaDoor.HShaB
open Go.RowKit Go.Proofs.YthhckkfdcnddfaaDoorW.PrintWords Go.Proofs.YthhckkfdcnddfaaDoor.HLib Go.Proofs.YthhckkfdcnddfaaDoor.HSha Go.Proofs.YthhckkfdcnddfaaDoor.HShaU Go.Proofs.YthhckkfdcnddfaaDoor.HShaV Go.Proofs.YthhckkfdcnddfaaDoor.HShaW
set_option linter.unusedVariables false
set_option linter.unusedSimpArgs false

theorem KB_one {w : World} {g : Nat} {A0 : Option Addr} {xs : List Int} {c0 : Nat} (h : w.cell? ⟨g, 0, none⟩ = some (.slice A0 xs.length c0)) (hc : xs.length ≤ c0) (hC : (Kd.int .u8).C w A0 xs.length xs) : KB.C w (some ⟨g, 0, none⟩) 1 [xs] := by
  refine ⟨rfl, by decide, fun _ => ⟨_, rfl, fun j p hj => ?_⟩⟩
  cases j with
  | succ j => simp at hj
  | zero =>
    obtain rfl : xs = p := by simpa using hj
    refine ⟨[.slice A0 xs.length c0], rfl, ⟨A0, c0, rfl, hc, hC⟩, fun q u hq => ?_⟩
    cases q with
    | succ q => simp at hq
    | zero =>
      obtain rfl : Value.slice A0 xs.length c0 = u := by simpa using hq
      exact h
theorem bytes_C {w : World} {g : Nat} {t : TypeId} {fr : Nat × Nat} {xs : List Int} (h : w.heap[g]? = some (.cells (nums .u8 xs).toArray t fr)) (hl : xs.length ≤ 4294967296) : (Kd.int .u8).C w (some ⟨g, 0, none⟩) xs.length xs := by
  refine Kd.C_of_reads (d := (0 : Int)) (readsInt_of.1 ⟨rfl, by omega, fun _ => ⟨_, rfl, fun j hj => ?_⟩⟩)
  have e : (⟨g, 0, none⟩ : Addr).add j = ⟨g, j, none⟩ := by unfold Addr.add; split <;> simp_all
  rw [e]
  simp [World.cell?, h, nums, List.getElem?_eq_getElem hj, List.getD_eq_getElem?_getD]

/-- A row of slices that a walk laid, and what each reads. -/
theorem KB_list {w : World} {g : Nat} {vs : List Value} {t : TypeId} {fr : Nat × Nat} {xss : List (List Int)} (h : w.heap[g]? = some (.cells vs.toArray t fr)) (hl : vs.length = xss.length) (hm : xss.length ≤ 4294967296)
    (each : ∀ (i : Nat) (v : Value) (xs : List Int), vs[i]? = some v → xss[i]? = some xs → ∃ A c, v = .slice A xs.length c ∧ xs.length ≤ c ∧ (Kd.int .u8).C w A xs.length xs) : KB.C w (some ⟨g, 0, none⟩) xss.length xss := by
  refine ⟨rfl, by omega, fun _ => ⟨_, rfl, fun j p hj => ?_⟩⟩
  have hjl : j < xss.length := (List.getElem?_eq_some_iff.1 hj).1
  obtain ⟨A, c, hv, hc, hC⟩ := each j vs[j] p (List.getElem?_eq_getElem (by omega)) hj
  refine ⟨[.slice A p.length c], rfl, ⟨A, c, rfl, hc, hC⟩, fun q u hq => ?_⟩
  cases q with
  | succ q => simp at hq
  | zero =>
    obtain rfl : Value.slice A p.length c = u := by simpa using hq
    have e : (⟨g, 0, none⟩ : Addr).add (j * KB.sz + 0) = ⟨g, j, none⟩ := by
      show (⟨g, 0, none⟩ : Addr).add (j * 1 + 0) = _
      unfold Addr.add
      split <;> simp_all
    rw [e]
    have hg : vs[j]? = some (.slice A p.length c) := by rw [List.getElem?_eq_getElem (by omega), hv]
    simp [World.cell?, h, hg]

end Go.Proofs.YthhckkfdcnddfaaDoor.HShaB
