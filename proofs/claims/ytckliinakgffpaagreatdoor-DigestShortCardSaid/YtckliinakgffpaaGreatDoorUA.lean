/- Arrays of whole numbers that came in. -/
import Derived.Test.YtckliinakgffpaaGreatDoorUT
import Derived.OpenShut
import Derived.ChangeOld
namespace Go.Proofs.YtckliinakgffpaaGreatDoor.HArr
open Go.RowKit Go.ChangeShapes Go.WideShapes Go.Proofs.YtckliinakgffpaaGreatDoorW.PrintWords Go.Proofs.YtckliinakgffpaaGreatDoor.HLib
set_option linter.unusedVariables false

theorem open_arr {H : Type} {enc : TypeId × Value → H} {P : Program} {w : World} {base : Nat} {spare : Nat → Bool} {held : Bool} {r : Reach} {b0 : Nat} {t e : TypeId} {n : Nat} {k : IntKind} {v : Value} {d : DataW H} {ps : List MemPlace}
    (ht : P.underlying t = some (.array n e)) (he : P.underlying e = some (.int k)) (hce : P.cellsOf e = 1) (hct : P.cellsOf t = n) (hv : Value.okWide P w r b0 t v) (h : DataW.Trod enc P w base spare held t v d ps) :
    ∃ zs : List Int, zs.length = n ∧ v = .agg (nums k zs).toArray ∧ ∀ z ∈ zs, (Lit.int k z).wf = true := by
  have hv2 : ∃ cs, v = Value.agg cs ∧ cs.size = P.cellsOf t ∧ Row.okWide P w r b0 t cs := by
    unfold Value.okWide at hv
    rw [ht] at hv
    exact hv
  obtain ⟨cs, rfl, hsz, _⟩ := hv2
  obtain ⟨fuel, hf⟩ := h
  obtain ⟨xs, m, rfl, hx, hl, hxl, hel⟩ := DataW.trod_array ht hf
  have hcl : cs.toList.length = n := by rw [Array.length_toList, hsz, hct]
  have each : ∀ i, i < n → ∃ z : Int, cs.toList[i]? = some (.int k z) ∧ (Lit.int k z).wf = true := by
    intro i hi
    have h1 := hel i hi
    rw [hce, Nat.mul_one, List.getElem?_eq_getElem (show i < xs.length by omega)] at h1
    obtain ⟨z, hz, _, hw⟩ := DataW.trod_int he h1
    refine ⟨z, ?_, hw⟩
    have h2 : ((cs.toList.drop i).take 1)[0]? = some (.int k z) := by rw [show (cs.toList.drop i).take 1 = [.int k z] from hz]; rfl
    rwa [List.getElem?_take_of_lt (by decide), List.getElem?_drop, Nat.add_zero] at h2
  obtain ⟨f, hf2⟩ : ∃ f : Nat → Int, ∀ i, i < n → cs.toList[i]? = some (.int k (f i)) ∧ (Lit.int k (f i)).wf = true :=
    ⟨fun i => if h : i < n then (each i h).choose else 0, fun i hi => by
      simp only [dif_pos hi]
      exact (each i hi).choose_spec⟩
  refine ⟨(List.range n).map f, by simp, ?_, ?_⟩
  · congr 1
    apply Array.ext'
    apply List.ext_getElem?
    intro i
    by_cases hi : i < n
    · rw [(hf2 i hi).1]
      simp [nums, List.getElem?_range hi]
    · rw [List.getElem?_eq_none (by omega)]
      exact (List.getElem?_eq_none (by simp only [nums, List.length_map, List.length_range]; omega)).symm
  · intro z hz
    obtain ⟨i, hi, rfl⟩ := List.mem_map.1 hz
    exact (hf2 i (List.mem_range.1 hi)).2

end Go.Proofs.YtckliinakgffpaaGreatDoor.HArr
