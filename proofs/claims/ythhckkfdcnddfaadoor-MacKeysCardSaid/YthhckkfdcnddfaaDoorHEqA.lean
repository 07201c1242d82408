/- Arrays of whole numbers, compared: the same one. -/
import Derived.Test.YthhckkfdcnddfaaDoorHLib
import Derived.ChangeKeysEq
namespace Go.Proofs.YthhckkfdcnddfaaDoor.HEqA
open Go.RowKit Go.Proofs.YthhckkfdcnddfaaDoorW.PrintWords
set_option linter.unusedVariables false
set_option linter.unusedSimpArgs false

theorem part_int {P : Program} {e : TypeId} {k : IntKind} (he : P.underlying e = some (.int k)) (xs : List Int) (i : Nat) (hi : i < xs.length) (w : World) : (part e (nums k xs).toArray i).run P w = .ok (.int k (xs.getD i 0)) w := by
  have hg : (nums k xs)[i]? = some (.int k (xs.getD i 0)) := by
    simp [nums, List.getElem?_eq_getElem hi, List.getD_eq_getElem?_getD]
  simp [part, isAgg, run_underlying he, Result.andThen, hg]
theorem eq_int {P : Program} {e : TypeId} {k : IntKind} (he : P.underlying e = some (.int k)) (d : Nat) (x : Int) (w : World) : (Op.equalIn (d + 1) e (.int k x) (.int k x)).run P w = .ok true w := by
  simp [Op.equalIn, run_underlying he, Result.andThen]
theorem eq_items {P : Program} {e : TypeId} {k : IntKind} (he : P.underlying e = some (.int k)) (d : Nat) (xs : List Int) (w : World) : ∀ is : List Nat, (∀ i ∈ is, i < xs.length) → (Op.eqItems (d + 1) e 1 (nums k xs).toArray (nums k xs).toArray is).run P w = .ok true w := by
  intro is
  induction is with
  | nil => intro _; simp [Op.eqItems]
  | cons i is ih =>
    intro h
    have h1 := part_int he xs i (h i (List.mem_cons_self ..)) w
    have h2 := eq_int he d (xs.getD i 0) w
    have h3 := ih (fun j hj => h j (List.mem_cons_of_mem _ hj))
    generalize xs.getD i 0 = y at h1 h2
    simp [Op.eqItems, Sem.run_bind, h1, h2, h3, Result.andThen]
theorem eq_arr {P : Program} {t e : TypeId} {n : Nat} {k : IntKind} {i : TypeInfo} (ht : P.underlying t = some (.array n e)) (he : P.underlying e = some (.int k)) (hi : P.info? e = some i) (hce : P.cellsOf e = 1) (xs : List Int) (hn : xs.length = n) (w : World) :
    (Op.equalIn 10000 t (.agg (nums k xs).toArray) (.agg (nums k xs).toArray)).run P w = .ok true w := by
  rw [show (10000 : Nat) = 9998 + 1 + 1 from rfl, run_equalIn_array (w := w) (9998 + 1) (nums k xs).toArray (nums k xs).toArray ht hi, hce]
  exact eq_items he 9998 xs w _ (fun j hj => by rw [hn]; exact List.mem_range.1 hj)

end Go.Proofs.YthhckkfdcnddfaaDoor.HEqA
