/- The package name. -/
import Derived.Test.YtohimcpfmkgefaaDoorUT
import Derived.Test.YtohimcpfmkgefaaDoorShelf
import Derived.Test.YtohimcpfmkgefaaDoorUP
namespace Go.Proofs.YtohimcpfmkgefaaDoor.HName
open Go.RowKit Go.Proofs.YtohimcpfmkgefaaDoorW.PrintWords Go.Proofs.YtohimcpfmkgefaaDoor.HLib Go.Proofs.YtohimcpfmkgefaaDoor.HNameP
set_option linter.unusedVariables false
set_option linter.unusedSimpArgs false

theorem indexbyte_any (s : ByteArray) (c : Int) (w : World) : Calls Tryd.prog 41 #[.string s, .int .u8 c] w fun e w' => e = .returned (.int .i64 (findP s c)) ∧ w = w' :=
  (Tryd.strings_IndexByte s c w).mono fun _ _ ⟨a, b⟩ => ⟨a, b.symm⟩

set_option maxHeartbeats 4000000 in
theorem has_any (set s : ByteArray) (w : World) (hs : s.size ≤ 1099511627776) : Calls Tryd.prog 31 #[.string set, .string s] w fun e w' => e = .returned (.bool (allC (memC set) s)) ∧ w = w' := by
  go_enter Tryd.func31, Tryd.ntmps31
  go_wp2
  go_loop [5, 8] (fun v5 v8 => ∃ (j : Int), v8 = .int .i64 j ∧ Aside0 (0 ≤ j ∧ j ≤ s.size ∧ ∀ i : Nat, i < j.toNat → memC set (bt s i) = true)) (fun _ v8 => s.size - (intOf v8).toNat)
  case atStart => exact ⟨0, rfl, ⟨⟨by omega, by omega, fun i hi => by omega⟩⟩⟩
  case round =>
    obtain ⟨j, rfl, HA⟩ := hrel
    have hj0 := HA.out.1
    have hjm : j ≤ 1099511627776 := by have := HA.out; omega
    by_cases c1 : j < s.size
    · have d1 : decide (j < (s.size : Int)) = true := decide_eq_true c1
      go_wp2_with fail
      rw [bt_at s j]
      refine (indexbyte_any set _ _).mono ?_
      rintro e w1 ⟨rfl, rfl⟩
      obtain ⟨V, hV⟩ : ∃ V, V = findP set (bt s j) := ⟨_, rfl⟩
      have HV := Aside0.mk hV
      rw [← hV]
      clear hV
      by_cases c2 : V < 0
      · have d2 : decide (V < 0) = true := decide_eq_true c2
        have HE := Aside0.mk (allC_false (p := memC set) (s := s) j.toNat (by omega) (by rw [show ((j.toNat : Nat) : Int) = j from by omega]; unfold memC; exact decide_eq_false (by have := HV.out; unfold findP at this; omega)))
        go_wp2
        go_ret
        exact ⟨by rw [HE.out]; rfl, rfl⟩
      · have d2 : decide (V < 0) = false := decide_eq_false c2
        go_wp2
        go_round
        case measure => simp [intOf]; omega
        case rel =>
          refine ⟨j + 1, rfl, ⟨⟨by omega, by omega, fun i hi => ?_⟩⟩⟩
          by_cases hij : i < j.toNat
          · exact HA.out.2.2 i hij
          · rw [show i = j.toNat from by omega, show ((j.toNat : Nat) : Int) = j from by omega]
            unfold memC
            exact decide_eq_true (by have := HV.out; unfold findP at this; omega)
    · have d1 : decide (j < (s.size : Int)) = false := decide_eq_false c1
      have HE := Aside0.mk (allC_true (p := memC set) (s := s) (fun i hi => HA.out.2.2 i (by omega)))
      go_wp2
      go_ret
      exact ⟨by rw [HE.out]; rfl, rfl⟩

/-- What the listed variable name.reserved holds. -/
def ResG (w : World) : Prop := 0 < w.heap.size ∧ ∀ j : Nat, j < 3 → w.cell? ⟨0, j, none⟩ = some (.string ([DEF, REL, PERM].getD j ByteArray.empty))
theorem ResG.below {w w1 : World} {n : Nat} (h : ResG w) (hb : Below n w w1) (hn : 0 < n) : ResG w1 :=
  ⟨by have := hb.size; have := h.1; omega, fun j hj => by rw [hb.cell (p := ⟨0, j, none⟩) hn]; exact h.2 j hj⟩

set_option maxHeartbeats 4000000 in
theorem reserved_any (s : ByteArray) (w : World) (hG : ResG w) : Calls Tryd.prog 32 #[.string s] w fun e w' => e = .returned (.bool (resP s)) ∧ w = w' := by
  have HG := Aside0.mk hG
  clear hG
  go_enter Tryd.func32, Tryd.ntmps32
  go_wp2_with fail
  refine (Tryd.slices_Contains_string 0 0 3 3 [DEF, REL, PERM] s _ (by decide) (by decide) (fun j hj => by rw [Nat.zero_add]; exact HG.out.2 j hj)).mono ?_
  rintro e w1 ⟨rfl, hw⟩
  subst hw
  go_wp2
  go_ret
  exact ⟨rfl, rfl⟩

set_option maxHeartbeats 4000000 in
theorem is_any (s : ByteArray) (w : World) (hG : ResG w) : Calls Tryd.prog 17 #[.string s] w fun e w' => e = .returned (.bool (isP s)) ∧ w = w' := by
  have HG := Aside0.mk hG
  clear hG
  by_cases h0 : s.size = 0
  · have HN := Aside0.mk (isP_no s (.inl h0))
    have he := nil_of_size h0
    clear h0
    go_enter Tryd.func17, Tryd.ntmps17
    go_wp2
    go_ret
    exact ⟨by rw [HN.out]; rfl, rfl⟩
  by_cases h64 : 64 < s.size
  · have HN := Aside0.mk (isP_no s (.inr h64))
    have he := ne_of_size (s := s) (by omega)
    have d1 : ¬ ((s.size : Int) ≤ 64) := by omega
    clear h0 h64
    go_enter Tryd.func17, Tryd.ntmps17
    go_wp2
    go_ret
    exact ⟨by rw [HN.out]; rfl, rfl⟩
  have he := ne_of_size (s := s) (by omega)
  have he2 : s.toList.isEmpty = false := by cases h : s.toList with
    | nil => exact absurd h he
    | cons a l => rfl
  have h1 : (1 : Int) ≤ (s.size : Int) := by omega
  have h2 : (s.size : Int) ≤ 64 := by omega
  have HX := Aside0.mk (show (s.extract 0 1).size ≤ 1099511627776 by rw [ByteArray.size_extract]; omega)
  have HV := Aside0.mk (first_small s (by omega))
  have HP := Aside0.mk (isP_eq s (by omega) (by omega))
  have HA := Aside0.mk (all_name s)
  clear h0 h64
  go_enter Tryd.func17, Tryd.ntmps17
  go_wp2_with fail
  refine (has_any SMALL _ _ HX.out).mono ?_
  rintro e w1 ⟨rfl, rfl⟩
  rw [HV.out]
  cases hv : smallC (bt s 0) with
  | false =>
    rw [hv, Bool.false_and] at HP
    clear hv HV
    go_wp2
    go_ret
    exact ⟨by rw [HP.out]; rfl, rfl⟩
  | true =>
    rw [hv, Bool.true_and] at HP
    clear hv HV
    go_wp2_with fail
    refine (has_any INNAME _ _ (by omega)).mono ?_
    rintro e w1 ⟨rfl, rfl⟩
    rw [HA.out]
    cases hn : allC nameC s with
    | false =>
      rw [hn, Bool.false_and] at HP
      clear hn HA
      go_wp2
      go_ret
      exact ⟨by rw [HP.out]; rfl, rfl⟩
    | true =>
      rw [hn, Bool.true_and] at HP
      clear hn HA
      go_wp2_with fail
      refine (reserved_any _ _ HG.out).mono ?_
      rintro e w1 ⟨rfl, rfl⟩
      go_wp2
      go_ret
      exact ⟨by rw [HP.out]; rfl, rfl⟩

end Go.Proofs.YtohimcpfmkgefaaDoor.HName
/- The reference's names: the printed functions are the plain ones. -/
namespace Go.Proofs.YtohimcpfmkgefaaDoor.HNameR
open Go.RowKit Go.Proofs.YtohimcpfmkgefaaDoorW.PrintWords Go.Proofs.YtohimcpfmkgefaaDoor.HNameP Go.Proofs.YtohimcpfmkgefaaDoor.HPr
set_option linter.unusedVariables false
set_option linter.unusedSimpArgs false

theorem list_eq (s : ByteArray) (l : Array UInt8) : (s.toList = l.toList) ↔ s = ⟨l⟩ := by
  rw [ByteArray.toList_eq]
  constructor
  · intro h
    exact ByteArray.ext (Array.toList_inj.mp h)
  · rintro rfl
    rfl
/-- A loop over the bytes from j on. -/
def allFrom (p : Int → Bool) (s : ByteArray) (j : Nat) : Bool := (List.range (s.size - j)).all fun (i : Nat) => p (bt s ((j + i : Nat) : Int))
theorem allFrom_zero (p : Int → Bool) (s : ByteArray) : allFrom p s 0 = allC p s := by simp [allFrom, allC]
theorem allFrom_done (p : Int → Bool) (s : ByteArray) (j : Nat) (h : s.size ≤ j) : allFrom p s j = true := by
  unfold allFrom
  rw [show s.size - j = 0 from by omega]
  rfl
theorem allFrom_step (p : Int → Bool) (s : ByteArray) (j : Nat) (h : j < s.size) : allFrom p s j = (p (bt s j) && allFrom p s (j + 1)) := by
  unfold allFrom
  rw [show s.size - j = (s.size - (j + 1)) + 1 from by omega, List.range_succ_eq_map, List.all_cons, List.all_map]
  congr 2
  funext i
  simp only [Function.comp]
  rw [show j + Nat.succ i = j + 1 + i from by omega]
def ecode : Option (Int × Int) → Int
  | none => 0
  | some (n, _) => n
def eat : Option (Int × Int) → Int
  | none => 0
  | some (_, m) => m
theorem told_self (e : Option (Int × Int)) (h : ∀ n m, e = some (n, m) → n ≠ 0) : toldP e (ecode e) (eat e) = true := by
  cases e with
  | none => rfl
  | some p => obtain ⟨n, m⟩ := p; simp [toldP, ecode, eat, h n m rfl]
theorem ext_size (s : ByteArray) (a b : Nat) : (s.extract a b).size ≤ s.size := by rw [ByteArray.size_extract]; omega
theorem parseO_code (s : ByteArray) (n m : Int) (h : (parseO s).2.2 = some (n, m)) : n ≠ 0 := by
  unfold parseO at h
  split at h
  · cases h; decide
  · split at h
    · cases h; decide
    · split at h
      · cases h; decide
      · cases h
theorem parseA_code (s : ByteArray) (n m : Int) (h : (parseA s).2.2 = some (n, m)) : n ≠ 0 := by
  unfold parseA at h
  split at h
  · cases h; decide
  · split at h
    · cases h; decide
    · cases h
end Go.Proofs.YtohimcpfmkgefaaDoor.HNameR
/- The package name: objects and allowed types. -/
namespace Go.Proofs.YtohimcpfmkgefaaDoor.HName
open Go.RowKit Go.Proofs.YtohimcpfmkgefaaDoorW.PrintWords Go.Proofs.YtohimcpfmkgefaaDoor.HLib Go.Proofs.YtohimcpfmkgefaaDoor.HNameP
set_option linter.unusedVariables false
set_option linter.unusedSimpArgs false

end Go.Proofs.YtohimcpfmkgefaaDoor.HName
/- The package name: allowed types; told. -/
namespace Go.Proofs.YtohimcpfmkgefaaDoor.HName
open Go.RowKit Go.Proofs.YtohimcpfmkgefaaDoorW.PrintWords Go.Proofs.YtohimcpfmkgefaaDoor.HLib Go.Proofs.YtohimcpfmkgefaaDoor.HNameP
set_option linter.unusedVariables false
set_option linter.unusedSimpArgs false

theorem two_cells {w1 : World} {g : Nat} {x y : Value} (a b : Value) (h0 : w1.cell? ⟨g, 0, none⟩ = some x) (h1 : w1.cell? ⟨g, 1, none⟩ = some y) :
    ((w1.setCell ⟨g, 0, none⟩ a).setCell ⟨g, 1, none⟩ b).cell? ⟨g, 0, none⟩ = some a ∧ ((w1.setCell ⟨g, 0, none⟩ a).setCell ⟨g, 1, none⟩ b).cell? ⟨g, 1, none⟩ = some b := by
  refine ⟨?_, ?_⟩
  · rw [World.cell?_setCell_other (h := by intro h; cases h)]
    exact World.cell?_setCell_same _ _ _ h0
  · refine World.cell?_setCell_same _ _ _ (u := y) ?_
    rw [World.cell?_setCell_other (h := by intro h; cases h)]
    exact h1

end Go.Proofs.YtohimcpfmkgefaaDoor.HName
/- The package name: the texts of objects and of allowed types; the reference's. -/
namespace Go.Proofs.YtohimcpfmkgefaaDoor.HName
open Go.RowKit Go.Proofs.YtohimcpfmkgefaaDoorW.PrintWords Go.Proofs.YtohimcpfmkgefaaDoor.HLib Go.Proofs.YtohimcpfmkgefaaDoor.HNameP Go.Proofs.YtohimcpfmkgefaaDoor.HNameR Go.Proofs.YtohimcpfmkgefaaDoor.HPr
set_option linter.unusedVariables false
set_option linter.unusedSimpArgs false

def objP (t d : ByteArray) : Bool := isP t && idP d
def objS (t d : ByteArray) : ByteArray := if objP t d then t ++ ⟨#[58]⟩ ++ d else ⟨#[]⟩
def allP (t r : ByteArray) : Bool := isP t && (decide (r.size = 0) || isP r)
def allT (t r : ByteArray) : ByteArray := if r.size = 0 then t else t ++ ⟨#[35]⟩ ++ r
def allS (t r : ByteArray) : ByteArray := if allP t r then allT t r else ⟨#[]⟩

theorem isP_size {s : ByteArray} (h : isP s = true) : 1 ≤ s.size ∧ s.size ≤ 64 := by
  simp only [isP, Bool.and_eq_true, decide_eq_true_eq] at h
  exact ⟨h.1, h.2.1⟩
theorem idP_size {s : ByteArray} (h : idP s = true) : 1 ≤ s.size ∧ s.size ≤ 128 := by
  simp only [idP, Bool.and_eq_true, decide_eq_true_eq] at h
  exact ⟨h.1, h.2.1⟩

set_option maxHeartbeats 4000000 in
theorem allowed_any (t d : ByteArray) (w : World) (hG : ResG w) : Calls Tryd.prog 44 #[.agg #[.string t, .string d]] w fun e w' => e = .returned (.tuple #[.string (allS t d), .bool (allP t d)]) ∧ Below w.heap.size w w' := by
  have HGA : Aside0 (ResG (w.alloc (.cells #[.string t, .string d] 29))) := ⟨hG.below (below_alloc (B0 w) _) hG.1⟩
  clear hG
  cases h1 : isP t with
  | false =>
    have HP := Aside0.mk (show allP t d = false from by unfold allP; rw [h1, Bool.false_and])
    have H1 := Aside0.mk h1
    clear h1
    go_enter Tryd.func44, Tryd.ntmps44
    go_wp2_with fail
    refine (is_any _ _ HGA.out).mono ?_
    rintro e w1 ⟨rfl, rfl⟩
    rw [H1.out]
    go_wp2
    go_ret2
    unfold allS
    rw [HP.out]
    exact ⟨rfl, below_alloc (B0 w) _⟩
  | true =>
    by_cases h0 : d.size = 0
    · have HP := Aside0.mk (show allP t d = true from by unfold allP; rw [h1, decide_eq_true h0]; rfl)
      have HT := Aside0.mk (show allT t d = t from if_pos h0)
      have H1 := Aside0.mk h1
      have he := nil_of_size h0
      clear h1 h0
      go_enter Tryd.func44, Tryd.ntmps44
      go_wp2_with fail
      refine (is_any _ _ HGA.out).mono ?_
      rintro e w1 ⟨rfl, rfl⟩
      rw [H1.out]
      go_wp2
      go_ret2
      unfold allS
      rw [HP.out, HT.out]
      exact ⟨rfl, below_alloc (B0 w) _⟩
    · have he := ne_of_size (s := d) (by omega)
      have he2 : d.toList.isEmpty = false := by cases h : d.toList with
        | nil => exact absurd h he
        | cons a l => rfl
      cases h2 : isP d with
      | false =>
        have HP := Aside0.mk (show allP t d = false from by unfold allP; rw [h1, h2, decide_eq_false h0]; rfl)
        have H1 := Aside0.mk h1
        have H2 := Aside0.mk h2
        clear h1 h2 h0
        go_enter Tryd.func44, Tryd.ntmps44
        go_wp2_with fail
        refine (is_any _ _ HGA.out).mono ?_
        rintro e w1 ⟨rfl, rfl⟩
        rw [H1.out]
        go_wp2_with fail
        refine (is_any _ _ HGA.out).mono ?_
        rintro e w1 ⟨rfl, rfl⟩
        rw [H2.out]
        go_wp2
        go_ret2
        unfold allS
        rw [HP.out]
        exact ⟨rfl, below_alloc (B0 w) _⟩
      | true =>
        have HP := Aside0.mk (show allP t d = true from by unfold allP; rw [h1, h2, decide_eq_false h0]; rfl)
        have HT := Aside0.mk (show allT t d = t ++ ⟨#[35]⟩ ++ d from if_neg h0)
        have H1 := Aside0.mk h1
        have H2 := Aside0.mk h2
        have hs1 := isP_size h1
        have hs2 := isP_size h2
        have z1 : t.size + 1 ≤ 9223372036854775807 := by omega
        have z2 : (t ++ (⟨#[35]⟩ : ByteArray)).size + d.size ≤ 9223372036854775807 := by rw [ByteArray.size_append]; simp only [ByteArray.size]; have e1 : t.size = t.data.size := rfl; have e2 : d.size = d.data.size := rfl; simp; omega
        clear h1 h2 hs1 hs2 h0
        go_enter Tryd.func44, Tryd.ntmps44
        go_wp2_with fail
        refine (is_any _ _ HGA.out).mono ?_
        rintro e w1 ⟨rfl, rfl⟩
        rw [H1.out]
        go_wp2_with fail
        refine (is_any _ _ HGA.out).mono ?_
        rintro e w1 ⟨rfl, rfl⟩
        rw [H2.out]
        go_wp2
        go_ret2
        unfold allS
        rw [HP.out, HT.out]
        exact ⟨rfl, below_alloc (B0 w) _⟩

end Go.Proofs.YtohimcpfmkgefaaDoor.HName
