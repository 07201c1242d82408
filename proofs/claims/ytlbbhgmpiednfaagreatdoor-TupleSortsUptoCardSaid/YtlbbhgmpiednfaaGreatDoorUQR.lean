/- The reference's Sorted; sorted lists are one. -/
import Derived.Test.YtlbbhgmpiednfaaGreatDoorUQ
import Derived.Test.YtlbbhgmpiednfaaGreatDoorUS
namespace Go.Proofs.YtlbbhgmpiednfaaGreatDoor.HTupSr
open Go.RowKit Go.Proofs.YtlbbhgmpiednfaaGreatDoorW.PrintWords Go.Proofs.YtlbbhgmpiednfaaGreatDoor.HLib Go.Proofs.YtlbbhgmpiednfaaGreatDoor.HGr Go.Proofs.YtlbbhgmpiednfaaGreatDoor.HNameP Go.Proofs.YtlbbhgmpiednfaaGreatDoor.HName Go.Proofs.YtlbbhgmpiednfaaGreatDoor.HTupP Go.Proofs.YtlbbhgmpiednfaaGreatDoor.HTupR Go.Proofs.YtlbbhgmpiednfaaGreatDoor.HTupRf Go.Proofs.YtlbbhgmpiednfaaGreatDoor.HTupV Go.Proofs.YtlbbhgmpiednfaaGreatDoor.HTupE Go.Proofs.YtlbbhgmpiednfaaGreatDoor.HTupO Go.Proofs.YtlbbhgmpiednfaaGreatDoor.HTupC Go.Proofs.YtlbbhgmpiednfaaGreatDoor.HCmp Go.Proofs.YtlbbhgmpiednfaaGreatDoor.HTupSm Go.Proofs.YtlbbhgmpiednfaaGreatDoor.HTupPt Go.Proofs.YtlbbhgmpiednfaaGreatDoor.HPt Go.Proofs.YtlbbhgmpiednfaaGreatDoor.PTupleSorts
set_option linter.unusedVariables false
set_option linter.unusedSimpArgs false
noncomputable def isort (xs : List S32) : List S32 := xs.foldl (fun acc t => ins t acc) []
theorem ins_mem (t y : S32) : ∀ (l : List S32), y ∈ ins t l ↔ y = t ∨ y ∈ l
  | [] => by simp [ins]
  | x :: l => by
    rw [ins]
    split
    · rw [List.mem_cons, ins_mem t y l, List.mem_cons]
      constructor
      · rintro (h | h | h) <;> simp [h]
      · rintro (h | h | h) <;> simp [h]
    · split
      · rename_i h
        subst h
        rw [List.mem_cons]
        constructor
        · rintro (h | h) <;> simp [h]
        · rintro (h | h | h) <;> simp [h]
      · simp
theorem ins_len (t : S32) : ∀ (l : List S32), (ins t l).length ≤ l.length + 1
  | [] => by simp [ins]
  | x :: l => by
    rw [ins]
    split
    · have := ins_len t l; simp; omega
    · split <;> simp
theorem isort_snoc (xs : List S32) (t : S32) : isort (xs ++ [t]) = ins t (isort xs) := by simp [isort]
theorem isort_mem (y : S32) (xs : List S32) : y ∈ isort xs ↔ y ∈ xs := by
  have h : ∀ (xs acc : List S32), y ∈ xs.foldl (fun acc t => ins t acc) acc ↔ y ∈ xs ∨ y ∈ acc := by
    intro xs
    induction xs with
    | nil => intro acc; simp
    | cons x l ih =>
      intro acc
      rw [List.foldl_cons, ih, ins_mem, List.mem_cons]
      constructor
      · rintro (h | h | h) <;> simp [h]
      · rintro ((h | h) | h) <;> simp [h]
  rw [isort, h]
  simp
theorem isort_len (xs : List S32) : (isort xs).length ≤ xs.length := by
  have h : ∀ (xs acc : List S32), (xs.foldl (fun acc t => ins t acc) acc).length ≤ xs.length + acc.length := by
    intro xs
    induction xs with
    | nil => intro acc; simp
    | cons x l ih => intro acc; rw [List.foldl_cons]; have := ih (ins x acc); have := ins_len x acc; simp; omega
  have := h xs []
  simpa [isort] using this
/-- Each one before the next. -/
def Strict (l : List S32) : Prop := l.Pairwise fun x y => cmpT x y < 0
theorem less_trans {x y z : S32} (h : cmpT x y < 0) (k : cmpT y z < 0) : cmpT x z < 0 := by
  have h1 := cmpT_trans (x := x) (y := y) (z := z) (by omega) (by omega)
  by_cases h0 : cmpT x z = 0
  · have := cmpT_zero h0
    subst this
    have := cmpT_swap x y
    omega
  · omega
theorem ins_strict (t : S32) : ∀ (l : List S32), Strict l → Strict (ins t l)
  | [], _ => by simp [ins, Strict]
  | x :: l, h => by
    have h1 := List.pairwise_cons.1 h
    rw [ins]
    split
    · rename_i hx
      refine List.pairwise_cons.2 ⟨fun y hy => ?_, ins_strict t l h1.2⟩
      rcases (ins_mem t y l).1 hy with rfl | hy
      · exact hx
      · exact h1.1 y hy
    · split
      · exact h
      · rename_i hx hne
        have htx : cmpT t x < 0 := by
          have h2 := cmpT_swap x t
          have h3 : cmpT x t ≠ 0 := fun e => hne (cmpT_zero e)
          omega
        refine List.pairwise_cons.2 ⟨fun y hy => ?_, h⟩
        rcases List.mem_cons.1 hy with rfl | hy
        · exact htx
        · exact less_trans htx (h1.1 y hy)
theorem isort_strict (xs : List S32) : Strict (isort xs) := by
  have h : ∀ (xs acc : List S32), Strict acc → Strict (xs.foldl (fun acc t => ins t acc) acc) := by
    intro xs
    induction xs with
    | nil => intro acc h; exact h
    | cons x l ih => intro acc h; rw [List.foldl_cons]; exact ih _ (ins_strict x acc h)
  exact h xs [] List.Pairwise.nil
theorem strict_one : ∀ (a b : List S32), Strict a → Strict b → (∀ x, x ∈ a ↔ x ∈ b) → a = b
  | [], [], _, _, _ => rfl
  | [], y :: b, _, _, h => by have := (h y).2 (by simp); cases this
  | x :: a, [], _, _, h => by have := (h x).1 (by simp); cases this
  | x :: a, y :: b, ha, hb, h => by
    have ha1 := List.pairwise_cons.1 ha
    have hb1 := List.pairwise_cons.1 hb
    have irr : ∀ z : S32, ¬ cmpT z z < 0 := fun z hz => by rw [cmpT_self] at hz; omega
    have hxy : x = y := by
      rcases List.mem_cons.1 ((h x).1 (by simp)) with e | hx
      · exact e
      · rcases List.mem_cons.1 ((h y).2 (by simp)) with e | hy
        · exact e.symm
        · exact absurd (less_trans (hb1.1 x hx) (ha1.1 y hy)) (irr y)
    subst hxy
    rw [strict_one a b ha1.2 hb1.2 fun z => ?_]
    constructor
    · intro hz
      rcases List.mem_cons.1 ((h z).1 (List.mem_cons_of_mem _ hz)) with rfl | hz2
      · exact absurd (ha1.1 z hz) (irr z)
      · exact hz2
    · intro hz
      rcases List.mem_cons.1 ((h z).2 (List.mem_cons_of_mem _ hz)) with rfl | hz2
      · exact absurd (hb1.1 z hz) (irr z)
      · exact hz2
open HTupD HTupW in
theorem ddF_mem (y : S32) : ∀ (l : List S32) (p : S32), y ∈ p :: ddF p l ↔ y ∈ p :: l
  | [], p => Iff.rfl
  | z :: l, p => by
    rw [ddF]
    split
    · rename_i h
      subst h
      rw [ddF_mem y l z]
      simp
    · rw [List.mem_cons, ddF_mem y l z, List.mem_cons, List.mem_cons, List.mem_cons]
open HTupD HTupW in
theorem ddF_strict : ∀ (l : List S32) (p : S32), (p :: l).Pairwise (fun x y => cmpT x y ≤ 0) → Strict (p :: ddF p l)
  | [], p, _ => by simp [ddF, Strict]
  | z :: l, p, h => by
    rw [ddF]
    have h1 := List.pairwise_cons.1 h
    split
    · rename_i hz
      subst hz
      exact ddF_strict l z h1.2
    · rename_i hz
      have h2 := ddF_strict l z h1.2
      refine List.pairwise_cons.2 ⟨fun y hy => ?_, h2⟩
      have hpz : cmpT p z < 0 := by
        have h3 := h1.1 z (by simp)
        have h4 : cmpT p z ≠ 0 := fun e => hz (cmpT_zero e).symm
        omega
      rcases List.mem_cons.1 hy with rfl | hy
      · exact hpz
      · exact less_trans hpz ((List.pairwise_cons.1 h2).1 y hy)
open HTupD HTupW in
theorem srd_eq (xs : List S32) : srd xs = isort xs := by
  have hle : ∀ x y : S32, (!(Go.Proofs.ltOf cmpT) y x) = true ↔ cmpT x y ≤ 0 := by
    intro x y
    unfold Go.Proofs.ltOf
    have := cmpT_swap x y
    simp
    omega
  have hp : (srt xs).Pairwise (fun x y => cmpT x y ≤ 0) := by
    have h := List.pairwise_mergeSort (le := fun x y => !(Go.Proofs.ltOf cmpT) y x) (fun a b c h1 h2 => (hle a c).2 (cmpT_trans ((hle a b).1 h1) ((hle b c).1 h2))) (fun a b => by
      have h1 := hle a b
      have h2 := hle b a
      have h3 := cmpT_swap a b
      rw [Bool.or_eq_true, h1, h2]
      omega) xs
    exact h.imp fun {a b} h => (hle a b).1 h
  have hm : ∀ x, x ∈ srt xs ↔ x ∈ xs := fun x => List.mem_mergeSort
  refine strict_one _ _ ?_ (isort_strict xs) fun x => ?_
  · unfold srd
    cases h : srt xs with
    | nil => exact List.Pairwise.nil
    | cons p l => rw [h] at hp; exact ddF_strict l p hp
  · rw [isort_mem, ← hm]
    unfold srd
    cases h : srt xs with
    | nil => exact Iff.rfl
    | cons p l => exact ddF_mem x l p
theorem take_isort {xs : List S32} {j : Nat} (hj : j < xs.length) : isort (xs.take (j + 1)) = ins xs[j] (isort (xs.take j)) := by
  rw [List.take_succ_eq_append_getElem hj, isort_snoc]
set_option maxRecDepth 20000 in
set_option maxHeartbeats 8000000 in
theorem rsorted_any (A : Option Addr) (c : Nat) (xs : List S32) (hl : xs.length ≤ 1000000) (hs : ∀ x ∈ xs, Sh x) (w : World) (hA : Kd.C k32 w A xs.length xs) :
    Calls Tryz.prog 12 #[.slice A xs.length c] w fun e w' => ∃ v, e = .returned v ∧ Kd.R k32 32 w' w.heap.size (fun _ => True) v (isort xs) ∧ Below w.heap.size w w' := by
  have HA := Aside0.mk hA
  have HL := Aside0.mk hl
  have HS := Aside0.mk hs
  obtain ⟨n, hn⟩ : ∃ n, n = xs.length := ⟨_, rfl⟩
  have HN := Aside0.mk hn
  rw [← hn]
  clear hA hl hs hn
  go_enter Tryz.func12, Tryz.ntmps12
  go_wp2
  go_loopg [3, 4] n (fun kq v3 v4 w' => ∃ (j : Nat), v4 = .int .i64 j ∧ Aside0 (kq + j = n) ∧ Aside0 (Kd.R k32 32 w' w.heap.size (fun _ => True) v3 (isort (xs.take j))) ∧ Aside0 (Below w.heap.size w w'))
  case atStart => exact ⟨0, rfl, ⟨rfl⟩, ⟨by rw [List.take_zero]; exact Kd.R_nil _ _ _ _ _⟩, ⟨B0 w⟩⟩
  case round =>
    obtain ⟨j, rfl, HJ, HR, HBX⟩ := hrel
    by_cases cj : j < n
    · have hjx : j < xs.length := by have := HN.out; omega
      have f1 : decide (j < n) = true := decide_eq_true cj
      have f2 : decide ((j : Int) < (n : Int)) = true := decide_eq_true (by omega)
      have f3 : (j : Int) < (n : Int) := by omega
      have f5 : (0 : Int) ≤ (j : Int) := by omega
      have f4 : IntKind.i64.wrap ((j : Int) + 1) = (j : Int) + 1 := by rw [IntKind.wrap_i64]; have := HL.out; have := HN.out; omega
      obtain ⟨ad, hAd, b1, b2, b3, b4, b5, b6⟩ := at_T32 HA.out j (by omega) (by omega)
      subst hAd
      rw [Int.toNat_natCast] at b1 b2 b3 b4 b5 b6
      have hlt := cell_lt b1
      have a1 := (HBX.out.cell (p := ad.add (j * 6)) hlt).trans b1
      have a2 := (HBX.out.cell (p := ⟨(ad.add (j * 6)).block, _, none⟩) hlt).trans b2
      have a3 := (HBX.out.cell (p := ⟨(ad.add (j * 6)).block, _, none⟩) hlt).trans b3
      have a4 := (HBX.out.cell (p := ⟨(ad.add (j * 6)).block, _, none⟩) hlt).trans b4
      have a5 := (HBX.out.cell (p := ⟨(ad.add (j * 6)).block, _, none⟩) hlt).trans b5
      have a6 := (HBX.out.cell (p := ⟨(ad.add (j * 6)).block, _, none⟩) hlt).trans b6
      clear b1 b2 b3 b4 b5 b6 hlt
      have hxe : rd_T32 xs j = xs[j] := by
        unfold rd_T32
        rw [List.getD_eq_getElem?_getD, Int.toNat_natCast, List.getElem?_eq_getElem hjx, Option.getD_some]
      have HST := Aside0.mk (show isort (xs.take (j + 1)) = ins (rd_T32 xs j) (isort (xs.take j)) from by rw [hxe]; exact take_isort hjx)
      have HSX := Aside0.mk (show Sh (rd_T32 xs j) from by rw [hxe]; exact HS.out _ (List.getElem_mem hjx))
      generalize rd_T32 xs j = x at a1 a2 a3 a4 a5 a6 HST HSX
      clear hxe hjx
      obtain ⟨acc, hacc⟩ : ∃ l, l = isort (xs.take j) := ⟨_, rfl⟩
      have HAC := Aside0.mk (show (∀ x ∈ acc, Sh x) ∧ acc.length ≤ 1000000 from by
        rw [hacc]
        refine ⟨fun x hx => HS.out x (List.mem_of_mem_take ((isort_mem x _).1 hx)), ?_⟩
        have := isort_len (xs.take j)
        rw [List.length_take] at this
        have := HL.out
        omega)
      rw [← hacc] at HR HST
      clear hacc
      obtain ⟨A1, k1, rfl⟩ := Kd.R_slice HR.out
      go_wp2_with fail
      refine (put1_any w.heap.size k1 A1 acc x HAC.out.2 HAC.out.1 HSX.out wr HR.out HBX.out.size).mono ?_
      rintro e_ y1 ⟨v, rfl, hR, hb⟩
      have HR2 := Aside0.mk hR
      have HB2 := Aside0.mk (HBX.out.trans (hb.mono HBX.out.size))
      clear hR hb a1 a2 a3 a4 a5 a6 HR HBX
      go_wp2
      go_roundg (n - (j + 1))
      case measure => have := HJ.out; omega
      case rel => exact ⟨j + 1, rfl, ⟨by have := HJ.out; omega⟩, ⟨by rw [HST.out]; exact HR2.out⟩, HB2⟩
    · obtain rfl : j = n := by have := HJ.out; omega
      have f1 : decide (j < j) = false := decide_eq_false (by omega)
      have HE := Aside0.mk (show xs.take j = xs from by rw [HN.out, List.take_length])
      rw [HE.out] at HR
      go_wp2
      go_ret
      exact ⟨_, rfl, HR.out, HBX.out⟩
end Go.Proofs.YtlbbhgmpiednfaaGreatDoor.HTupSr
