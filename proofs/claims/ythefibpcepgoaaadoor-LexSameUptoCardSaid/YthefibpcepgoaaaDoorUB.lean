/- back: tokens as the reference's. -/
import Derived.Test.YthefibpcepgoaaaDoorUM
namespace Go.Proofs.YthefibpcepgoaaaDoor.HLexB
open Go.RowKit Go.Proofs.YthefibpcepgoaaaDoorW.PrintWords Go.Proofs.YthefibpcepgoaaaDoor.HLib Go.Proofs.YthefibpcepgoaaaDoor.HLexP Go.Proofs.YthefibpcepgoaaaDoor.HLexS Go.Proofs.YthefibpcepgoaaaDoor.HLexM Go.Proofs.YthefibpcepgoaaaDoor.HLexK Go.Proofs.YthefibpcepgoaaaDoor.HLexV Go.Proofs.YthefibpcepgoaaaDoor.PLexJoins
set_option linter.unusedVariables false
set_option linter.unusedSimpArgs false

def to37 (x : S36) : S37 := ⟨x.f0, x.f1, x.f2⟩
theorem to37_tk (l : List Tok) : (l.map tk36).map to37 = l.map tk37 := by rw [List.map_map]; rfl
theorem kr_37 (l : List S36) : (l.map to37).map kr = l.map kk := by rw [List.map_map]; rfl
theorem kr_tk (l : List Tok) : (l.map tk37).map kr = l.map HLexJ.kt := by rw [List.map_map]; rfl
theorem kk_tk (l : List Tok) : (l.map tk36).map kk = l.map HLexJ.kt := by rw [List.map_map]; rfl
theorem take37 (xs : List S36) (j : Nat) (h : j < xs.length) : (xs.take (j + 1)).map to37 = (xs.take j).map to37 ++ [to37 (rd_T36 xs j)] := by
  have hr : rd_T36 xs j = xs[j] := by
    unfold rd_T36
    rw [Int.toNat_natCast, List.getD_eq_getElem?_getD, List.getElem?_eq_getElem h]
    rfl
  rw [List.take_succ_eq_append_getElem h, List.map_append, hr]
  rfl
set_option maxRecDepth 100000 in
set_option maxHeartbeats 8000000 in
theorem back_any (w : World) (A : Option Addr) (c : Nat) (xs : List S36) (hA : Kd.C k36 w A xs.length xs) (hc : xs.length ≤ c) (hl : xs.length ≤ 1000000) :
    Calls Tryd.prog 13 #[.slice A xs.length c] w fun e w' => ∃ v, e = .returned v ∧ Kd.R k37 37 w' w.heap.size (fun _ => True) v (xs.map to37) ∧ Below w.heap.size w w' := by
  have HA := Aside0.mk hA
  have HL := Aside0.mk hl
  clear hA hl
  go_enter Tryd.func13, Tryd.ntmps13
  go_wp2
  go_loopg [3, 4] xs.length (fun kq v3 v4 w' => ∃ (j : Nat), v4 = .int .i64 j ∧ Aside0 (kq + j = xs.length) ∧ Aside0 (Kd.R k37 37 w' w.heap.size (fun _ => True) v3 ((xs.take j).map to37)) ∧ Aside0 (Below w.heap.size w w'))
  case atStart => exact ⟨0, rfl, ⟨by omega⟩, ⟨Kd.R_nil _ _ _ _ _⟩, ⟨B0 w⟩⟩
  case round =>
    obtain ⟨j, rfl, HJ, HR, HW⟩ := hrel
    by_cases cj : j < xs.length
    · have d1 : decide (j < xs.length) = true := decide_eq_true cj
      have d2 : decide ((j : Int) < (xs.length : Int)) = true := decide_eq_true (by omega)
      have d3 : (j : Int) < (xs.length : Int) := by omega
      have d6 : (j : Int) ≤ 1000000 := by have := HL.out; omega
      obtain ⟨ad, hAd, a1, a2, a3⟩ := at_T36 (Kd.C_below HA.out HW.out) j (by omega) (by omega)
      subst hAd
      have HTT := Aside0.mk (take37 xs j cj)
      obtain ⟨x, hx⟩ : ∃ x, x = rd_T36 xs j := ⟨_, rfl⟩
      rw [← hx] at HTT
      rw [← hx, Int.toNat_natCast] at a1 a2 a3
      clear hx
      have HTL := Aside0.mk (show ((xs.take j).map to37).length ≤ 1000000 from by rw [List.length_map, List.length_take]; have := HL.out; omega)
      obtain ⟨ws, hws⟩ : ∃ ws, ws = (xs.take j).map to37 := ⟨_, rfl⟩
      rw [← hws] at HTT HTL HR
      clear hws
      go_wp2_with (at_builtin; refine Kd.R_append k37 (w0 := w) w.heap.size rfl (.tmp 11) (.tmp 16) 28 37 (.agg #[.int .i64 0, .string ⟨#[]⟩, .int .i64 0]) 32 rfl Tryd.underlying28 info37 rfl (by decide) (by omega) u3 ws (to37 x) [.int .i64 x.f0, .string x.f1, .int .i64 x.f2] (fun _ => True) (fun _ => False) rfl rfl (k37_mkM _ _ _ (to37 x)) (fun _ hk => hk.elim) (fun _ _ => trivial) HR.out HW.out HW.out.size ?aL ?_; (case aL => (have := HTL.out; omega)); intro v1 w1 ho hb hg hat; have HO1 := Aside0.mk ho; have HB2 := Aside0.mk hb; clear ho hb hg hat)
      go_roundg (xs.length - (j + 1))
      case measure => have := HJ.out; omega
      case rel => exact ⟨j + 1, rfl, ⟨by have := HJ.out; omega⟩, ⟨by rw [HTT.out]; exact HO1.out⟩, ⟨HB2.out⟩⟩
    · have d1 : decide (j < xs.length) = false := decide_eq_false cj
      have d2 : decide ((j : Int) < (xs.length : Int)) = false := decide_eq_false (by omega)
      have hall : xs.take j = xs := List.take_of_length_le (by have := HJ.out; omega)
      rw [hall] at HR
      clear hall
      go_wp2
      go_ret
      exact ⟨_, rfl, HR.out, HW.out⟩
end Go.Proofs.YthefibpcepgoaaaDoor.HLexB
/- Contracts with slices in view. -/
namespace Go.Proofs.YthefibpcepgoaaaDoor.HLexC
open Go.RowKit Go.Proofs.YthefibpcepgoaaaDoorW.PrintWords Go.Proofs.YthefibpcepgoaaaDoor.HLib Go.Proofs.YthefibpcepgoaaaDoor.HErr Go.Proofs.YthefibpcepgoaaaDoor.HLexP Go.Proofs.YthefibpcepgoaaaDoor.HLexJ Go.Proofs.YthefibpcepgoaaaDoor.HLexS Go.Proofs.YthefibpcepgoaaaDoor.HLexT Go.Proofs.YthefibpcepgoaaaDoor.HLexM Go.Proofs.YthefibpcepgoaaaDoor.HLexK Go.Proofs.YthefibpcepgoaaaDoor.HLexQ Go.Proofs.YthefibpcepgoaaaDoor.HLexV Go.Proofs.YthefibpcepgoaaaDoor.HLexB Go.Proofs.YthefibpcepgoaaaDoor.HLexW Go.Proofs.YthefibpcepgoaaaDoor.HName Go.Proofs.YthefibpcepgoaaaDoor.PLexJoins
set_option linter.unusedVariables false
set_option linter.unusedSimpArgs false

theorem tokens_L (s : ByteArray) (hs : s.size ≤ 65536) {c n : Int} (h : lexP s = .inl (c, n)) (w : World) (hG : ResG w) : Calls Tryd.prog 9 #[.string s] w fun e w' => e = .returned (.tuple #[.slice none 0 0, fltV c n]) ∧ Below w.heap.size w w' :=
  (tokens_any s hs w hG).mono fun e w' hq => by rw [h] at hq; exact hq
/-- A list's slice. -/
structure Sl (w' : World) (B : Nat) (A : Option Addr) (c : Nat) (X : List S36) : Prop where
  cap : X.length ≤ c
  cells : Kd.C k36 w' A X.length X
theorem tokens_R (s : ByteArray) (hs : s.size ≤ 65536) {l : List Tok} (h : lexP s = .inr l) (w : World) (hG : ResG w) : Calls Tryd.prog 9 #[.string s] w fun e w' => ∃ A c, e = .returned (.tuple #[.slice A (l.map tk36).length c, .nilIface]) ∧ Sl w' w.heap.size A c (l.map tk36) ∧ Below w.heap.size w w' :=
  (tokens_any s hs w hG).mono fun e w' ⟨hq, hb⟩ => by
    rw [h] at hq
    obtain ⟨v, hv, hR⟩ := hq
    obtain ⟨A, c, rfl⟩ := Kd.R_slice hR
    have hr := Kd.R_reads' hR
    exact ⟨A, c, hv, ⟨hr.2.1, hr.2.2⟩, hb⟩
theorem Sl.below {w w1 : World} {B : Nat} {A c X} (h : Sl w B A c X) (hb : Below w.heap.size w w1) : Sl w1 B A c X := ⟨h.cap, Kd.C_below h.cells hb⟩
structure Sr (w' : World) (A : Option Addr) (c : Nat) (X : List S37) : Prop where
  cap : X.length ≤ c
  cells : Kd.C k37 w' A X.length X
theorem Sr.below {w w1 : World} {A c X} (h : Sr w A c X) (hb : Below w.heap.size w w1) : Sr w1 A c X := ⟨h.cap, Kd.C_below h.cells hb⟩
theorem back_S {w : World} {B A c} {X : List S36} (h : Sl w B A c X) (hl : X.length ≤ 1000000) : Calls Tryd.prog 13 #[.slice A X.length c] w fun e w' => ∃ A' c', e = .returned (.slice A' (X.map to37).length c') ∧ Sr w' A' c' (X.map to37) ∧ Below w.heap.size w w' :=
  (back_any w A c X h.cells h.cap hl).mono fun e w' ⟨v, he, hR, hb⟩ => by
    obtain ⟨A', c', rfl⟩ := Kd.R_slice hR
    have hr := Kd.R_reads' hR
    exact ⟨A', c', he, ⟨hr.2.1, hr.2.2⟩, hb⟩
theorem ref_L (s : ByteArray) (hs : s.size ≤ 65536) {c n : Int} (h : lexP s = .inl (c, n)) (w : World) : Calls Tryd.prog 10 #[.string s] w fun e w' => (∃ A c', e = .returned (.agg #[.slice A 0 c', .int .i64 c, .int .i64 n])) ∧ Below w.heap.size w w' :=
  (reftokens_any s hs w).mono fun e w' ⟨v, he, hR, hb⟩ => by
    rw [h] at he hR
    obtain ⟨A, c', rfl⟩ := Kd.R_slice hR
    exact ⟨⟨A, c', he⟩, hb⟩
theorem ref_R (s : ByteArray) (hs : s.size ≤ 65536) {l : List Tok} (h : lexP s = .inr l) (w : World) : Calls Tryd.prog 10 #[.string s] w fun e w' => ∃ A c, e = .returned (.agg #[.slice A (l.map tk37).length c, .int .i64 0, .int .i64 0]) ∧ Sr w' A c (l.map tk37) ∧ Below w.heap.size w w' :=
  (reftokens_any s hs w).mono fun e w' ⟨v, he, hR, hb⟩ => by
    rw [h] at he hR
    obtain ⟨A, c, rfl⟩ := Kd.R_slice hR
    have hr := Kd.R_reads' hR
    exact ⟨A, c, he, ⟨hr.2.1, hr.2.2⟩, hb⟩

theorem ref_L0 (s : ByteArray) (hs : s.size ≤ 65536) {c n : Int} (h : lexP s = .inl (c, n)) (w : World) : Calls Tryd.prog 10 #[.string s] w fun e w' => ∃ A c', e = .returned (.agg #[.slice A ([] : List S37).length c', .int .i64 c, .int .i64 n]) ∧ Sr w' A c' [] ∧ Below w.heap.size w w' :=
  (reftokens_any s hs w).mono fun e w' ⟨v, he, hR, hb⟩ => by
    rw [h] at he hR
    obtain ⟨A, c', rfl⟩ := Kd.R_slice hR
    have hr := Kd.R_reads' hR
    exact ⟨A, c', he, ⟨hr.2.1, hr.2.2⟩, hb⟩
theorem fld1 (A : Option Addr) (c : Nat) (a b : Int) (w : World) (m : Nat) : (Instr.field 30 (.agg #[.slice A m c, .int .i64 a, .int .i64 b]) 1).run Tryd.prog w = .ok (.int .i64 a) w := by kernel_rfl
theorem fld2 (A : Option Addr) (c : Nat) (a b : Int) (w : World) (m : Nat) : (Instr.field 30 (.agg #[.slice A m c, .int .i64 a, .int .i64 b]) 2).run Tryd.prog w = .ok (.int .i64 b) w := by kernel_rfl
theorem fld0 (A : Option Addr) (c : Nat) (a b : Int) (w : World) (m : Nat) : (Instr.field 30 (.agg #[.slice A m c, .int .i64 a, .int .i64 b]) 0).run Tryd.prog w = .ok (.slice A m c) w := by kernel_rfl
end Go.Proofs.YthefibpcepgoaaaDoor.HLexC
