/- lex.run. -/
import Derived.Test.YthefibpcepgoaaaDoorHLexJ
import Derived.Test.YthefibpcepgoaaaDoorHLib
import Derived.Test.YthefibpcepgoaaaDoorUP
namespace Go.Proofs.YthefibpcepgoaaaDoor.HLexR
open Go.RowKit Go.Proofs.YthefibpcepgoaaaDoorW.PrintWords Go.Proofs.YthefibpcepgoaaaDoor.HLib Go.Proofs.YthefibpcepgoaaaDoor.HNameP Go.Proofs.YthefibpcepgoaaaDoor.HLexP Go.Proofs.YthefibpcepgoaaaDoor.HLexJ
set_option linter.unusedVariables false
set_option linter.unusedSimpArgs false

theorem inword_any (c : Int) (w : World) : Calls Tryd.prog 22 #[.int .u8 c] w fun e w' => e = .returned (.bool (inW c)) ∧ w' = w := by
  by_cases a1 : 97 ≤ c
  · by_cases a2 : c ≤ 122
    · have e1 : decide (97 ≤ c) = true := decide_eq_true a1
      have e2 : decide (c ≤ 122) = true := decide_eq_true a2
      have HE := Aside0.mk (show inW c = true from (inW_iff c).2 (by omega))
      clear a1 a2
      go_enter Tryd.func22, Tryd.ntmps22
      go_wp2
      go_ret
      exact ⟨by rw [HE.out]; rfl, rfl⟩
    · have e1 : decide (97 ≤ c) = true := decide_eq_true a1
      have e2 : decide (c ≤ 122) = false := decide_eq_false a2
      have e3 : decide (65 ≤ c) = true := decide_eq_true (by omega)
      have e4 : decide (c ≤ 90) = false := decide_eq_false (by omega)
      have e5 : decide (48 ≤ c) = true := decide_eq_true (by omega)
      have e6 : decide (c ≤ 57) = false := decide_eq_false (by omega)
      have e7 : (c == 95) = false := by simp; omega
      have HE := Aside0.mk (show inW c = false from by rw [Bool.eq_false_iff]; intro h; have := (inW_iff c).1 h; omega)
      clear a1 a2
      go_enter Tryd.func22, Tryd.ntmps22
      go_wp2
      go_ret
      exact ⟨by rw [HE.out]; rfl, rfl⟩
  · have e1 : decide (97 ≤ c) = false := decide_eq_false a1
    by_cases a3 : 65 ≤ c
    · have e3 : decide (65 ≤ c) = true := decide_eq_true a3
      by_cases a4 : c ≤ 90
      · have e4 : decide (c ≤ 90) = true := decide_eq_true a4
        have HE := Aside0.mk (show inW c = true from (inW_iff c).2 (by omega))
        clear a1 a3 a4
        go_enter Tryd.func22, Tryd.ntmps22
        go_wp2
        go_ret
        exact ⟨by rw [HE.out]; rfl, rfl⟩
      · have e4 : decide (c ≤ 90) = false := decide_eq_false a4
        have e5 : decide (48 ≤ c) = true := decide_eq_true (by omega)
        have e6 : decide (c ≤ 57) = false := decide_eq_false (by omega)
        by_cases a7 : c = 95
        · have HE := Aside0.mk (show inW c = true from (inW_iff c).2 (by omega))
          have e7 : (c == 95) = true := by simpa using a7
          clear a1 a3 a4 a7
          go_enter Tryd.func22, Tryd.ntmps22
          go_wp2
          go_ret
          exact ⟨by rw [HE.out]; rfl, rfl⟩
        · have HE := Aside0.mk (show inW c = false from by rw [Bool.eq_false_iff]; intro h; have := (inW_iff c).1 h; omega)
          have e7 : (c == 95) = false := by simpa using a7
          clear a1 a3 a4 a7
          go_enter Tryd.func22, Tryd.ntmps22
          go_wp2
          go_ret
          exact ⟨by rw [HE.out]; rfl, rfl⟩
    · have e3 : decide (65 ≤ c) = false := decide_eq_false a3
      by_cases a5 : 48 ≤ c
      · have e5 : decide (48 ≤ c) = true := decide_eq_true a5
        by_cases a6 : c ≤ 57
        · have e6 : decide (c ≤ 57) = true := decide_eq_true a6
          have HE := Aside0.mk (show inW c = true from (inW_iff c).2 (by omega))
          clear a1 a3 a5 a6
          go_enter Tryd.func22, Tryd.ntmps22
          go_wp2
          go_ret
          exact ⟨by rw [HE.out]; rfl, rfl⟩
        · have e6 : decide (c ≤ 57) = false := decide_eq_false a6
          have e7 : (c == 95) = false := by simp; omega
          have HE := Aside0.mk (show inW c = false from by rw [Bool.eq_false_iff]; intro h; have := (inW_iff c).1 h; omega)
          clear a1 a3 a5 a6
          go_enter Tryd.func22, Tryd.ntmps22
          go_wp2
          go_ret
          exact ⟨by rw [HE.out]; rfl, rfl⟩
      · have e5 : decide (48 ≤ c) = false := decide_eq_false a5
        have e7 : (c == 95) = false := by simp; omega
        have HE := Aside0.mk (show inW c = false from by rw [Bool.eq_false_iff]; intro h; have := (inW_iff c).1 h; omega)
        clear a1 a3 a5
        go_enter Tryd.func22, Tryd.ntmps22
        go_wp2
        go_ret
        exact ⟨by rw [HE.out]; rfl, rfl⟩
theorem notnl_any (c : Int) (w : World) : Calls Tryd.prog 25 #[.int .u8 c] w fun e w' => e = .returned (.bool (notNL c)) ∧ w' = w := by
  go_enter Tryd.func25, Tryd.ntmps25
  go_wp2
  go_ret
  exact ⟨rfl, rfl⟩

/-- The value of a function of the program without variables. -/
abbrev fnV (n : Nat) : Value := .func (.func n) #[] #[]
theorem run_word (s : ByteArray) (hs : s.size ≤ 1000000) (w : World) :
    Calls Tryd.prog 21 #[.string s, fnV 22] w fun e w' => e = .returned (.string (s.extract 0 (runLn inW s))) ∧ Drawn0 w w' := by
  have HS := Aside0.mk hs
  clear hs
  go_enter Tryd.func21, Tryd.ntmps21
  go_wp2
  go_loopg [5] s.size (fun kq v5 w' => ∃ (j : Int), v5 = .int .i64 j ∧ Aside0 (0 ≤ j ∧ (kq : Int) + j = s.size ∧ ∀ i : Nat, i < j.toNat → inW (bt s i) = true) ∧ Drawn0 w w')
  case atStart => exact ⟨0, rfl, ⟨⟨by omega, by omega, fun i hi => by omega⟩⟩, Drawn0.refl _⟩
  case round =>
    obtain ⟨j, rfl, HA, HD⟩ := hrel
    have HDD := Aside0.mk HD
    clear HD
    have hj0 := HA.out.1
    have hjm : j ≤ 1000000 := by have := HA.out; have := HS.out; omega
    by_cases c1 : j < s.size
    · have d1 : decide (j < (s.size : Int)) = true := decide_eq_true c1
      go_wp2_with fail
      rw [bt_at s j]
      refine (inword_any _ _).mono ?_
      rintro e w1 ⟨rfl, rfl⟩
      cases hb : inW (bt s j) with
      | true =>
        have HB := Aside0.mk hb
        clear hb
        go_wp2
        go_roundg (s.size - (j + 1).toNat)
        case measure => have := HA.out; omega
        case rel =>
          refine ⟨j + 1, rfl, ⟨⟨by omega, by omega, fun i hi => ?_⟩⟩, HDD.out⟩
          by_cases hij : i < j.toNat
          · exact HA.out.2.2 i hij
          · rw [show i = j.toNat from by omega, show ((j.toNat : Nat) : Int) = j from by omega]
            exact HB.out
      | false =>
        have HE := Aside0.mk (show runLn inW s = j.toNat from runLn_eq (by omega) HA.out.2.2 (fun _ => by rw [show ((j.toNat : Nat) : Int) = j from by omega]; exact hb))
        have hjs : j ≤ (s.size : Int) := by omega
        clear hb
        go_wp2
        go_ret
        exact ⟨by rw [HE.out]; rfl, HDD.out⟩
    · have d1 : decide (j < (s.size : Int)) = false := decide_eq_false c1
      have hjs : j ≤ (s.size : Int) := by have := HA.out; omega
      have HE := Aside0.mk (show runLn inW s = j.toNat from runLn_eq (by omega) HA.out.2.2 (fun h => by omega))
      go_wp2
      go_ret
      exact ⟨by rw [HE.out]; rfl, HDD.out⟩
theorem run_nl (s : ByteArray) (hs : s.size ≤ 1000000) (w : World) :
    Calls Tryd.prog 21 #[.string s, fnV 25] w fun e w' => e = .returned (.string (s.extract 0 (runLn notNL s))) ∧ Drawn0 w w' := by
  have HS := Aside0.mk hs
  clear hs
  go_enter Tryd.func21, Tryd.ntmps21
  go_wp2
  go_loopg [5] s.size (fun kq v5 w' => ∃ (j : Int), v5 = .int .i64 j ∧ Aside0 (0 ≤ j ∧ (kq : Int) + j = s.size ∧ ∀ i : Nat, i < j.toNat → notNL (bt s i) = true) ∧ Drawn0 w w')
  case atStart => exact ⟨0, rfl, ⟨⟨by omega, by omega, fun i hi => by omega⟩⟩, Drawn0.refl _⟩
  case round =>
    obtain ⟨j, rfl, HA, HD⟩ := hrel
    have HDD := Aside0.mk HD
    clear HD
    have hj0 := HA.out.1
    have hjm : j ≤ 1000000 := by have := HA.out; have := HS.out; omega
    by_cases c1 : j < s.size
    · have d1 : decide (j < (s.size : Int)) = true := decide_eq_true c1
      go_wp2_with fail
      rw [bt_at s j]
      refine (notnl_any _ _).mono ?_
      rintro e w1 ⟨rfl, rfl⟩
      cases hb : notNL (bt s j) with
      | true =>
        have HB := Aside0.mk hb
        clear hb
        go_wp2
        go_roundg (s.size - (j + 1).toNat)
        case measure => have := HA.out; omega
        case rel =>
          refine ⟨j + 1, rfl, ⟨⟨by omega, by omega, fun i hi => ?_⟩⟩, HDD.out⟩
          by_cases hij : i < j.toNat
          · exact HA.out.2.2 i hij
          · rw [show i = j.toNat from by omega, show ((j.toNat : Nat) : Int) = j from by omega]
            exact HB.out
      | false =>
        have HE := Aside0.mk (show runLn notNL s = j.toNat from runLn_eq (by omega) HA.out.2.2 (fun _ => by rw [show ((j.toNat : Nat) : Int) = j from by omega]; exact hb))
        have hjs : j ≤ (s.size : Int) := by omega
        clear hb
        go_wp2
        go_ret
        exact ⟨by rw [HE.out]; rfl, HDD.out⟩
    · have d1 : decide (j < (s.size : Int)) = false := decide_eq_false c1
      have hjs : j ≤ (s.size : Int) := by have := HA.out; omega
      have HE := Aside0.mk (show runLn notNL s = j.toNat from runLn_eq (by omega) HA.out.2.2 (fun h => by omega))
      go_wp2
      go_ret
      exact ⟨by rw [HE.out]; rfl, HDD.out⟩
end Go.Proofs.YthefibpcepgoaaaDoor.HLexR
/- The closure that adds a token. -/
namespace Go.Proofs.YthefibpcepgoaaaDoor.HLexA
open Go.RowKit Go.Proofs.YthefibpcepgoaaaDoorW.PrintWords Go.Proofs.YthefibpcepgoaaaDoor.HLib Go.Proofs.YthefibpcepgoaaaDoor.HNameP Go.Proofs.YthefibpcepgoaaaDoor.HLexP Go.Proofs.YthefibpcepgoaaaDoor.HLexJ Go.Proofs.YthefibpcepgoaaaDoor.PLexJoins
set_option linter.unusedVariables false
set_option linter.unusedSimpArgs false

theorem info36 : (Tryd.prog.info? 36).map (fun i => (i.zero, i.size, i.bytes)) = some (some (.agg #[(.int .i64 0), (.string ⟨#[]⟩), (.int .i64 0)]), 3, 32) := by kernel_rfl
/-- The variables out and at of Tokens, and what out holds. -/
structure Inv (w : World) (B go ga : Nat) (v : Value) (xs : List S36) (i : Int) : Prop where
  out : w.heap[go]? = some (.cells #[v] 23 (0, 0))
  at_ : w.heap[ga]? = some (.cells #[.int .i64 i] 3 (0, 0))
  row : Kd.R k36 36 w B (fun _ => True) v xs
  ne : go ≠ ga
  bo : B ≤ go
  ba : B ≤ ga
theorem one_cell {w : World} {g : Nat} {v : Value} {t : TypeId} (h : w.heap[g]? = some (.cells #[v] t (0, 0))) : w.cell? ⟨g, 0, none⟩ = some v := (blk_cell h 0).trans rfl
theorem one_frozen {w : World} {g : Nat} {v : Value} {t : TypeId} (h : w.heap[g]? = some (.cells #[v] t (0, 0))) : w.frozen? ⟨g, 0, none⟩ = false := by simp [World.frozen?, h]
theorem one_set {w : World} {g : Nat} {v u : Value} {t : TypeId} (h : w.heap[g]? = some (.cells #[v] t (0, 0))) : (w.setCell ⟨g, 0, none⟩ u).heap[g]? = some (.cells #[u] t (0, 0)) := by
  simp [World.setCell, Array.getElem?_modify, h]
theorem one_other {w : World} {g k : Nat} {u : Value} {o : Obj} (h : w.heap[k]? = some o) (hne : k ≠ g) : (w.setCell ⟨g, 0, none⟩ u).heap[k]? = some o := by
  rw [Below.heap_setCell _ _ _ _ hne]; exact h

set_option maxHeartbeats 4000000 in
theorem add_any (w : World) (B go ga : Nat) (v : Value) (xs : List S36) (i : Int) (kd : Int) (tx : ByteArray) (hI : Inv w B go ga v xs i) (h0 : 0 ≤ i) (hi : i ≤ 1000000) (ht : tx.size ≤ 1000000) (hx : xs.length ≤ 1000000) :
    Calls Tryd.prog 20 #[.int .i64 kd, .string tx, .pointer (some ⟨go, 0, none⟩), .pointer (some ⟨ga, 0, none⟩)] w fun e w' => e = .returned (.tuple #[]) ∧ (∃ v1, Inv w' B go ga v1 (xs ++ [⟨kd, tx, i⟩]) (i + tx.size)) ∧ Below B w w' := by
  have HI := Aside0.mk hI
  have HX := Aside0.mk hx
  have HT := Aside0.mk ht
  have HH := Aside0.mk (And.intro h0 hi)
  have hc1 := one_cell hI.out
  have hc2 := one_cell hI.at_
  clear hI hx
  go_enter Tryd.func20, Tryd.ntmps20
  go_wp2_with (at_builtin; refine Kd.R_append k36 (w0 := w) B rfl (.tmp 6) (.tmp 11) 23 36 (.agg #[.int .i64 0, .string ⟨#[]⟩, .int .i64 0]) 32 rfl Tryd.underlying23 info36 rfl (by decide) (by omega) v xs ⟨kd, tx, i⟩ [.int .i64 kd, .string tx, .int .i64 i] (fun _ => True) (fun _ => False) rfl rfl (k36_mkM _ _ _ ⟨kd, tx, i⟩) (fun _ hk => hk.elim) (fun _ _ => trivial) HI.out.row ?aB ?aS ?aL ?_; (case aB => exact Below.refl _ _); (case aS => exact Nat.le_of_lt (Nat.lt_of_le_of_lt HI.out.bo (blk_lt HI.out.out))); (case aL => (have := HX.out; omega)); intro v1 w1 ho hb hg hat; obtain ⟨A1, c1, hv1⟩ := Kd.R_slice ho; obtain ⟨n1, hn1⟩ : ∃ n, n = (xs ++ [(⟨kd, tx, i⟩ : S36)]).length := ⟨_, rfl⟩; rw [← hn1] at hv1; subst hv1; clear hn1; have HO1 := Aside0.mk ho; have HB1 := Aside0.mk hb; have HG1 := Aside0.mk hg; clear ho hb hg hat hc1 hc2; have FO := Aside0.mk ((HG1.out.block go (blk_lt HI.out.out) (Kd.R_ne HI.out.row HI.out.out (by decide))).trans HI.out.out); have FA := Aside0.mk ((HG1.out.block ga (blk_lt HI.out.at_) (Kd.R_ne HI.out.row HI.out.at_ (by decide))).trans HI.out.at_); have hc3 := one_cell FO.out; have hf3 := one_frozen FO.out; have hc4 : (w1.setCell ⟨go, 0, none⟩ (.slice A1 n1 c1)).cell? ⟨ga, 0, none⟩ = some (.int .i64 i) := one_cell (one_other FA.out (Ne.symm HI.out.ne)); have hf4 : (w1.setCell ⟨go, 0, none⟩ (.slice A1 n1 c1)).frozen? ⟨ga, 0, none⟩ = false := one_frozen (one_other FA.out (Ne.symm HI.out.ne)))
  have hI2 : Inv ((w1.setCell ⟨go, 0, none⟩ (.slice A1 n1 c1)).setCell ⟨ga, 0, none⟩ (.int .i64 (i + tx.size))) B go ga (.slice A1 n1 c1) (xs ++ [⟨kd, tx, i⟩]) (i + tx.size) :=
    ⟨one_other (one_set FO.out) HI.out.ne, one_set (one_other FA.out (Ne.symm HI.out.ne)), Kd.R_set (Kd.R_set HO1.out FO.out (by decide) 0 _) (one_other FA.out (Ne.symm HI.out.ne)) (by decide) 0 _, HI.out.ne, HI.out.bo, HI.out.ba⟩
  refine bodyPost_end (v := .tuple #[]) ?_ ?_ ?_
  · simp [results, Tryd.results20]
  · rfl
  · exact ⟨rfl, ⟨_, hI2⟩, (HB1.out.setCell (p := (⟨go, 0, none⟩ : Addr)) HI.out.bo _).setCell (p := (⟨ga, 0, none⟩ : Addr)) HI.out.ba _⟩
end Go.Proofs.YthefibpcepgoaaaDoor.HLexA
