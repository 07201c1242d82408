/- The package fault: In, Name, Text; the law's build. -/
import Derived.Test.YtmnfemdcccpmfaaDoorHErrJ
import Derived.Test.YtmnfemdcccpmfaaDoorHFaultP
namespace Go.Proofs.YtmnfemdcccpmfaaDoor.HFault
open Go.RowKit Go.Proofs.YtmnfemdcccpmfaaDoorW.PrintWords Go.Proofs.YtmnfemdcccpmfaaDoor.HLib Go.Proofs.YtmnfemdcccpmfaaDoor.HPr Go.Proofs.YtmnfemdcccpmfaaDoor.HErr Go.Proofs.YtmnfemdcccpmfaaDoor.HFaultP
set_option linter.unusedVariables false
set_option linter.unusedSimpArgs false

theorem in_any (p : ByteArray) (f : Bool) (c a : Int) (ps : List ByteArray) (w : World) : Calls Tryd.prog 13 #[.string p, wrapV (baseV f c a) ps] w fun e w' => e = .returned (wrapV (baseV f c a) (p :: ps)) ∧ w = w' := by
  obtain ⟨V, hV⟩ : ∃ V, V = wrapV (baseV f c a) ps := ⟨_, rfl⟩
  have HR := Aside0.mk (show wrapV (baseV f c a) (p :: ps) = .iface 53 (.agg #[.string p, V]) from by rw [hV]; rfl)
  obtain ⟨tt, tv, htv⟩ := wrap_iface f c a ps
  rw [htv] at hV ⊢
  subst hV
  clear htv
  go_enter Tryd.func13, Tryd.ntmps13
  go_wp2
  go_ret
  exact ⟨by rw [HR.out]; rfl, rfl⟩
theorem in_nil (p : ByteArray) (w : World) : Calls Tryd.prog 13 #[.string p, .nilIface] w fun e w' => e = .returned .nilIface ∧ w = w' := by
  go_enter Tryd.func13, Tryd.ntmps13
  go_wp2
  go_ret
  exact ⟨rfl, rfl⟩
theorem shift_nil (n : Int) (w : World) : Calls Tryd.prog 12 #[.nilIface, .int .i64 n] w fun e w' => e = .returned .nilIface ∧ Below w.heap.size w w' := by
  go_enter Tryd.func12, Tryd.ntmps12
  go_wp2_with fail
  refine (code_nil _).mono ?_
  rintro e w1 ⟨rfl, hb⟩
  have HB := Aside0.mk hb
  clear hb
  go_wp2
  go_ret
  exact ⟨rfl, HB.out⟩

/-- The value of a described error. -/
def errD (n : Bool) (parts : List ByteArray) (c a : Int) (f : Bool) : Value := if n then .nilIface else wrapV (baseV f c a) parts.reverse
/-- The description, as a struct. -/
def descV (n : Bool) (A : Option Addr) (len cap : Nat) (c a : Int) (f : Bool) : Value := .agg #[.bool n, .slice A len cap, .int .i64 c, .int .i64 a, .bool f]

set_option maxHeartbeats 4000000 in
theorem build_any (n : Bool) (A : Option Addr) (cap : Nat) (parts : List ByteArray) (c a : Int) (f : Bool) (w : World) (hC : Kd.C Kd.string w A parts.length parts) (hc : parts.length ≤ cap) (hl : parts.length ≤ 1000) :
    Calls Tryd.prog 8 #[.agg #[.bool n, .slice A parts.length cap, .int .i64 c, .int .i64 a, .bool f]] w fun e w' => e = .returned (errD n parts c a f) ∧ Below w.heap.size w w' := by
  have HC := Aside0.mk (Kd.C_alloc hC (.cells #[.bool n, .slice A parts.length cap, .int .i64 c, .int .i64 a, .bool f] 24))
  clear hC hc
  cases n with
  | true =>
    go_enter Tryd.func8, Tryd.ntmps8
    go_wp2
    go_ret
    exact ⟨rfl, below_alloc (B0 w) _⟩
  | false =>
    have HB := Aside0.mk (below_alloc (B0 w) (.cells #[.bool false, .slice A parts.length cap, .int .i64 c, .int .i64 a, .bool f] 24))
    obtain ⟨W, hW⟩ : ∃ W, W = w.alloc (.cells #[.bool false, .slice A parts.length cap, .int .i64 c, .int .i64 a, .bool f] 24) := ⟨_, rfl⟩
    have f0 : W.heap[w.heap.size]? = some (.cells #[.bool false, .slice A parts.length cap, .int .i64 c, .int .i64 a, .bool f] 24 (0, 0)) := by rw [hW]; exact blk_new w _
    have k0 := (blk_cell f0 0).trans (show _ = some _ from rfl)
    have k1 := (blk_cell f0 1).trans (show _ = some _ from rfl)
    have k2 := (blk_cell f0 2).trans (show _ = some _ from rfl)
    have k3 := (blk_cell f0 3).trans (show _ = some _ from rfl)
    have k4 := (blk_cell f0 4).trans (show _ = some _ from rfl)
    rw [← hW] at HC HB
    clear f0
    cases f with
    | true =>
      go_enter Tryd.func8, Tryd.ntmps8
      go_wp2_with fail
      rw [← hW]
      clear hW
      go_loop [3, 4] (fun v3 v4 => ∃ (j : Nat), v4 = .int .i64 (j : Int) ∧ v3 = wrapV (baseV true c a) (parts.take j).reverse ∧ j ≤ parts.length) (fun _ v4 => parts.length - (intOf v4).toNat)
      case atStart => exact ⟨0, rfl, rfl, Nat.zero_le _⟩
      case round =>
        obtain ⟨j, rfl, rfl, hj⟩ := hrel
        by_cases c1 : j < parts.length
        · have d1 : decide (j < parts.length) = true := decide_eq_true c1
          have d2 : decide ((j : Int) < (parts.length : Int)) = true := decide_eq_true (by omega)
          have hp : (0 : Int) ≤ (j : Int) := by omega
          have hq : (j : Int) < (parts.length : Int) := by omega
          obtain ⟨ad, ead, hx⟩ := Kd.at_string HC.out (j : Int) hp hq
          subst ead
          rw [Int.toNat_natCast] at hx
          have HR := Aside0.mk (show wrapV (baseV true c a) (rdOf ByteArray.empty parts (j : Int) :: (parts.take j).reverse) = wrapV (baseV true c a) (parts.take (j + 1)).reverse from by
            rw [rdOf_nat parts j c1, List.take_succ_eq_append_getElem c1, List.reverse_append]
            rfl)
          have hj2 : (j : Int) ≤ 1000 := by omega
          go_wp2_with fail
          refine (in_any _ true c a _ _).mono ?_
          rintro e w1 ⟨rfl, rfl⟩
          rw [HR.out]
          go_wp2
          go_round
          case measure => simp [intOf]; omega
          case rel => exact ⟨j + 1, by go_num, rfl, by omega⟩
        · have d1 : decide (j < parts.length) = false := decide_eq_false c1
          have d2 : decide ((j : Int) < (parts.length : Int)) = false := decide_eq_false (by omega)
          have HR := Aside0.mk (show parts.take j = parts from List.take_of_length_le (by omega))
          go_wp2
          go_ret
          refine ⟨?_, HB.out⟩
          rw [HR.out]
          rfl
    | false =>
      go_enter Tryd.func8, Tryd.ntmps8
      go_wp2_with fail
      rw [← hW]
      clear hW
      go_loop [3, 4] (fun v3 v4 => ∃ (j : Nat), v4 = .int .i64 (j : Int) ∧ v3 = wrapV (baseV false c a) (parts.take j).reverse ∧ j ≤ parts.length) (fun _ v4 => parts.length - (intOf v4).toNat)
      case atStart => exact ⟨0, rfl, rfl, Nat.zero_le _⟩
      case round =>
        obtain ⟨j, rfl, rfl, hj⟩ := hrel
        by_cases c1 : j < parts.length
        · have d1 : decide (j < parts.length) = true := decide_eq_true c1
          have d2 : decide ((j : Int) < (parts.length : Int)) = true := decide_eq_true (by omega)
          have hp : (0 : Int) ≤ (j : Int) := by omega
          have hq : (j : Int) < (parts.length : Int) := by omega
          obtain ⟨ad, ead, hx⟩ := Kd.at_string HC.out (j : Int) hp hq
          subst ead
          rw [Int.toNat_natCast] at hx
          have HR := Aside0.mk (show wrapV (baseV false c a) (rdOf ByteArray.empty parts (j : Int) :: (parts.take j).reverse) = wrapV (baseV false c a) (parts.take (j + 1)).reverse from by
            rw [rdOf_nat parts j c1, List.take_succ_eq_append_getElem c1, List.reverse_append]
            rfl)
          have hj2 : (j : Int) ≤ 1000 := by omega
          go_wp2_with fail
          refine (in_any _ false c a _ _).mono ?_
          rintro e w1 ⟨rfl, rfl⟩
          rw [HR.out]
          go_wp2
          go_round
          case measure => simp [intOf]; omega
          case rel => exact ⟨j + 1, by go_num, rfl, by omega⟩
        · have d1 : decide (j < parts.length) = false := decide_eq_false c1
          have d2 : decide ((j : Int) < (parts.length : Int)) = false := decide_eq_false (by omega)
          have HR := Aside0.mk (show parts.take j = parts from List.take_of_length_le (by omega))
          go_wp2
          go_ret
          refine ⟨?_, HB.out⟩
          rw [HR.out]
          rfl

end Go.Proofs.YtmnfemdcccpmfaaDoor.HFault
