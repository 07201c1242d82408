/- The reference Same. -/
import Derived.Test.YtogimlinfkbapaaDoorUA
import Derived.Test.YtogimlinfkbapaaDoorUI
namespace Go.Proofs.YtogimlinfkbapaaDoor.HSame
open Go.RowKit Go.Proofs.YtogimlinfkbapaaDoorW.PrintWords Go.Proofs.YtogimlinfkbapaaDoor.HLib
set_option linter.unusedVariables false
set_option linter.unusedSimpArgs false

theorem same_len (w : World) (a b : Value) (xs ys : List Int) (ha : (∃ A c, a = .slice A xs.length c ∧ xs.length ≤ c ∧ Kd.C (Kd.int .u8) w A xs.length xs)) (hb : (∃ A c, b = .slice A ys.length c ∧ ys.length ≤ c ∧ Kd.C (Kd.int .u8) w A ys.length ys)) (h : xs.length ≠ ys.length) :
    Calls Tryd.prog 14 #[a, b] w fun e w' => e = .returned (.bool false) ∧ Drawn0 w w' := by
  obtain ⟨A, c, rfl, hc, hC⟩ := ha
  obtain ⟨B, d, rfl, hd, hD⟩ := hb
  have h1 : (xs.length == ys.length) = false := by simpa using h
  have h2 : ((xs.length : Int) == (ys.length : Int)) = false := by simp; omega
  have h3 : ((xs.length : Int) != (ys.length : Int)) = true := by simp; omega
  clear hc hC hd hD h
  go_enter Tryd.func14, Tryd.ntmps14
  go_wp2
  go_ret
  exact ⟨rfl, Drawn0.refl _⟩

theorem same_bv (w : World) (a b : Value) (xs ys : List Int) (ha : (∃ A c, a = .slice A xs.length c ∧ xs.length ≤ c ∧ Kd.C (Kd.int .u8) w A xs.length xs)) (hb : (∃ A c, b = .slice A ys.length c ∧ ys.length ≤ c ∧ Kd.C (Kd.int .u8) w A ys.length ys)) (hl : xs.length < 140737488355328) :
    Calls Tryd.prog 14 #[a, b] w fun e w' => e = .returned (.bool (decide (xs = ys))) ∧ Drawn0 w w' := by
  by_cases hn : xs.length = ys.length
  · have ha' := ha
    have hb' := hb
    obtain ⟨A, c, rfl, hc, hC⟩ := ha'
    obtain ⟨B, d, rfl, hd, hD⟩ := hb'
    have h1 : (xs.length == ys.length) = true := by simpa using hn
    have h2 : ((xs.length : Int) == (ys.length : Int)) = true := by simp; omega
    have h3 : ((xs.length : Int) != (ys.length : Int)) = false := by simp; omega
    have HN := Aside0.mk hn
    have HC := Aside0.mk hC
    have HD := Aside0.mk hD
    clear hn hc hC hd hD ha hb
    go_enter Tryd.func14, Tryd.ntmps14
    go_wp2
    clear h1 h2 h3
    go_loopg [5] xs.length (fun kq v5 w' => ∃ (j : Int), v5 = .int .i64 j ∧ Aside0 (0 ≤ j ∧ (kq : Int) + j = xs.length ∧ xs.take j.toNat = ys.take j.toNat) ∧ Drawn0 w w')
    case atStart => exact ⟨0, rfl, ⟨⟨by omega, by omega, by simp⟩⟩, Drawn0.refl _⟩
    case round =>
      obtain ⟨j, rfl, HA, ⟨m, rfl⟩⟩ := hrel
      by_cases hlt : j < xs.length
      · have hj0 : 0 ≤ j := HA.out.1
        have hj1 : j < ys.length := by have := HN.out; omega
        obtain ⟨ad, rfl, hx⟩ := Kd.at_int HC.out j hj0 hlt
        obtain ⟨bd, rfl, hy⟩ := Kd.at_int HD.out j hj0 hj1
        have d1 : decide (j < xs.length) = true := decide_eq_true hlt
        have d2 : decide (j < ys.length) = true := decide_eq_true hj1
        by_cases heq : rd xs j = rd ys j
        · have e1 : (rd xs j == rd ys j) = true := by simpa using heq
          have e2 : (rd xs j != rd ys j) = false := by simpa using heq
          have HE := Aside0.mk heq
          clear heq
          go_wp2
          repeat (go_quiet (fail); try go_wp2)
          go_roundg (xs.length - (j + 1).toNat)
          case measure => have := HA.out; omega
          case rel =>
            refine ⟨j + 1, rfl, ⟨⟨by omega, by omega, ?_⟩⟩, by repeat (first | exact Drawn0.refl _ | apply Drawn0.step)⟩
            rw [show (j + 1).toNat = j.toNat + 1 from by omega, List.take_add_one, List.take_add_one, HA.out.2.2]
            have h1 := HE.out
            unfold rd at h1
            rw [List.getD_eq_getElem?_getD, List.getD_eq_getElem?_getD, List.getElem?_eq_getElem (show j.toNat < xs.length by omega), List.getElem?_eq_getElem (show j.toNat < ys.length by omega)] at h1
            rw [List.getElem?_eq_getElem (show j.toNat < xs.length by omega), List.getElem?_eq_getElem (show j.toNat < ys.length by omega)]
            simp only [Option.getD_some] at h1
            rw [h1]
        · have e1 : (rd xs j == rd ys j) = false := by simpa using heq
          have e2 : (rd xs j != rd ys j) = true := by simpa using heq
          have HE := Aside0.mk (show decide (xs = ys) = false from decide_eq_false (fun z => heq (by rw [z])))
          clear heq
          go_wp2
          repeat (go_quiet (fail); try go_wp2)
          go_ret
          rw [HE.out]
          exact ⟨rfl, by repeat (first | exact Drawn0.refl _ | apply Drawn0.step)⟩
      · have d1 : decide (j < xs.length) = false := decide_eq_false hlt
        have HE := Aside0.mk (show decide (xs = ys) = true from decide_eq_true (by
          have h := HA.out.2.2
          rwa [List.take_of_length_le (by omega), List.take_of_length_le (by have := HN.out; omega)] at h))
        go_wp2
        go_ret
        rw [HE.out]
        exact ⟨rfl, by repeat (first | exact Drawn0.refl _ | apply Drawn0.step)⟩
  · rw [decide_eq_false (fun z => hn (by rw [z]))]
    exact same_len w a b xs ys ha hb hn

theorem same_any (w : World) (a b : Value) (xs ys : List Int) (ha : Bs w a xs) (hb : Bs w b ys) (hl : xs.length < 140737488355328) :
    Calls Tryd.prog 14 #[a, b] w fun e w' => e = .returned (.bool (decide (xs = ys))) ∧ Drawn0 w w' := same_bv w a b xs ys (by obtain ⟨A, c, e, h1, h2, _⟩ := ha; exact ⟨A, c, e, h1, h2⟩) (by obtain ⟨A, c, e, h1, h2, _⟩ := hb; exact ⟨A, c, e, h1, h2⟩) hl

end Go.Proofs.YtogimlinfkbapaaDoor.HSame
/- The law ZookieParses. -/
namespace Go.Proofs.YtogimlinfkbapaaDoor.HZookL2
open Go.RowKit Go.WideShapes Go.Proofs.YtogimlinfkbapaaDoorW.PrintWords Go.Proofs.YtogimlinfkbapaaDoor.HLib Go.Proofs.YtogimlinfkbapaaDoor.HSha Go.Proofs.YtogimlinfkbapaaDoor.HShaU Go.Proofs.YtogimlinfkbapaaDoor.HShaS Go.Proofs.YtogimlinfkbapaaDoor.HZook Go.Proofs.YtogimlinfkbapaaDoor.HZookE Go.Proofs.YtogimlinfkbapaaDoor.HZookP Go.Proofs.YtogimlinfkbapaaDoor.HZookR Go.Proofs.YtogimlinfkbapaaDoor.HZookF Go.Proofs.YtogimlinfkbapaaDoor.HZookM Go.Proofs.YtogimlinfkbapaaDoor.HErr Go.Proofs.YtogimlinfkbapaaDoor.HZookL Go.Proofs.YtogimlinfkbapaaDoor.HZookW Go.Proofs.YtogimlinfkbapaaDoor.HZookQ Go.Proofs.YtogimlinfkbapaaDoor.HZookN Go.Proofs.YtogimlinfkbapaaDoor.HZookA
set_option linter.unusedVariables false
set_option linter.unusedSimpArgs false

theorem parse_z (w : World) (v : Value) (l : List Int) (hv : Bs w v l) (hl : l.length ≤ 500) (hby : ∀ x ∈ l, 0 ≤ x ∧ x < 256) (hG : ErrG w) {zd : Array Value} {c n : Int} (hz : prsZ (prs l) = .agg zd) (hc : prsC (prs l) = c) (hn : prsN (prs l) = n) :
    Calls Tryd.prog 12 #[v] w fun e w' => e = .returned (.tuple #[.agg zd, errV c n]) ∧ Below w.heap.size w w' := by
  subst hc; subst hn; rw [← hz]; exact parse_any w v l hv (by omega) hby hG
theorem refparse_z (w : World) (v : Value) (l : List Int) (hv : Bs w v l) (hl : l.length ≤ 500) (hby : ∀ x ∈ l, 0 ≤ x ∧ x < 256) {zd : Array Value} {c n : Int} (hz : prsZ (prs l) = .agg zd) (hc : prsC (prs l) = c) (hn : prsN (prs l) = n) :
    Calls Tryd.prog 17 #[v] w fun e w' => e = .returned (.tuple #[.agg zd, .int .i64 c, .int .i64 n]) ∧ Below w.heap.size w w' := by
  subst hc; subst hn; rw [← hz]; exact refparse_any w v l hv (by omega) hby
set_option maxRecDepth 20000 in
theorem payload_z0 {zd : Array Value} (h : zd = zkC 0 0 ZZ) (w : World) : Calls Tryd.prog 9 #[.agg zd] w fun e w' => e = .returned (.tuple #[.slice none 0 0, .bool false]) ∧ Below w.heap.size w w' := by
  subst h; exact payload_bad 0 0 ZZ zz_len (by decide) w
set_option maxRecDepth 20000 in
theorem payload_zd {zd : Array Value} {r : Nat} {d : List Int} (h : zd = zkC 1 r d) (hd : d.length = 32) (hr : r < 9223372036854775808) (w : World) : Calls Tryd.prog 9 #[.agg zd] w fun e w' => ∃ v, e = .returned (.tuple #[v, .bool true]) ∧ Bs w' v (payP r d) ∧ Below w.heap.size w w' := by
  subst h; exact payload_good r d hd hr w

set_option maxRecDepth 20000 in
set_option maxHeartbeats 4000000 in
theorem far_walk (w : World) (A : Option Addr) (n c : Nat) (h : 500 < n) (hG : Glob w) (hE : ErrG w) : Calls Tryd.prog 4 #[.slice A n c] w fun e w' => e = .returned (.bool true) ∧ Below w.heap.size w w' := by
  have HG := Aside0.mk hG
  have HE := Aside0.mk hE
  have d1 : decide (500 < n) = true := decide_eq_true h
  have d2 : decide ((500 : Int) < (n : Int)) = true := decide_eq_true (by omega)
  clear hG hE h
  go_enter Tryd.func4, Tryd.ntmps4
  go_wp2_with fail
  refine (awake_any w HG.out HE.out).mono ?_
  rintro e w1 ⟨rfl, hbw1⟩
  have HBw1 := Aside0.mk hbw1
  clear hbw1
  go_wp2_with fail
  refine (awake_any w1 (glob_below HG.out HG.out.1 HBw1.out) (errg_step HE.out HBw1.out)).mono ?_
  rintro e w2 ⟨rfl, hbw2⟩
  have HBw2 := Aside0.mk (below_step HBw1.out hbw2)
  clear hbw2
  go_wp2
  go_ret
  exact ⟨rfl, HBw2.out⟩
set_option maxRecDepth 20000 in
set_option maxHeartbeats 4000000 in
theorem near_bad (w : World) (A : Option Addr) (cap : Nat) (l : List Int) (hV : Bs w (.slice A l.length cap) l) (hby : ∀ x ∈ l, 0 ≤ x ∧ x < 256) (hl : l.length ≤ 500) (hG : Glob w) (hE : ErrG w) (zd : Array Value) (hsd : zd.size = 34) (had : zd.all (·.oneCell') = true) (heq : ∀ w, (Op.equalIn 10000 26 (.agg zd) (.agg zd)).run Tryd.prog w = .ok true w) (hz : prsZ (prs l) = .agg zd) (c n : Int) (hc0 : c ≠ 0) (hzc : zd = zkC 0 0 ZZ) (hc : prsC (prs l) = c) (hn : prsN (prs l) = n) :
    Calls Tryd.prog 4 #[.slice A l.length cap] w fun e w' => e = .returned (.bool true) ∧ Below w.heap.size w w' := by
  have HG := Aside0.mk hG
  have HE := Aside0.mk hE
  have HV := Aside0.mk hV
  have HBY := Aside0.mk hby
  have HL := Aside0.mk hl
  have HAD := Aside0.mk had
  have HZ := Aside0.mk hz
  have HZC := Aside0.mk hzc
  have HC := Aside0.mk hc
  have HN := Aside0.mk hn
  have d1 : decide (500 < l.length) = false := decide_eq_false (by omega)
  have d2 : decide ((500 : Int) < (l.length : Int)) = false := decide_eq_false (by omega)
  have c1 : (c == 0) = false := by simpa using hc0
  have c2 : (c != 0) = true := by simpa using hc0
  clear hc0
  clear hG hE hV hby hl had hz hzc hc hn
  generalize hz0 : (#[.int .u8 0, .int .u64 0, .int .u8 0, .int .u8 0, .int .u8 0, .int .u8 0, .int .u8 0, .int .u8 0, .int .u8 0, .int .u8 0, .int .u8 0, .int .u8 0, .int .u8 0, .int .u8 0, .int .u8 0, .int .u8 0, .int .u8 0, .int .u8 0, .int .u8 0, .int .u8 0, .int .u8 0, .int .u8 0, .int .u8 0, .int .u8 0, .int .u8 0, .int .u8 0, .int .u8 0, .int .u8 0, .int .u8 0, .int .u8 0, .int .u8 0, .int .u8 0, .int .u8 0, .int .u8 0] : Array Value) = z0
  have HZ0 := Aside0.mk (show z0 = zkC 0 0 ZZ from hz0.symm.trans rfl)
  have hs0 : z0.size = 34 := by rw [HZ0.out]; rfl
  have HA0 := Aside0.mk (show z0.all (·.oneCell') = true from by rw [HZ0.out]; simp [nums, Value.oneCell'])
  go_enter Tryd.func4, Tryd.ntmps4
  go_wp2_with fail
  refine (awake_any w HG.out HE.out).mono ?_
  rintro e w1 ⟨rfl, hbw1⟩
  have HBw1 := Aside0.mk hbw1
  clear hbw1
  go_wp2_with fail
  refine (parse_z w1 _ l (HV.out.below HBw1.out) HL.out HBY.out (errg_step HE.out HBw1.out) HZ.out HC.out HN.out).mono ?_
  rintro e w2 ⟨rfl, hb2⟩
  have HBw2 := Aside0.mk (below_step HBw1.out hb2)
  clear hb2
  have hscq := zk_cells (blk_new w2 (.cells z0 26)) hs0 hsd HAD.out
  go_upto_region 4 with fail
  obtain ⟨WA, hWA⟩ : ∃ W, W = (w2.alloc (.cells z0 26)).setRow w2.heap.size zd := ⟨_, rfl⟩
  rw [← hWA]
  have HBWA := Aside0.mk (show Below w.heap.size w WA from by rw [hWA]; exact below_row (below_alloc HBw2.out _) (by have := HBw2.out.size; omega) _)
  have FWA := Aside0.mk (show WA.heap[w2.heap.size]? = some (.cells zd 26 (0, 0)) from by rw [hWA]; exact setRow_heap _ w2.heap.size _ _ _ (0, 0) (blk_new w2 _))
  clear hWA hscq
  go_wp2_with fail
  refine (refparse_z WA _ l (HV.out.below HBWA.out) HL.out HBY.out HZ.out HC.out HN.out).mono ?_
  rintro e w3 ⟨rfl, hb3⟩
  have HBw3 := Aside0.mk (below_step HBWA.out hb3)
  have F3 := Aside0.mk ((hb3.block w2.heap.size (blk_lt FWA.out)).trans FWA.out)
  clear hb3
  have hscq := zk_cells (blk_new w3 (.cells z0 26)) hs0 hsd HAD.out
  go_upto_region 5 with fail
  obtain ⟨WB, hWB⟩ : ∃ W, W = (w3.alloc (.cells z0 26)).setRow w3.heap.size zd := ⟨_, rfl⟩
  rw [← hWB]
  have HBWB := Aside0.mk (show Below w.heap.size w WB from by rw [hWB]; exact below_row (below_alloc HBw3.out _) (by have := HBw3.out.size; omega) _)
  have FWB := Aside0.mk (show WB.heap[w3.heap.size]? = some (.cells zd 26 (0, 0)) from by rw [hWB]; exact setRow_heap _ w3.heap.size _ _ _ (0, 0) (blk_new w3 _))
  have FA2 := Aside0.mk (show WB.heap[w2.heap.size]? = some (.cells zd 26 (0, 0)) from by rw [hWB]; exact ((below_row (below_alloc (B0 w3) _) (Nat.le_refl _) _).block w2.heap.size (blk_lt F3.out)).trans F3.out)
  clear hWB hscq
  have HLa := Aside0.mk (row_load FA2.out hsd)
  have HLb := Aside0.mk (row_load FWB.out hsd)
  go_wp2_with (first | (refine load_evg (t := 26) (p := .tmp 3) (by rfl) rfl HLa.out ?_) | (refine load_evg (t := 26) (p := .tmp 5) (by rfl) rfl HLb.out ?_))
  refine (told_any c n WB (errg_step HE.out HBWB.out)).mono ?_
  rintro e w4 ⟨rfl, hb4⟩
  have HBw4 := Aside0.mk (below_step HBWB.out hb4)
  have F4 := Aside0.mk ((hb4.block w2.heap.size (blk_lt FA2.out)).trans FA2.out)
  clear hb4
  have HL4 := Aside0.mk (row_load F4.out hsd)
  clear heq
  go_wp2_with (first | (refine load_evg (t := 26) (p := .tmp 3) (by rfl) rfl HL4.out ?_))
  refine (payload_z0 HZC.out w4).mono ?_
  rintro e w5 ⟨rfl, hb5⟩
  have HBw5 := Aside0.mk (below_step HBw4.out hb5)
  clear hb5
  go_wp2_with fail
  go_ret
  exact ⟨rfl, HBw5.out⟩
set_option maxRecDepth 20000 in
set_option maxHeartbeats 4000000 in
theorem near_good (w : World) (A : Option Addr) (cap : Nat) (l : List Int) (hV : Bs w (.slice A l.length cap) l) (hby : ∀ x ∈ l, 0 ≤ x ∧ x < 256) (hl : l.length ≤ 500) (hG : Glob w) (hE : ErrG w) (zd : Array Value) (hsd : zd.size = 34) (had : zd.all (·.oneCell') = true) (heq : ∀ w, (Op.equalIn 10000 26 (.agg zd) (.agg zd)).run Tryd.prog w = .ok true w) (hz : prsZ (prs l) = .agg zd) (r : Nat) (d : List Int) (hd : d.length = 32) (hr : r < 9223372036854775808) (hzc : zd = zkC 1 r d) (hpay : payP r d = l) (hc : prsC (prs l) = 0) (hn : prsN (prs l) = 0) :
    Calls Tryd.prog 4 #[.slice A l.length cap] w fun e w' => e = .returned (.bool true) ∧ Below w.heap.size w w' := by
  have HG := Aside0.mk hG
  have HE := Aside0.mk hE
  have HV := Aside0.mk hV
  have HBY := Aside0.mk hby
  have HL := Aside0.mk hl
  have HAD := Aside0.mk had
  have HZ := Aside0.mk hz
  have HZC := Aside0.mk hzc
  have HC := Aside0.mk hc
  have HN := Aside0.mk hn
  have d1 : decide (500 < l.length) = false := decide_eq_false (by omega)
  have d2 : decide ((500 : Int) < (l.length : Int)) = false := decide_eq_false (by omega)
  have HD := Aside0.mk hd
  have HR := Aside0.mk hr
  have HP := Aside0.mk hpay
  clear hd hr hpay
  clear hG hE hV hby hl had hz hzc hc hn
  generalize hz0 : (#[.int .u8 0, .int .u64 0, .int .u8 0, .int .u8 0, .int .u8 0, .int .u8 0, .int .u8 0, .int .u8 0, .int .u8 0, .int .u8 0, .int .u8 0, .int .u8 0, .int .u8 0, .int .u8 0, .int .u8 0, .int .u8 0, .int .u8 0, .int .u8 0, .int .u8 0, .int .u8 0, .int .u8 0, .int .u8 0, .int .u8 0, .int .u8 0, .int .u8 0, .int .u8 0, .int .u8 0, .int .u8 0, .int .u8 0, .int .u8 0, .int .u8 0, .int .u8 0, .int .u8 0, .int .u8 0] : Array Value) = z0
  have HZ0 := Aside0.mk (show z0 = zkC 0 0 ZZ from hz0.symm.trans rfl)
  have hs0 : z0.size = 34 := by rw [HZ0.out]; rfl
  have HA0 := Aside0.mk (show z0.all (·.oneCell') = true from by rw [HZ0.out]; simp [nums, Value.oneCell'])
  go_enter Tryd.func4, Tryd.ntmps4
  go_wp2_with fail
  refine (awake_any w HG.out HE.out).mono ?_
  rintro e w1 ⟨rfl, hbw1⟩
  have HBw1 := Aside0.mk hbw1
  clear hbw1
  go_wp2_with fail
  refine (parse_z w1 _ l (HV.out.below HBw1.out) HL.out HBY.out (errg_step HE.out HBw1.out) HZ.out HC.out HN.out).mono ?_
  rintro e w2 ⟨rfl, hb2⟩
  have HBw2 := Aside0.mk (below_step HBw1.out hb2)
  clear hb2
  have hscq := zk_cells (blk_new w2 (.cells z0 26)) hs0 hsd HAD.out
  go_upto_region 4 with fail
  obtain ⟨WA, hWA⟩ : ∃ W, W = (w2.alloc (.cells z0 26)).setRow w2.heap.size zd := ⟨_, rfl⟩
  rw [← hWA]
  have HBWA := Aside0.mk (show Below w.heap.size w WA from by rw [hWA]; exact below_row (below_alloc HBw2.out _) (by have := HBw2.out.size; omega) _)
  have FWA := Aside0.mk (show WA.heap[w2.heap.size]? = some (.cells zd 26 (0, 0)) from by rw [hWA]; exact setRow_heap _ w2.heap.size _ _ _ (0, 0) (blk_new w2 _))
  clear hWA hscq
  go_wp2_with fail
  refine (refparse_z WA _ l (HV.out.below HBWA.out) HL.out HBY.out HZ.out HC.out HN.out).mono ?_
  rintro e w3 ⟨rfl, hb3⟩
  have HBw3 := Aside0.mk (below_step HBWA.out hb3)
  have F3 := Aside0.mk ((hb3.block w2.heap.size (blk_lt FWA.out)).trans FWA.out)
  clear hb3
  have hscq := zk_cells (blk_new w3 (.cells z0 26)) hs0 hsd HAD.out
  go_upto_region 5 with fail
  obtain ⟨WB, hWB⟩ : ∃ W, W = (w3.alloc (.cells z0 26)).setRow w3.heap.size zd := ⟨_, rfl⟩
  rw [← hWB]
  have HBWB := Aside0.mk (show Below w.heap.size w WB from by rw [hWB]; exact below_row (below_alloc HBw3.out _) (by have := HBw3.out.size; omega) _)
  have FWB := Aside0.mk (show WB.heap[w3.heap.size]? = some (.cells zd 26 (0, 0)) from by rw [hWB]; exact setRow_heap _ w3.heap.size _ _ _ (0, 0) (blk_new w3 _))
  have FA2 := Aside0.mk (show WB.heap[w2.heap.size]? = some (.cells zd 26 (0, 0)) from by rw [hWB]; exact ((below_row (below_alloc (B0 w3) _) (Nat.le_refl _) _).block w2.heap.size (blk_lt F3.out)).trans F3.out)
  clear hWB hscq
  have HLa := Aside0.mk (row_load FA2.out hsd)
  have HLb := Aside0.mk (row_load FWB.out hsd)
  go_wp2_with (first | (refine load_evg (t := 26) (p := .tmp 3) (by rfl) rfl HLa.out ?_) | (refine load_evg (t := 26) (p := .tmp 5) (by rfl) rfl HLb.out ?_))
  refine (told_any 0 0 WB (errg_step HE.out HBWB.out)).mono ?_
  rintro e w4 ⟨rfl, hb4⟩
  have HBw4 := Aside0.mk (below_step HBWB.out hb4)
  have F4 := Aside0.mk ((hb4.block w2.heap.size (blk_lt FA2.out)).trans FA2.out)
  clear hb4
  have HL4 := Aside0.mk (row_load F4.out hsd)
  clear heq
  go_wp2_with (first | (refine load_evg (t := 26) (p := .tmp 3) (by rfl) rfl HL4.out ?_))
  refine (payload_zd HZC.out HD.out HR.out w4).mono ?_
  rintro e w5 ⟨v5, rfl, hv5, hb5⟩
  have HV5 := Aside0.mk hv5
  clear hv5
  have HBw5 := Aside0.mk (below_step HBw4.out hb5)
  clear hb5
  go_wp2_with fail
  refine (HSame.same_any w5 v5 _ (payP r d) l HV5.out (HV.out.below HBw5.out) (by rw [HP.out]; have := HL.out; omega)).mono ?_
  rw [decide_eq_true HP.out]
  rintro e w6 ⟨rfl, ⟨m6, rfl⟩⟩
  go_wp2_with fail
  go_ret
  exact ⟨rfl, below_step HBw5.out (pw_below_drewN (B0 w5) m6)⟩
theorem parses_walk (w : World) (A : Option Addr) (cap : Nat) (l : List Int) (hV : Bs w (.slice A l.length cap) l) (hby : ∀ x ∈ l, 0 ≤ x ∧ x < 256) (hG : Glob w) (hE : ErrG w) :
    Calls Tryd.prog 4 #[.slice A l.length cap] w fun e w' => e = .returned (.bool true) ∧ Below w.heap.size w w' := by
  by_cases hl : 500 < l.length
  · exact far_walk w A l.length cap hl hG hE
  · cases hp : prs l with
    | inl p =>
      obtain ⟨c, n⟩ := p
      exact near_bad w A cap l hV hby (by omega) hG hE Z0C (by rfl) (by simp [nums, Value.oneCell']) (eq_z rfl) (by rw [hp]; rfl) c n (prs_err hby hp).1 rfl (by rw [hp]; rfl) (by rw [hp]; rfl)
    | inr p =>
      obtain ⟨x, d⟩ := p
      obtain ⟨r, rfl, hr, hd, hdb, hpay⟩ := pay_prs hby hp
      exact near_good w A cap l hV hby (by omega) hG hE (zkC 1 r d) (by simp [nums, hd]) (by simp [nums, Value.oneCell']) (fun w => eq_zk 1 r d hd w) (by rw [hp]; rfl) r d hd hr rfl hpay (by rw [hp]; rfl) (by rw [hp]; rfl)
end Go.Proofs.YtogimlinfkbapaaDoor.HZookL2
/- The law ZookieVerifies. -/
namespace Go.Proofs.YtogimlinfkbapaaDoor.HZookL3
open Go.RowKit Go.WideShapes Go.Proofs.YtogimlinfkbapaaDoorW.PrintWords Go.Proofs.YtogimlinfkbapaaDoor.HLib Go.Proofs.YtogimlinfkbapaaDoor.HSha Go.Proofs.YtogimlinfkbapaaDoor.HShaU Go.Proofs.YtogimlinfkbapaaDoor.HShaS Go.Proofs.YtogimlinfkbapaaDoor.HZook Go.Proofs.YtogimlinfkbapaaDoor.HZookE Go.Proofs.YtogimlinfkbapaaDoor.HZookP Go.Proofs.YtogimlinfkbapaaDoor.HZookR Go.Proofs.YtogimlinfkbapaaDoor.HZookF Go.Proofs.YtogimlinfkbapaaDoor.HZookM Go.Proofs.YtogimlinfkbapaaDoor.HErr Go.Proofs.YtogimlinfkbapaaDoor.HZookL Go.Proofs.YtogimlinfkbapaaDoor.HZookW Go.Proofs.YtogimlinfkbapaaDoor.HZookQ Go.Proofs.YtogimlinfkbapaaDoor.HZookN Go.Proofs.YtogimlinfkbapaaDoor.HZookA
set_option linter.unusedVariables false
set_option linter.unusedSimpArgs false

theorem ver_z (w : World) (vk : Value) (s : ByteArray) (hs : s.size ≤ 500) (key : List Int) (hvk : Bv w vk key) (hkb : ∀ x ∈ key, 0 ≤ x ∧ x < 256) (hkl : key.length ≤ 200) (hG : Glob w) (hE : ErrG w) {zd : Array Value} {c n : Int} (hz : prsZ (verP key s) = .agg zd) (hc : prsC (verP key s) = c) (hn : prsN (verP key s) = n) :
    Calls Tryd.prog 13 #[vk, .string s] w fun e w' => e = .returned (.tuple #[.agg zd, errV c n]) ∧ Below w.heap.size w w' := by
  subst hc; subst hn; rw [← hz]; exact ver_any w vk s hs key hvk hkb (by omega) hG hE
theorem refver_z (w : World) (vk : Value) (s : ByteArray) (hs : s.size ≤ 500) (key : List Int) (hvk : Bv w vk key) (hkb : ∀ x ∈ key, 0 ≤ x ∧ x < 256) (hkl : key.length ≤ 200) {zd : Array Value} {c n : Int} (hz : prsZ (verP key s) = .agg zd) (hc : prsC (verP key s) = c) (hn : prsN (verP key s) = n) :
    Calls Tryd.prog 19 #[vk, .string s] w fun e w' => e = .returned (.tuple #[.agg zd, .int .i64 c, .int .i64 n]) ∧ Below w.heap.size w w' := by
  subst hc; subst hn; rw [← hz]; exact refver_any w vk s hs key hvk hkb (by omega)
set_option maxRecDepth 20000 in
theorem mint_zd {zd : Array Value} {r : Nat} {d : List Int} (h : zd = zkC 1 r d) (hd : d.length = 32) (hdb : ∀ x ∈ d, 0 ≤ x ∧ x < 256) (hr : r < 9223372036854775808) (w : World) (vk : Value) (key : List Int) (hvk : Bv w vk key) (hkb : ∀ x ∈ key, 0 ≤ x ∧ x < 256) (hkl : key.length ≤ 200) (hG : Glob w) {s : ByteArray} (hs : signP key (payP r d) = s) :
    Calls Tryd.prog 10 #[vk, .agg zd] w fun e w' => e = .returned (.tuple #[.string s, .nilIface]) ∧ Below w.heap.size w w' := by
  subst h; subst hs; exact mint_good w vk key hvk hkb (by omega) r d hd hdb hr hG

set_option maxRecDepth 20000 in
set_option maxHeartbeats 4000000 in
theorem far_k (w : World) (A : Option Addr) (n c : Nat) (s : ByteArray) (h : 200 < n) (hG : Glob w) (hE : ErrG w) : Calls Tryd.prog 5 #[.slice A n c, .string s] w fun e w' => e = .returned (.bool true) ∧ Below w.heap.size w w' := by
  have HG := Aside0.mk hG
  have HE := Aside0.mk hE
  have d1 : decide (200 < n) = true := decide_eq_true h
  have d2 : decide ((200 : Int) < (n : Int)) = true := decide_eq_true (by omega)
  clear hG hE h
  go_enter Tryd.func5, Tryd.ntmps5
  go_wp2_with fail
  refine (awake_any w HG.out HE.out).mono ?_
  rintro e w1 ⟨rfl, hbw1⟩
  have HBw1 := Aside0.mk hbw1
  clear hbw1
  go_wp2_with fail
  refine (awake_any w1 (glob_below HG.out HG.out.1 HBw1.out) (errg_step HE.out HBw1.out)).mono ?_
  rintro e w2 ⟨rfl, hbw2⟩
  have HBw2 := Aside0.mk (below_step HBw1.out hbw2)
  clear hbw2
  go_wp2
  go_ret
  exact ⟨rfl, HBw2.out⟩
set_option maxRecDepth 20000 in
set_option maxHeartbeats 4000000 in
theorem far_s (w : World) (A : Option Addr) (n c : Nat) (s : ByteArray) (h0 : ¬ 200 < n) (h : 500 < s.size) (hG : Glob w) (hE : ErrG w) : Calls Tryd.prog 5 #[.slice A n c, .string s] w fun e w' => e = .returned (.bool true) ∧ Below w.heap.size w w' := by
  have HG := Aside0.mk hG
  have HE := Aside0.mk hE
  have d1 : decide (200 < n) = false := decide_eq_false h0
  have d2 : decide ((200 : Int) < (n : Int)) = false := decide_eq_false (by omega)
  have d3 : decide (500 < s.size) = true := decide_eq_true h
  have d4 : decide ((500 : Int) < (s.size : Int)) = true := decide_eq_true (by omega)
  clear hG hE h h0
  go_enter Tryd.func5, Tryd.ntmps5
  go_wp2_with fail
  refine (awake_any w HG.out HE.out).mono ?_
  rintro e w1 ⟨rfl, hbw1⟩
  have HBw1 := Aside0.mk hbw1
  clear hbw1
  go_wp2_with fail
  refine (awake_any w1 (glob_below HG.out HG.out.1 HBw1.out) (errg_step HE.out HBw1.out)).mono ?_
  rintro e w2 ⟨rfl, hbw2⟩
  have HBw2 := Aside0.mk (below_step HBw1.out hbw2)
  clear hbw2
  go_wp2
  go_ret
  exact ⟨rfl, HBw2.out⟩
set_option maxRecDepth 20000 in
set_option maxHeartbeats 4000000 in
theorem near_bad (w : World) (Ak : Option Addr) (ck : Nat) (key : List Int) (hK : Bv w (.slice Ak key.length ck) key) (hkb : ∀ x ∈ key, 0 ≤ x ∧ x < 256) (hkl : key.length ≤ 200) (s : ByteArray) (hl : s.size ≤ 500) (hG : Glob w) (hE : ErrG w) (zd : Array Value) (hsd : zd.size = 34) (had : zd.all (·.oneCell') = true) (heq : ∀ w, (Op.equalIn 10000 26 (.agg zd) (.agg zd)).run Tryd.prog w = .ok true w) (hz : prsZ (verP key s) = .agg zd) (c n : Int) (hc0 : c ≠ 0) (hzc : zd = zkC 0 0 ZZ) (hc : prsC (verP key s) = c) (hn : prsN (verP key s) = n) :
    Calls Tryd.prog 5 #[.slice Ak key.length ck, .string s] w fun e w' => e = .returned (.bool true) ∧ Below w.heap.size w w' := by
  have HG := Aside0.mk hG
  have HE := Aside0.mk hE
  have HK := Aside0.mk hK
  have HKB := Aside0.mk hkb
  have HKL := Aside0.mk hkl
  have HL := Aside0.mk hl
  have HAD := Aside0.mk had
  have HZ := Aside0.mk hz
  have HZC := Aside0.mk hzc
  have HC := Aside0.mk hc
  have HN := Aside0.mk hn
  have d1 : decide (200 < key.length) = false := decide_eq_false (by omega)
  have d2 : decide ((200 : Int) < (key.length : Int)) = false := decide_eq_false (by omega)
  have d3 : decide (500 < s.size) = false := decide_eq_false (by omega)
  have d4 : decide ((500 : Int) < (s.size : Int)) = false := decide_eq_false (by omega)
  have c1 : (c == 0) = false := by simpa using hc0
  have c2 : (c != 0) = true := by simpa using hc0
  clear hc0
  clear hG hE hK hkb hkl hl had hz hzc hc hn
  generalize hz0 : (#[.int .u8 0, .int .u64 0, .int .u8 0, .int .u8 0, .int .u8 0, .int .u8 0, .int .u8 0, .int .u8 0, .int .u8 0, .int .u8 0, .int .u8 0, .int .u8 0, .int .u8 0, .int .u8 0, .int .u8 0, .int .u8 0, .int .u8 0, .int .u8 0, .int .u8 0, .int .u8 0, .int .u8 0, .int .u8 0, .int .u8 0, .int .u8 0, .int .u8 0, .int .u8 0, .int .u8 0, .int .u8 0, .int .u8 0, .int .u8 0, .int .u8 0, .int .u8 0, .int .u8 0, .int .u8 0] : Array Value) = z0
  have HZ0 := Aside0.mk (show z0 = zkC 0 0 ZZ from hz0.symm.trans rfl)
  have hs0 : z0.size = 34 := by rw [HZ0.out]; rfl
  have HA0 := Aside0.mk (show z0.all (·.oneCell') = true from by rw [HZ0.out]; simp [nums, Value.oneCell'])
  go_enter Tryd.func5, Tryd.ntmps5
  go_wp2_with fail
  refine (awake_any w HG.out HE.out).mono ?_
  rintro e w1 ⟨rfl, hbw1⟩
  have HBw1 := Aside0.mk hbw1
  clear hbw1
  go_wp2_with fail
  refine (ver_z w1 _ s HL.out key (HK.out.below HBw1.out) HKB.out HKL.out (glob_below HG.out HG.out.1 HBw1.out) (errg_step HE.out HBw1.out) HZ.out HC.out HN.out).mono ?_
  rintro e w2 ⟨rfl, hb2⟩
  have HBw2 := Aside0.mk (below_step HBw1.out hb2)
  clear hb2
  have hscq := zk_cells (blk_new w2 (.cells z0 26)) hs0 hsd HAD.out
  go_upto_region 4 with fail
  obtain ⟨WA, hWA⟩ : ∃ W, W = (w2.alloc (.cells z0 26)).setRow w2.heap.size zd := ⟨_, rfl⟩
  rw [← hWA]
  have HBWA := Aside0.mk (show Below w.heap.size w WA from by rw [hWA]; exact below_row (below_alloc HBw2.out _) (by have := HBw2.out.size; omega) _)
  have FWA := Aside0.mk (show WA.heap[w2.heap.size]? = some (.cells zd 26 (0, 0)) from by rw [hWA]; exact setRow_heap _ w2.heap.size _ _ _ (0, 0) (blk_new w2 _))
  clear hWA hscq
  go_wp2_with fail
  refine (refver_z WA _ s HL.out key (HK.out.below HBWA.out) HKB.out HKL.out HZ.out HC.out HN.out).mono ?_
  rintro e w3 ⟨rfl, hb3⟩
  have HBw3 := Aside0.mk (below_step HBWA.out hb3)
  have F3 := Aside0.mk ((hb3.block w2.heap.size (blk_lt FWA.out)).trans FWA.out)
  clear hb3
  have hscq := zk_cells (blk_new w3 (.cells z0 26)) hs0 hsd HAD.out
  go_upto_region 5 with fail
  obtain ⟨WB, hWB⟩ : ∃ W, W = (w3.alloc (.cells z0 26)).setRow w3.heap.size zd := ⟨_, rfl⟩
  rw [← hWB]
  have HBWB := Aside0.mk (show Below w.heap.size w WB from by rw [hWB]; exact below_row (below_alloc HBw3.out _) (by have := HBw3.out.size; omega) _)
  have FWB := Aside0.mk (show WB.heap[w3.heap.size]? = some (.cells zd 26 (0, 0)) from by rw [hWB]; exact setRow_heap _ w3.heap.size _ _ _ (0, 0) (blk_new w3 _))
  have FA2 := Aside0.mk (show WB.heap[w2.heap.size]? = some (.cells zd 26 (0, 0)) from by rw [hWB]; exact ((below_row (below_alloc (B0 w3) _) (Nat.le_refl _) _).block w2.heap.size (blk_lt F3.out)).trans F3.out)
  clear hWB hscq
  have HLa := Aside0.mk (row_load FA2.out hsd)
  have HLb := Aside0.mk (row_load FWB.out hsd)
  go_wp2_with (first | (refine load_evg (t := 26) (p := .tmp 5) (by rfl) rfl HLa.out ?_) | (refine load_evg (t := 26) (p := .tmp 7) (by rfl) rfl HLb.out ?_))
  refine (told_any c n WB (errg_step HE.out HBWB.out)).mono ?_
  rintro e w4 ⟨rfl, hb4⟩
  have HBw4 := Aside0.mk (below_step HBWB.out hb4)
  have F4 := Aside0.mk ((hb4.block w2.heap.size (blk_lt FA2.out)).trans FA2.out)
  clear hb4
  have HL4 := Aside0.mk (row_load F4.out hsd)
  clear heq
  go_wp2_with (first | (refine load_evg (t := 26) (p := .tmp 5) (by rfl) rfl HL4.out ?_))
  refine (mint_0 HZC.out w4 _).mono ?_
  rintro e w5 ⟨rfl, hb5⟩
  have HBw5 := Aside0.mk (below_step HBw4.out hb5)
  clear hb5
  go_wp2_with fail
  go_ret
  exact ⟨rfl, HBw5.out⟩
set_option maxRecDepth 20000 in
set_option maxHeartbeats 4000000 in
theorem near_good (w : World) (Ak : Option Addr) (ck : Nat) (key : List Int) (hK : Bv w (.slice Ak key.length ck) key) (hkb : ∀ x ∈ key, 0 ≤ x ∧ x < 256) (hkl : key.length ≤ 200) (s : ByteArray) (hl : s.size ≤ 500) (hG : Glob w) (hE : ErrG w) (zd : Array Value) (hsd : zd.size = 34) (had : zd.all (·.oneCell') = true) (heq : ∀ w, (Op.equalIn 10000 26 (.agg zd) (.agg zd)).run Tryd.prog w = .ok true w) (hz : prsZ (verP key s) = .agg zd) (r : Nat) (d : List Int) (hd : d.length = 32) (hdb : ∀ x ∈ d, 0 ≤ x ∧ x < 256) (hr : r < 9223372036854775808) (hzc : zd = zkC 1 r d) (hpay : signP key (payP r d) = s) (hc : prsC (verP key s) = 0) (hn : prsN (verP key s) = 0) :
    Calls Tryd.prog 5 #[.slice Ak key.length ck, .string s] w fun e w' => e = .returned (.bool true) ∧ Below w.heap.size w w' := by
  have HG := Aside0.mk hG
  have HE := Aside0.mk hE
  have HK := Aside0.mk hK
  have HKB := Aside0.mk hkb
  have HKL := Aside0.mk hkl
  have HL := Aside0.mk hl
  have HAD := Aside0.mk had
  have HZ := Aside0.mk hz
  have HZC := Aside0.mk hzc
  have HC := Aside0.mk hc
  have HN := Aside0.mk hn
  have d1 : decide (200 < key.length) = false := decide_eq_false (by omega)
  have d2 : decide ((200 : Int) < (key.length : Int)) = false := decide_eq_false (by omega)
  have d3 : decide (500 < s.size) = false := decide_eq_false (by omega)
  have d4 : decide ((500 : Int) < (s.size : Int)) = false := decide_eq_false (by omega)
  have HD := Aside0.mk hd
  have HDB := Aside0.mk hdb
  have HR := Aside0.mk hr
  have HP := Aside0.mk hpay
  clear hd hdb hr hpay
  clear hG hE hK hkb hkl hl had hz hzc hc hn
  generalize hz0 : (#[.int .u8 0, .int .u64 0, .int .u8 0, .int .u8 0, .int .u8 0, .int .u8 0, .int .u8 0, .int .u8 0, .int .u8 0, .int .u8 0, .int .u8 0, .int .u8 0, .int .u8 0, .int .u8 0, .int .u8 0, .int .u8 0, .int .u8 0, .int .u8 0, .int .u8 0, .int .u8 0, .int .u8 0, .int .u8 0, .int .u8 0, .int .u8 0, .int .u8 0, .int .u8 0, .int .u8 0, .int .u8 0, .int .u8 0, .int .u8 0, .int .u8 0, .int .u8 0, .int .u8 0, .int .u8 0] : Array Value) = z0
  have HZ0 := Aside0.mk (show z0 = zkC 0 0 ZZ from hz0.symm.trans rfl)
  have hs0 : z0.size = 34 := by rw [HZ0.out]; rfl
  have HA0 := Aside0.mk (show z0.all (·.oneCell') = true from by rw [HZ0.out]; simp [nums, Value.oneCell'])
  go_enter Tryd.func5, Tryd.ntmps5
  go_wp2_with fail
  refine (awake_any w HG.out HE.out).mono ?_
  rintro e w1 ⟨rfl, hbw1⟩
  have HBw1 := Aside0.mk hbw1
  clear hbw1
  go_wp2_with fail
  refine (ver_z w1 _ s HL.out key (HK.out.below HBw1.out) HKB.out HKL.out (glob_below HG.out HG.out.1 HBw1.out) (errg_step HE.out HBw1.out) HZ.out HC.out HN.out).mono ?_
  rintro e w2 ⟨rfl, hb2⟩
  have HBw2 := Aside0.mk (below_step HBw1.out hb2)
  clear hb2
  have hscq := zk_cells (blk_new w2 (.cells z0 26)) hs0 hsd HAD.out
  go_upto_region 4 with fail
  obtain ⟨WA, hWA⟩ : ∃ W, W = (w2.alloc (.cells z0 26)).setRow w2.heap.size zd := ⟨_, rfl⟩
  rw [← hWA]
  have HBWA := Aside0.mk (show Below w.heap.size w WA from by rw [hWA]; exact below_row (below_alloc HBw2.out _) (by have := HBw2.out.size; omega) _)
  have FWA := Aside0.mk (show WA.heap[w2.heap.size]? = some (.cells zd 26 (0, 0)) from by rw [hWA]; exact setRow_heap _ w2.heap.size _ _ _ (0, 0) (blk_new w2 _))
  clear hWA hscq
  go_wp2_with fail
  refine (refver_z WA _ s HL.out key (HK.out.below HBWA.out) HKB.out HKL.out HZ.out HC.out HN.out).mono ?_
  rintro e w3 ⟨rfl, hb3⟩
  have HBw3 := Aside0.mk (below_step HBWA.out hb3)
  have F3 := Aside0.mk ((hb3.block w2.heap.size (blk_lt FWA.out)).trans FWA.out)
  clear hb3
  have hscq := zk_cells (blk_new w3 (.cells z0 26)) hs0 hsd HAD.out
  go_upto_region 5 with fail
  obtain ⟨WB, hWB⟩ : ∃ W, W = (w3.alloc (.cells z0 26)).setRow w3.heap.size zd := ⟨_, rfl⟩
  rw [← hWB]
  have HBWB := Aside0.mk (show Below w.heap.size w WB from by rw [hWB]; exact below_row (below_alloc HBw3.out _) (by have := HBw3.out.size; omega) _)
  have FWB := Aside0.mk (show WB.heap[w3.heap.size]? = some (.cells zd 26 (0, 0)) from by rw [hWB]; exact setRow_heap _ w3.heap.size _ _ _ (0, 0) (blk_new w3 _))
  have FA2 := Aside0.mk (show WB.heap[w2.heap.size]? = some (.cells zd 26 (0, 0)) from by rw [hWB]; exact ((below_row (below_alloc (B0 w3) _) (Nat.le_refl _) _).block w2.heap.size (blk_lt F3.out)).trans F3.out)
  clear hWB hscq
  have HLa := Aside0.mk (row_load FA2.out hsd)
  have HLb := Aside0.mk (row_load FWB.out hsd)
  go_wp2_with (first | (refine load_evg (t := 26) (p := .tmp 5) (by rfl) rfl HLa.out ?_) | (refine load_evg (t := 26) (p := .tmp 7) (by rfl) rfl HLb.out ?_))
  refine (told_any 0 0 WB (errg_step HE.out HBWB.out)).mono ?_
  rintro e w4 ⟨rfl, hb4⟩
  have HBw4 := Aside0.mk (below_step HBWB.out hb4)
  have F4 := Aside0.mk ((hb4.block w2.heap.size (blk_lt FA2.out)).trans FA2.out)
  clear hb4
  have HL4 := Aside0.mk (row_load F4.out hsd)
  clear heq
  go_wp2_with (first | (refine load_evg (t := 26) (p := .tmp 5) (by rfl) rfl HL4.out ?_))
  refine (mint_zd HZC.out HD.out HDB.out HR.out w4 _ key (HK.out.below HBw4.out) HKB.out HKL.out (glob_below HG.out HG.out.1 HBw4.out) HP.out).mono ?_
  rintro e w5 ⟨rfl, hb5⟩
  have HBw5 := Aside0.mk (below_step HBw4.out hb5)
  clear hb5
  go_wp2_with fail
  go_ret
  exact ⟨rfl, HBw5.out⟩
theorem ver_err {key : List Int} {s : ByteArray} {c n : Int} (h : verP key s = .inl (c, n)) : c ≠ 0 := by
  rw [verP] at h
  split at h
  · injection h with h; injection h with h1 h2; omega
  · rename_i h0
    split at h
    · injection h with h; injection h with h1 h2; omega
    · split at h
      · injection h with h; injection h with h1 h2; omega
      · exact (prs_err (fun q hq => (HBaseP.dec_good (s := s) (by omega)).2.2 q (List.mem_of_mem_take hq)) h).1
theorem verifies_walk (w : World) (Ak : Option Addr) (ck : Nat) (key : List Int) (hK : Bv w (.slice Ak key.length ck) key) (hkb : ∀ x ∈ key, 0 ≤ x ∧ x < 256) (s : ByteArray) (hG : Glob w) (hE : ErrG w) :
    Calls Tryd.prog 5 #[.slice Ak key.length ck, .string s] w fun e w' => e = .returned (.bool true) ∧ Below w.heap.size w w' := by
  by_cases hkl : 200 < key.length
  · exact far_k w Ak key.length ck s hkl hG hE
  · by_cases hl : 500 < s.size
    · exact far_s w Ak key.length ck s hkl hl hG hE
    · cases hp : verP key s with
      | inl p =>
        obtain ⟨c, n⟩ := p
        exact near_bad w Ak ck key hK hkb (by omega) s (by omega) hG hE Z0C (by rfl) (by simp [nums, Value.oneCell']) (eq_z rfl) (by rw [hp]; rfl) c n (ver_err hp) rfl (by rw [hp]; rfl) (by rw [hp]; rfl)
      | inr p =>
        obtain ⟨x, d⟩ := p
        obtain ⟨r, rfl, hr, hd, hdb, hpay⟩ := ver_back hp
        exact near_good w Ak ck key hK hkb (by omega) s (by omega) hG hE (zkC 1 r d) (by simp [nums, hd]) (by simp [nums, Value.oneCell']) (fun w => eq_zk 1 r d hd w) (by rw [hp]; rfl) r d hd hdb hr rfl hpay (by rw [hp]; rfl) (by rw [hp]; rfl)
end Go.Proofs.YtogimlinfkbapaaDoor.HZookL3
