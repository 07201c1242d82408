/- The package name. -/
import Derived.Test.YthefibpcepgoaaaDoorHNameP
import Derived.Test.YthefibpcepgoaaaDoorHErrC
import Derived.Test.YthefibpcepgoaaaDoorShelf
import Derived.Test.YthefibpcepgoaaaDoorUR
import Derived.Deep.Cut
import Derived.WalkMore
namespace Go.Proofs.YthefibpcepgoaaaDoor.HName
open Go.RowKit Go.Proofs.YthefibpcepgoaaaDoorW.PrintWords Go.Proofs.YthefibpcepgoaaaDoor.HLib Go.Proofs.YthefibpcepgoaaaDoor.HNameP Go.Proofs.YthefibpcepgoaaaDoor.HErr
set_option linter.unusedVariables false
set_option linter.unusedSimpArgs false

theorem indexbyte_any (s : ByteArray) (c : Int) (w : World) : Calls Tryd.prog 23 #[.string s, .int .u8 c] w fun e w' => e = .returned (.int .i64 (findP s c)) ∧ w = w' :=
  (Tryd.strings_IndexByte s c w).mono fun _ _ ⟨a, b⟩ => ⟨a, b.symm⟩

set_option maxHeartbeats 4000000 in
theorem has_any (set s : ByteArray) (w : World) (hs : s.size ≤ 1099511627776) : Calls Tryd.prog 40 #[.string set, .string s] w fun e w' => e = .returned (.bool (allC (memC set) s)) ∧ w = w' := by
  go_enter Tryd.func40, Tryd.ntmps40
  go_wp2
  go_loop [5, 8] (fun v5 v8 => ∃ (j : Int), v8 = .int .i64 j ∧ Aside0 (0 ≤ j ∧ j ≤ s.size ∧ ∀ i : Nat, i < j.toNat → memC set (bt s i) = true)) (fun _ v8 => s.size - (intOf v8).toNat)
  case atStart => exact ⟨0, rfl, ⟨⟨by omega, by omega, fun i hi => by omega⟩⟩⟩
  case round =>
    obtain ⟨j, rfl, HA⟩ := hrel
    have hj0 := HA.out.1
    have hjm : j ≤ 1099511627776 := by have := HA.out; omega
    by_cases c1 : j < s.size
    · have d1 : decide (j < (s.size : Int)) = true := decide_eq_true c1
      go_wp2_with fail
      rw [bt_at s j]
      refine (indexbyte_any set _ _).mono ?_
      rintro e w1 ⟨rfl, rfl⟩
      obtain ⟨V, hV⟩ : ∃ V, V = findP set (bt s j) := ⟨_, rfl⟩
      have HV := Aside0.mk hV
      rw [← hV]
      clear hV
      by_cases c2 : V < 0
      · have d2 : decide (V < 0) = true := decide_eq_true c2
        have HE := Aside0.mk (allC_false (p := memC set) (s := s) j.toNat (by omega) (by rw [show ((j.toNat : Nat) : Int) = j from by omega]; unfold memC; exact decide_eq_false (by have := HV.out; unfold findP at this; omega)))
        go_wp2
        go_ret
        exact ⟨by rw [HE.out]; rfl, rfl⟩
      · have d2 : decide (V < 0) = false := decide_eq_false c2
        go_wp2
        go_round
        case measure => simp [intOf]; omega
        case rel =>
          refine ⟨j + 1, rfl, ⟨⟨by omega, by omega, fun i hi => ?_⟩⟩⟩
          by_cases hij : i < j.toNat
          · exact HA.out.2.2 i hij
          · rw [show i = j.toNat from by omega, show ((j.toNat : Nat) : Int) = j from by omega]
            unfold memC
            exact decide_eq_true (by have := HV.out; unfold findP at this; omega)
    · have d1 : decide (j < (s.size : Int)) = false := decide_eq_false c1
      have HE := Aside0.mk (allC_true (p := memC set) (s := s) (fun i hi => HA.out.2.2 i (by omega)))
      go_wp2
      go_ret
      exact ⟨by rw [HE.out]; rfl, rfl⟩

/-- What the listed variable name.reserved holds. -/
def ResG (w : World) : Prop := 0 < w.heap.size ∧ ∀ j : Nat, j < 3 → w.cell? ⟨0, j, none⟩ = some (.string ([DEF, REL, PERM].getD j ByteArray.empty))
theorem ResG.below {w w1 : World} {n : Nat} (h : ResG w) (hb : Below n w w1) (hn : 0 < n) : ResG w1 :=
  ⟨by have := hb.size; have := h.1; omega, fun j hj => by rw [hb.cell (p := ⟨0, j, none⟩) hn]; exact h.2 j hj⟩

set_option maxHeartbeats 4000000 in
theorem reserved_any (s : ByteArray) (w : World) (hG : ResG w) : Calls Tryd.prog 27 #[.string s] w fun e w' => e = .returned (.bool (resP s)) ∧ w = w' := by
  have HG := Aside0.mk hG
  clear hG
  go_enter Tryd.func27, Tryd.ntmps27
  go_wp2_with fail
  refine (Tryd.slices_Contains_string 0 0 3 3 [DEF, REL, PERM] s _ (by decide) (by decide) (fun j hj => by rw [Nat.zero_add]; exact HG.out.2 j hj)).mono ?_
  rintro e w1 ⟨rfl, hw⟩
  subst hw
  go_wp2
  go_ret
  exact ⟨rfl, rfl⟩

set_option maxHeartbeats 4000000 in
theorem is_any (s : ByteArray) (w : World) (hG : ResG w) : Calls Tryd.prog 26 #[.string s] w fun e w' => e = .returned (.bool (isP s)) ∧ w = w' := by
  have HG := Aside0.mk hG
  clear hG
  by_cases h0 : s.size = 0
  · have HN := Aside0.mk (isP_no s (.inl h0))
    have he := nil_of_size h0
    clear h0
    go_enter Tryd.func26, Tryd.ntmps26
    go_wp2
    go_ret
    exact ⟨by rw [HN.out]; rfl, rfl⟩
  by_cases h64 : 64 < s.size
  · have HN := Aside0.mk (isP_no s (.inr h64))
    have he := ne_of_size (s := s) (by omega)
    have d1 : ¬ ((s.size : Int) ≤ 64) := by omega
    clear h0 h64
    go_enter Tryd.func26, Tryd.ntmps26
    go_wp2
    go_ret
    exact ⟨by rw [HN.out]; rfl, rfl⟩
  have he := ne_of_size (s := s) (by omega)
  have he2 : s.toList.isEmpty = false := by cases h : s.toList with
    | nil => exact absurd h he
    | cons a l => rfl
  have h1 : (1 : Int) ≤ (s.size : Int) := by omega
  have h2 : (s.size : Int) ≤ 64 := by omega
  have HX := Aside0.mk (show (s.extract 0 1).size ≤ 1099511627776 by rw [ByteArray.size_extract]; omega)
  have HV := Aside0.mk (first_small s (by omega))
  have HP := Aside0.mk (isP_eq s (by omega) (by omega))
  have HA := Aside0.mk (all_name s)
  clear h0 h64
  go_enter Tryd.func26, Tryd.ntmps26
  go_wp2_with fail
  refine (has_any SMALL _ _ HX.out).mono ?_
  rintro e w1 ⟨rfl, rfl⟩
  rw [HV.out]
  cases hv : smallC (bt s 0) with
  | false =>
    rw [hv, Bool.false_and] at HP
    clear hv HV
    go_wp2
    go_ret
    exact ⟨by rw [HP.out]; rfl, rfl⟩
  | true =>
    rw [hv, Bool.true_and] at HP
    clear hv HV
    go_wp2_with fail
    refine (has_any INNAME _ _ (by omega)).mono ?_
    rintro e w1 ⟨rfl, rfl⟩
    rw [HA.out]
    cases hn : allC nameC s with
    | false =>
      rw [hn, Bool.false_and] at HP
      clear hn HA
      go_wp2
      go_ret
      exact ⟨by rw [HP.out]; rfl, rfl⟩
    | true =>
      rw [hn, Bool.true_and] at HP
      clear hn HA
      go_wp2_with fail
      refine (reserved_any _ _ HG.out).mono ?_
      rintro e w1 ⟨rfl, rfl⟩
      go_wp2
      go_ret
      exact ⟨by rw [HP.out]; rfl, rfl⟩

end Go.Proofs.YthefibpcepgoaaaDoor.HName
/- Plain facts for lex.Tokens: sets of bytes, prefixes of two bytes. -/
namespace Go.Proofs.YthefibpcepgoaaaDoor.HLexS
open Go.RowKit Go.Proofs.YthefibpcepgoaaaDoorW.PrintWords Go.Proofs.YthefibpcepgoaaaDoor.HLib Go.Proofs.YthefibpcepgoaaaDoor.HNameP Go.Proofs.YthefibpcepgoaaaDoor.HLexP Go.Proofs.YthefibpcepgoaaaDoor.HLexJ Go.Proofs.YthefibpcepgoaaaDoor.PLexJoins Go.Proofs.YthefibpcepgoaaaDoor.HLexA
set_option linter.unusedVariables false
set_option linter.unusedSimpArgs false

def SPACES : ByteArray := ⟨#[32, 9, 10, 13]⟩
def SIGNS : ByteArray := ⟨#[123, 125, 40, 41, 58, 59, 61, 124, 35, 43, 38, 45]⟩
def COMM : ByteArray := ⟨#[47, 47]⟩
theorem mem_sp (c : Int) (h0 : 0 ≤ c) (h1 : c ≤ 255) : memC SPACES c = spC c := mem_all _ _ (by decide +kernel) c h0 h1
theorem mem_sign (c : Int) (h0 : 0 ≤ c) (h1 : c ≤ 255) : memC SIGNS c = signC c := mem_all _ _ (by decide +kernel) c h0 h1
theorem pre_two (l : List UInt8) (a b : UInt8) : Lib.hasPrefix l [a, b] = true ↔ l[0]? = some a ∧ l[1]? = some b := by
  unfold Lib.hasPrefix
  match l with
  | [] => simp
  | [x] => simp [List.isPrefixOf]
  | x :: y :: t =>
    simp only [List.isPrefixOf, Bool.and_true, Bool.and_eq_true, beq_iff_eq, List.getElem?_cons_zero, List.getElem?_cons_succ, Option.some.injEq]
    exact ⟨fun h => ⟨h.1.symm, h.2.symm⟩, fun h => ⟨h.1.symm, h.2.symm⟩⟩
theorem has_two (s : ByteArray) (i : Nat) (a b : Int) (ha : 0 ≤ a ∧ a ≤ 255) (hb : 0 ≤ b ∧ b ≤ 255) : Lib.hasPrefix (rest s i).data.toList [a.toNat.toUInt8, b.toNat.toUInt8] = two s i a b := by
  rw [Bool.eq_iff_iff, pre_two, two_iff, bt_get _ 0 a ha, bt_get _ 1 b hb, rest_size]
  constructor
  · rintro ⟨⟨h1, h2⟩, h3, h4⟩
    rw [bt_rest s i 0 (by omega), Nat.add_zero] at h2
    rw [bt_rest s i 1 (by omega)] at h4
    exact ⟨by omega, h2, h4⟩
  · rintro ⟨h1, h2, h3⟩
    exact ⟨⟨by omega, by rw [bt_rest s i 0 (by omega), Nat.add_zero]; exact h2⟩, by omega, by rw [bt_rest s i 1 (by omega)]; exact h3⟩
theorem sp_any (c : Int) (w : World) (h0 : 0 ≤ c) (h1 : c ≤ 255) : Calls Tryd.prog 23 #[.string SPACES, .int .u8 c] w fun e w' => ∃ V : Int, e = .returned (.int .i64 V) ∧ decide (0 ≤ V) = spC c ∧ w = w' := by
  refine (Tryd.strings_IndexByte SPACES c w).mono ?_
  rintro e w' ⟨h, hw⟩
  exact ⟨_, h, by rw [← mem_sp c h0 h1]; rfl, hw.symm⟩
theorem sign_any (c : Int) (w : World) (h0 : 0 ≤ c) (h1 : c ≤ 255) : Calls Tryd.prog 23 #[.string SIGNS, .int .u8 c] w fun e w' => ∃ V : Int, e = .returned (.int .i64 V) ∧ decide (0 ≤ V) = signC c ∧ w = w' := by
  refine (Tryd.strings_IndexByte SIGNS c w).mono ?_
  rintro e w' ⟨h, hw⟩
  exact ⟨_, h, by rw [← mem_sign c h0 h1]; rfl, hw.symm⟩
theorem comm_any (s : ByteArray) (i : Nat) (w : World) : Calls Tryd.prog 24 #[.string (rest s i), .string COMM] w fun e w' => e = .returned (.bool (two s i 47 47)) ∧ w = w' := by
  refine (Tryd.strings_HasPrefix (rest s i) COMM w).mono ?_
  rintro e w' ⟨h, hw⟩
  exact ⟨by rw [h, ← has_two s i 47 47 (by decide) (by decide)]; rfl, hw.symm⟩
theorem arrow_any (s : ByteArray) (i : Nat) (w : World) : Calls Tryd.prog 24 #[.string (rest s i), .string ARROW] w fun e w' => e = .returned (.bool (two s i 45 62)) ∧ w = w' := by
  refine (Tryd.strings_HasPrefix (rest s i) ARROW w).mono ?_
  rintro e w' ⟨h, hw⟩
  exact ⟨by rw [h, ← has_two s i 45 62 (by decide) (by decide)]; rfl, hw.symm⟩
theorem yieldsIf_load {P : Program} {ops : Array Oper} {S : World → Prop} {op : Oper} {a : Act} (hw : Region.wanted op (yielded ops a.tmps) = true) (ty : TypeId) (x : Operand) (ho : op.op = .load ty x) (v : Value)
    (h : ∀ w, S w → (Instr.loadAt ty (a.eval x)).run P w = .ok v w) : YieldsIf P ops S op v a :=
  .inl ⟨hw, fun w hS => by simp [execOp, ho, h w hS, Result.andThen]⟩
theorem load_int {P : Program} {W : World} {g o : Nat} {x : Int} {k : IntKind} {ty : TypeId} (hu : P.underlying ty = some (.int k)) (h : W.cell? ⟨g, o, none⟩ = some (.int k x)) :
    (Instr.loadAt ty (.pointer (some ⟨g, o, none⟩))).run P W = .ok (.int k x) W := by
  simp [Instr.loadAt, Instr.sureAddr, loadVar, isAgg, run_underlying hu, Result.andThen, run_load, h]
theorem wp_load_of {P : Program} {o : Oper} {a : Act} {w : World} {K : Act → World → Prop} {Q : Exit → Act → World → Prop} {ty : TypeId} {x : Operand} {v : Value} (ho : o.op = .load ty x) (h : (Instr.loadAt ty (a.eval x)).run P w = .ok v w) (hk : K (a.put o.dst v) w) : o.wp P a w K Q := by
  unfold Oper.wp
  rw [show (execOp a.eval o).run P w = .ok (.value v) w from by simp [execOp, ho, h, Result.andThen]]
  exact hk
theorem wp_store_of {P : Program} {o : Oper} {a : Act} {w w1 : World} {K : Act → World → Prop} {Q : Exit → Act → World → Prop} {ty : TypeId} {x y : Operand} (ho : o.op = .store ty x y) (hN : o.dst = none) (h : (Instr.storeAt ty (a.eval x) (a.eval y)).run P w = .ok () w1) (hk : K a w1) : o.wp P a w K Q := by
  unfold Oper.wp
  rw [show (execOp a.eval o).run P w = .ok .skip w1 from by simp [execOp, ho, h, Result.andThen]]
  show K (a.put o.dst undef) w1
  rw [hN]
  exact hk
theorem store_int {P : Program} {W : World} {g : Nat} {x y : Int} {t : TypeId} (hu : P.underlying t = some (.int .i64)) (hs : (P.info? t).map (·.size) = some 1) (h : W.heap[g]? = some (.cells #[.int .i64 x] t (0, 0))) :
    (Instr.storeAt t (.pointer (some ⟨g, 0, none⟩)) (.int .i64 y)).run P W = .ok () (W.setCell ⟨g, 0, none⟩ (.int .i64 y)) := by
  have hc := one_cell h
  have hf := one_frozen h
  obtain ⟨i, hi, he⟩ := Option.map_eq_some_iff.1 hs
  simp [Instr.storeAt, Instr.sureAddr, storeVar, storeCells, sizeOf, typeInfo, hi, he, Value.cells, Result.andThen, Sem.run_bind]
  rw [Go.Proofs.YthefibpcepgoaaaDoorW.PrintWords.add_plain]
  rw [Go.run_store _ _ _ _ _ rfl]
  simp [hc, hf]
theorem size_int : (Tryd.prog.info? 3).map (·.size) = some 1 := by kernel_rfl
def tk36 (t : Tok) : S36 := ⟨t.1, t.2.1, t.2.2⟩
theorem Inv.drewN {w : World} {B go ga : Nat} {v : Value} {xs : List S36} {i : Int} (h : Inv w B go ga v xs i) (m : Nat) : Inv (w.drewN m) B go ga v xs i := ⟨h.out, h.at_, Kd.R_drewN h.row m, h.ne, h.bo, h.ba⟩
theorem Inv.move {w : World} {B go ga : Nat} {v : Value} {xs : List S36} {i j : Int} (h : Inv w B go ga v xs i) : Inv (w.setCell ⟨ga, 0, none⟩ (.int .i64 j)) B go ga v xs j :=
  ⟨one_other h.out h.ne, one_set h.at_, Kd.R_set h.row h.at_ (by decide) 0 _, h.ne, h.bo, h.ba⟩
theorem Inv.drew {w : World} {B go ga : Nat} {v : Value} {xs : List S36} {i : Int} (h : Inv w B go ga v xs i) : Inv w.drew B go ga v xs i := ⟨h.out, h.at_, Kd.R_drew h.row, h.ne, h.bo, h.ba⟩
theorem Inv.below {w w1 : World} {B go ga : Nat} {v : Value} {xs : List S36} {i : Int} (h : Inv w B go ga v xs i) (hb : Below w.heap.size w w1) : Inv w1 B go ga v xs i :=
  ⟨(hb.block _ (blk_lt h.out)).trans h.out, (hb.block _ (blk_lt h.at_)).trans h.at_, Kd.R_below h.row hb, h.ne, h.bo, h.ba⟩
end Go.Proofs.YthefibpcepgoaaaDoor.HLexS
/- lex.Tokens. -/
namespace Go.Proofs.YthefibpcepgoaaaDoor.HLexT
open Go.RowKit Go.Proofs.YthefibpcepgoaaaDoorW.PrintWords Go.Proofs.YthefibpcepgoaaaDoor.HLib Go.Proofs.YthefibpcepgoaaaDoor.HNameP Go.Proofs.YthefibpcepgoaaaDoor.HLexP Go.Proofs.YthefibpcepgoaaaDoor.HLexJ Go.Proofs.YthefibpcepgoaaaDoor.PLexJoins Go.Proofs.YthefibpcepgoaaaDoor.HLexA Go.Proofs.YthefibpcepgoaaaDoor.HLexR Go.Proofs.YthefibpcepgoaaaDoor.HLexS Go.Proofs.YthefibpcepgoaaaDoor.HName Go.Proofs.YthefibpcepgoaaaDoor.HErr
set_option linter.unusedVariables false
set_option linter.unusedSimpArgs false

abbrev fltV (c n : Int) : Value := .iface 64 (.agg #[.int .i64 c, .int .i64 n])
def Out (e : Ending) (w' : World) (B : Nat) : (Int × Int) ⊕ List Tok → Prop
  | .inl (c, n) => e = .returned (.tuple #[.slice none 0 0, fltV c n])
  | .inr l => ∃ v, e = .returned (.tuple #[v, .nilIface]) ∧ Kd.R k36 36 w' B (fun _ => True) v (l.map tk36)
set_option maxRecDepth 100000 in
set_option maxHeartbeats 16000000 in
theorem tokens_any (s : ByteArray) (hs : s.size ≤ 65536) (w : World) (hG : ResG w) : Calls Tryd.prog 9 #[.string s] w fun e w' => Out e w' w.heap.size (lexP s) ∧ Below w.heap.size w w' := by
  have HG := Aside0.mk hG
  have HS := Aside0.mk hs
  have d0 : decide ((65536 : Int) < (s.size : Int)) = false := decide_eq_false (by omega)
  have d0' : decide (65536 < s.size) = false := decide_eq_false (by omega)
  clear hG hs
  go_enter Tryd.func9, Tryd.ntmps9
  go_wp2
  go_step3
  go_wp2
  go_step3
  go_wp2
  obtain ⟨W0, hW0⟩ : ∃ W, W = (w.alloc (.cells #[.slice none 0 0] 23)).alloc (.cells #[.int .i64 0] 3) := ⟨_, rfl⟩
  rw [← hW0]
  have HB0 := Aside0.mk (show Below w.heap.size w W0 from by rw [hW0]; exact below_alloc (below_alloc (B0 w) _) _)
  have HI0 := Aside0.mk (show Inv W0 w.heap.size w.heap.size (w.heap.size + 1) (.slice none 0 0) [] 0 from by
    rw [hW0]
    refine ⟨blk_alloc (blk_new w _) _, ?_, Kd.R_nil _ _ _ _ _, by omega, Nat.le_refl _, by omega⟩
    have h := blk_new (w.alloc (.cells #[.slice none 0 0] 23)) (.cells #[.int .i64 0] 3)
    rw [World.size_alloc] at h
    exact h)
  clear hW0
  go_loopg [] s.size (fun kq w' => ∃ (i : Nat) (v : Value) (xs : List Tok), Aside0 (kq + i = s.size ∧ xs.length ≤ i ∧ lexG s (s.size + 1 - i) i xs = lexP s) ∧ Aside0 (Inv w' w.heap.size w.heap.size (w.heap.size + 1) v (xs.map tk36) i) ∧ Aside0 (Below w.heap.size w w'))
  case atStart => exact ⟨0, _, [], ⟨by omega, Nat.le_refl _, by rw [lexP, if_neg (by have := HS.out; omega)]; rfl⟩, ⟨HI0.out⟩, ⟨HB0.out⟩⟩
  case round =>
    clear HI0 HB0
    obtain ⟨i, v, xs, HA, HI, HB⟩ := hrel
    have hc := one_cell HI.out.at_
    by_cases ci : i < s.size
    · have d1 : decide ((i : Int) < (s.size : Int)) = true := decide_eq_true (by omega)
      have d2 : (i : Int) ≤ (s.size : Int) := by omega
      have d3 : (i : Int) < (s.size : Int) := by omega
      have d4 : (i : Int) ≤ 65536 := by have := HS.out; omega
      have HCI := Aside0.mk ci
      have hbt : ∀ h : i < s.size, ((s[i]'h).toNat : Int) = bt s i := fun h => bt_at s i h
      have hlex := HA.out.2.2
      rw [show s.size + 1 - i = (s.size - i) + 1 from by omega, lexG, if_neg (by omega)] at hlex
      have HLX := Aside0.mk hlex
      clear ci hlex
      go_wp2_with fail
      refine (run_word (rest s i) (by rw [rest_size]; have := HS.out; omega) wr).mono ?_
      rintro e w1 ⟨rfl, ⟨⟨m, rfl⟩⟩⟩
      obtain ⟨wd, hwd⟩ : ∃ x, x = (rest s i).extract 0 (runLn inW (rest s i)) := ⟨_, rfl⟩
      have HWD := Aside0.mk hwd
      rw [← hwd]
      clear hwd
      have HI1 := Aside0.mk (HLexS.Inv.drewN HI.out m)
      have HB1 := Aside0.mk (pw_below_drewN HB.out m)
      generalize wr.drewN m = W1 at HI1 HB1 ⊢
      clear hc HI HB
      have hc := one_cell HI1.out.at_
      have hf := one_frozen HI1.out.at_
      have HG1 := Aside0.mk (HG.out.below HB1.out HG.out.1)
      go_wp2_with fail
      refine (sp_any (bt s i) _ (bt_range s i).1 (bt_range s i).2).mono ?_
      rintro e w2 ⟨V, rfl, hV, rfl⟩
      cases hsp : spC (bt s i) with
      | true =>
        rw [hsp] at hV HLX
        have HLX2 := Aside0.mk HLX.out
        rw [if_pos rfl] at HLX2
        clear hsp
        go_wp2
        go_roundg (s.size - (i + 1))
        case measure => have := HA.out; have := HCI.out; omega
        case rel => exact ⟨i + 1, v, xs, ⟨by have := HA.out; have := HCI.out; omega, by have := HA.out; omega, by rw [show s.size + 1 - (i + 1) = s.size - i from by omega]; exact HLX2.out⟩, ⟨by have h := HLexS.Inv.move HI1.out (j := (i : Int) + 1); exact h⟩, ⟨HB1.out.setCell (p := (⟨w.heap.size + 1, 0, none⟩ : Addr)) (Nat.le_succ _) _⟩⟩
      | false =>
        rw [hsp] at hV HLX
        have HLX2 := Aside0.mk HLX.out
        rw [if_neg (by simp)] at HLX2
        clear hsp HLX
        go_wp2_with fail
        refine (comm_any s i _).mono ?_
        rintro e w3 ⟨rfl, rfl⟩
        clear hV
        cases h2 : two s i 47 47 with
        | true =>
          rw [h2, if_pos rfl] at HLX2
          have H2C := Aside0.mk (two_at h2).2.1
          clear h2
          have hle := runLn_le notNL (rest s i)
          rw [rest_size] at hle
          have HNL := Aside0.mk (show i + runLn notNL (rest s i) ≤ s.size from by have := HCI.out; omega)
          have HNP := Aside0.mk (show 0 < runLn notNL (rest s i) from by have h := (runLn_pos (p := notNL) HCI.out); rw [H2C.out] at h; exact h.2 rfl)
          clear hle
          go_wp2
          refine wp_region_held_drew (S := fun _ => True) (by kernel_rfl) trivial (fun hHeld => ?_)
          have HId := Aside0.mk (HLexS.Inv.drew HI1.out)
          have HBd := Aside0.mk (below_drew HB1.out)
          generalize W1.drew = Wd at HId HBd ⊢
          refine wpAnyH_take (i := 1) (v := .string (s.extract i s.size)) rfl (by kernel_rfl) (by kernel_rfl) (by kernel_rfl) (fun _ _ _ h => h) (Or.inl ⟨by rfl, ?hy1⟩) hHeld ?_
          case hy1 => intro w' hSw; go_simp
          simp only [List.getElem_toArray, List.getElem_cons_succ, List.getElem_cons_zero, Act.put, List.setIfInBounds_toArray, List.set_cons_zero, List.set_cons_succ]
          refine wpAnyH_ready (rs := [0, 2]) (by kernel_rfl) (by simp) ?_
          refine AllReadyH.cons rfl (fun K hK => ?_) (AllReadyH.cons rfl (fun K hK => ?_) AllReadyH.nil)
          · skip
            simp only [List.getElem_toArray, List.getElem_cons_succ, List.getElem_cons_zero]
            rw [if_pos (by rfl)]
            refine wp_load_of rfl (load_int Tryd.underlying3 (one_cell HId.out.at_)) ?_
            simp only [Act.put, List.setIfInBounds_toArray, List.set_cons_zero, List.set_cons_succ]
            refine hK.out _ _ trivial (fun hHeld => ?_)
            clear hK K
            refine wpAnyH_ready (rs := [2]) (by kernel_rfl) (by simp) ?_
            refine AllReadyH.cons rfl (fun K hK => ?_) AllReadyH.nil
            simp only [List.getElem_toArray, List.getElem_cons_succ, List.getElem_cons_zero]
            rw [if_pos (by rfl)]
            go_simp
            refine (run_nl (rest s i) (by rw [rest_size]; have := HS.out; omega) _).mono ?_
            rintro e x ⟨rfl, ⟨⟨m2, rfl⟩⟩⟩
            have HIX1 := Aside0.mk (HLexS.Inv.drewN HId.out m2)
            have HBX1 := Aside0.mk (pw_below_drewN HBd.out m2)
            obtain ⟨cm, hcm⟩ : ∃ x, x = (rest s i).extract 0 (runLn notNL (rest s i)) := ⟨_, rfl⟩
            have HCM := Aside0.mk (show cm.size = runLn notNL (rest s i) from by rw [hcm]; exact ext_size s i _ HNL.out)
            rw [← hcm]
            clear hcm
            generalize Wd.drewN m2 = X1 at HIX1 HBX1 ⊢
            refine hK.out _ _ trivial (fun hHeld => ?_)
            clear hK K
            refine wpAnyH_take (i := 3) (v := .int .i64 cm.size) rfl (by kernel_rfl) (by kernel_rfl) (by kernel_rfl) (fun _ _ _ h => h) (Or.inl ⟨by rfl, ?hy3⟩) hHeld ?_
            case hy3 => intro w' hSw; go_simp
            simp only [List.getElem_toArray, List.getElem_cons_succ, List.getElem_cons_zero, Act.put, List.setIfInBounds_toArray, List.set_cons_zero, List.set_cons_succ]
            refine wpAnyH_take (i := 4) (v := .int .i64 ((i : Int) + cm.size)) rfl (by kernel_rfl) (by kernel_rfl) (by kernel_rfl) (fun _ _ _ h => h) (Or.inl ⟨by rfl, ?hy4⟩) hHeld ?_
            case hy4 => intro w' hSw; have hw : IntKind.i64.wrap ((i : Int) + cm.size) = (i : Int) + cm.size := IntWalk.i64_in _ (by have h1 := HCM.out; have h2 := HNL.out; have h3 := HS.out; omega); go_simp
            simp only [List.getElem_toArray, List.getElem_cons_succ, List.getElem_cons_zero, Act.put, List.setIfInBounds_toArray, List.set_cons_zero, List.set_cons_succ]
            refine wpAnyH_ready (rs := [5]) (by kernel_rfl) (by simp) ?_
            refine AllReadyH.cons rfl (fun K hK => ?_) AllReadyH.nil
            simp only [List.getElem_toArray, List.getElem_cons_succ, List.getElem_cons_zero]
            rw [if_pos (by rfl)]
            refine wp_store_of rfl rfl (store_int Tryd.underlying3 size_int HIX1.out.at_) ?_
            refine hK.out _ _ trivial (fun hHeld => ?_)
            clear hK K
            refine wpAnyH_done (by kernel_rfl) ?_ _
            go_wp2
            go_roundg (s.size - (i + runLn notNL (rest s i)))
            case measure => have := HA.out; have := HCI.out; have := HNP.out; omega
            case rel =>
              refine ⟨i + runLn notNL (rest s i), v, xs, ⟨by have := HA.out; have := HNL.out; omega, by have := HA.out; omega, ?_⟩, ⟨?_⟩, ⟨HBX1.out.setCell (p := (⟨w.heap.size + 1, 0, none⟩ : Addr)) (Nat.le_succ _) _⟩⟩
              · rw [← HLX2.out]; exact lexG_any s _ _ _ _ (by have := HCI.out; omega) (by have := HCI.out; have := HNP.out; omega)
              · have h := HLexS.Inv.move HIX1.out (j := (i : Int) + cm.size)
                rw [show ((i + runLn notNL (rest s i) : Nat) : Int) = (i : Int) + cm.size from by rw [HCM.out, Int.natCast_add]]
                exact h
          · skip
            simp only [List.getElem_toArray, List.getElem_cons_succ, List.getElem_cons_zero]
            rw [if_pos (by rfl)]
            go_simp
            refine (run_nl (rest s i) (by rw [rest_size]; have := HS.out; omega) _).mono ?_
            rintro e x ⟨rfl, ⟨⟨m2, rfl⟩⟩⟩
            have HIX1 := Aside0.mk (HLexS.Inv.drewN HId.out m2)
            have HBX1 := Aside0.mk (pw_below_drewN HBd.out m2)
            obtain ⟨cm, hcm⟩ : ∃ x, x = (rest s i).extract 0 (runLn notNL (rest s i)) := ⟨_, rfl⟩
            have HCM := Aside0.mk (show cm.size = runLn notNL (rest s i) from by rw [hcm]; exact ext_size s i _ HNL.out)
            rw [← hcm]
            clear hcm
            generalize Wd.drewN m2 = X1 at HIX1 HBX1 ⊢
            refine hK.out _ _ trivial (fun hHeld => ?_)
            clear hK K
            refine wpAnyH_take (i := 3) (v := .int .i64 cm.size) rfl (by kernel_rfl) (by kernel_rfl) (by kernel_rfl) (fun _ _ _ h => h) (Or.inl ⟨by rfl, ?hy3⟩) hHeld ?_
            case hy3 => intro w' hSw; go_simp
            simp only [List.getElem_toArray, List.getElem_cons_succ, List.getElem_cons_zero, Act.put, List.setIfInBounds_toArray, List.set_cons_zero, List.set_cons_succ]
            refine wpAnyH_ready (rs := [0]) (by kernel_rfl) (by simp) ?_
            refine AllReadyH.cons rfl (fun K hK => ?_) AllReadyH.nil
            simp only [List.getElem_toArray, List.getElem_cons_succ, List.getElem_cons_zero]
            rw [if_pos (by rfl)]
            refine wp_load_of rfl (load_int Tryd.underlying3 (one_cell HIX1.out.at_)) ?_
            simp only [Act.put, List.setIfInBounds_toArray, List.set_cons_zero, List.set_cons_succ]
            refine hK.out _ _ trivial (fun hHeld => ?_)
            clear hK K
            refine wpAnyH_take (i := 4) (v := .int .i64 ((i : Int) + cm.size)) rfl (by kernel_rfl) (by kernel_rfl) (by kernel_rfl) (fun _ _ _ h => h) (Or.inl ⟨by rfl, ?hy4⟩) hHeld ?_
            case hy4 => intro w' hSw; have hw : IntKind.i64.wrap ((i : Int) + cm.size) = (i : Int) + cm.size := IntWalk.i64_in _ (by have h1 := HCM.out; have h2 := HNL.out; have h3 := HS.out; omega); go_simp
            simp only [List.getElem_toArray, List.getElem_cons_succ, List.getElem_cons_zero, Act.put, List.setIfInBounds_toArray, List.set_cons_zero, List.set_cons_succ]
            refine wpAnyH_ready (rs := [5]) (by kernel_rfl) (by simp) ?_
            refine AllReadyH.cons rfl (fun K hK => ?_) AllReadyH.nil
            simp only [List.getElem_toArray, List.getElem_cons_succ, List.getElem_cons_zero]
            rw [if_pos (by rfl)]
            refine wp_store_of rfl rfl (store_int Tryd.underlying3 size_int HIX1.out.at_) ?_
            refine hK.out _ _ trivial (fun hHeld => ?_)
            clear hK K
            refine wpAnyH_done (by kernel_rfl) ?_ _
            go_wp2
            go_roundg (s.size - (i + runLn notNL (rest s i)))
            case measure => have := HA.out; have := HCI.out; have := HNP.out; omega
            case rel =>
              refine ⟨i + runLn notNL (rest s i), v, xs, ⟨by have := HA.out; have := HNL.out; omega, by have := HA.out; omega, ?_⟩, ⟨?_⟩, ⟨HBX1.out.setCell (p := (⟨w.heap.size + 1, 0, none⟩ : Addr)) (Nat.le_succ _) _⟩⟩
              · rw [← HLX2.out]; exact lexG_any s _ _ _ _ (by have := HCI.out; omega) (by have := HCI.out; have := HNP.out; omega)
              · have h := HLexS.Inv.move HIX1.out (j := (i : Int) + cm.size)
                rw [show ((i + runLn notNL (rest s i) : Nat) : Int) = (i : Int) + cm.size from by rw [HCM.out, Int.natCast_add]]
                exact h
        | false =>
          rw [h2, if_neg (by simp)] at HLX2
          clear h2
          by_cases c3 : 0 < runLn inW (rest s i)
          · rw [if_pos c3, ← HWD.out] at HLX2
            have hle := runLn_le inW (rest s i)
            rw [rest_size] at hle
            have hws : wd.size = runLn inW (rest s i) := by rw [HWD.out]; exact ext_size s i _ (by have := HCI.out; omega)
            rw [← hws] at HLX2
            have HWS := Aside0.mk (show 1 ≤ wd.size ∧ i + wd.size ≤ s.size from by have := HCI.out; omega)
            clear hws hle c3
            have he := ne_of_size (s := wd) HWS.out.1
            have he2 : wd.toList.isEmpty = false := by cases h : wd.toList with
              | nil => exact absurd h he
              | cons a l => rfl
            go_wp2_with fail
            refine (is_any wd _ HG1.out).mono ?_
            rintro e w4 ⟨rfl, rfl⟩
            cases hp : isP wd with
            | true =>
              rw [hp, Bool.true_or, if_pos rfl] at HLX2
              clear hp
              go_wp2_with fail
              refine (add_any W1 w.heap.size w.heap.size (w.heap.size + 1) v (xs.map tk36) i 1 (wd) HI1.out (by omega) (by omega) (by have := HWS.out; have := HS.out; omega) (by rw [List.length_map]; have := HA.out; have := HS.out; have := HCI.out; omega)).mono ?_
              rintro e w5 ⟨rfl, ⟨v5, hI5⟩, hb5⟩
              have HI5 := Aside0.mk hI5
              have HB5 := Aside0.mk (HB1.out.trans hb5)
              clear hI5 hb5
              go_wp2
              go_roundg (s.size - (i + wd.size))
              case measure => have := HA.out; have := HCI.out; have := HWS.out; omega
              case rel =>
                refine ⟨i + wd.size, v5, xs ++ [(1, wd, (i : Int))], ⟨by have := HA.out; have := HCI.out; have := HWS.out; omega, by rw [List.length_append, List.length_singleton]; have := HA.out; have := HWS.out; omega, ?_⟩, ⟨?_⟩, ⟨HB5.out⟩⟩
                · rw [← HLX2.out]; exact lexG_any s _ _ _ _ (by have := HCI.out; have := HWS.out; omega) (by have := HCI.out; have := HWS.out; omega)
                · have h := HI5.out; rw [show (xs ++ [((1 : Int), wd, (i : Int))]).map tk36 = xs.map tk36 ++ [⟨1, wd, i⟩] from by rw [List.map_append]; rfl, show ((i + wd.size : Nat) : Int) = (i : Int) + ((wd : ByteArray).size : Int) from by rw [Int.natCast_add]]; exact h
            | false =>
              rw [hp, Bool.false_or] at HLX2
              clear hp
              go_wp2_with fail
              refine (reserved_any wd _ HG1.out).mono ?_
              rintro e w4 ⟨rfl, rfl⟩
              cases hr : resP wd with
              | true =>
                rw [hr, if_pos rfl] at HLX2
                clear hr
                go_wp2_with fail
                refine (add_any W1 w.heap.size w.heap.size (w.heap.size + 1) v (xs.map tk36) i 1 (wd) HI1.out (by omega) (by omega) (by have := HWS.out; have := HS.out; omega) (by rw [List.length_map]; have := HA.out; have := HS.out; have := HCI.out; omega)).mono ?_
                rintro e w5 ⟨rfl, ⟨v5, hI5⟩, hb5⟩
                have HI5 := Aside0.mk hI5
                have HB5 := Aside0.mk (HB1.out.trans hb5)
                clear hI5 hb5
                go_wp2
                go_roundg (s.size - (i + wd.size))
                case measure => have := HA.out; have := HCI.out; have := HWS.out; omega
                case rel =>
                  refine ⟨i + wd.size, v5, xs ++ [(1, wd, (i : Int))], ⟨by have := HA.out; have := HCI.out; have := HWS.out; omega, by rw [List.length_append, List.length_singleton]; have := HA.out; have := HWS.out; omega, ?_⟩, ⟨?_⟩, ⟨HB5.out⟩⟩
                  · rw [← HLX2.out]; exact lexG_any s _ _ _ _ (by have := HCI.out; have := HWS.out; omega) (by have := HCI.out; have := HWS.out; omega)
                  · have h := HI5.out; rw [show (xs ++ [((1 : Int), wd, (i : Int))]).map tk36 = xs.map tk36 ++ [⟨1, wd, i⟩] from by rw [List.map_append]; rfl, show ((i + wd.size : Nat) : Int) = (i : Int) + ((wd : ByteArray).size : Int) from by rw [Int.natCast_add]]; exact h
              | false =>
                rw [hr, if_neg (by simp)] at HLX2
                clear hr
                go_wp2_with fail
                refine (HErr.new_any 5 i _).mono ?_
                rintro e w5 ⟨rfl, rfl⟩
                go_wp2
                try rw [Exit.noGoto_ret]
                go_ret2
                rw [← HLX2.out]
                exact ⟨rfl, HB1.out⟩
          · rw [if_neg c3] at HLX2
            have hws : wd.size = 0 := by rw [HWD.out, ext_size s i _ (by have := runLn_le inW (rest s i); rw [rest_size] at this; have := HCI.out; omega)]; omega
            have he := nil_of_size hws
            clear hws c3
            go_wp2_with fail
            refine (arrow_any s i _).mono ?_
            rintro e w4 ⟨rfl, rfl⟩
            cases h5 : two s i 45 62 with
            | true =>
              rw [h5, if_pos rfl] at HLX2
              have H2S := Aside0.mk (two_at h5).1
              clear h5
              go_wp2_with fail
              refine (add_any W1 w.heap.size w.heap.size (w.heap.size + 1) v (xs.map tk36) i 2 (ARROW) HI1.out (by omega) (by omega) (by decide) (by rw [List.length_map]; have := HA.out; have := HS.out; have := HCI.out; omega)).mono ?_
              rintro e w5 ⟨rfl, ⟨v5, hI5⟩, hb5⟩
              have HI5 := Aside0.mk hI5
              have HB5 := Aside0.mk (HB1.out.trans hb5)
              clear hI5 hb5
              go_wp2
              go_roundg (s.size - (i + 2))
              case measure => have := HA.out; have := HCI.out; skip; omega
              case rel =>
                refine ⟨i + 2, v5, xs ++ [(2, ARROW, (i : Int))], ⟨by have := HA.out; have := HCI.out; have := H2S.out; omega, by rw [List.length_append, List.length_singleton]; have := HA.out; skip; omega, ?_⟩, ⟨?_⟩, ⟨HB5.out⟩⟩
                · rw [← HLX2.out]; exact lexG_any s _ _ _ _ (by have := HCI.out; skip; omega) (by have := HCI.out; skip; omega)
                · have h := HI5.out; rw [show (xs ++ [((2 : Int), ARROW, (i : Int))]).map tk36 = xs.map tk36 ++ [⟨2, ARROW, i⟩] from by rw [List.map_append]; rfl, show ((i + 2 : Nat) : Int) = (i : Int) + ((ARROW : ByteArray).size : Int) from by rw [Int.natCast_add]; rfl]; exact h
            | false =>
              rw [h5, if_neg (by simp)] at HLX2
              clear h5
              go_wp2_with fail
              refine (sign_any (bt s i) _ (bt_range s i).1 (bt_range s i).2).mono ?_
              rintro e w4 ⟨V2, rfl, hV2, rfl⟩
              cases h6 : signC (bt s i) with
              | true =>
                rw [h6] at hV2 HLX2
                have HLX3 := HLX2
                clear HLX2
                have HLX2 := Aside0.mk HLX3.out
                rw [if_pos rfl] at HLX2
                clear h6 HLX3
                have hrs : (1 : Int) ≤ ((rest s i).size : Int) := by rw [rest_size]; have := HCI.out; omega
                go_wp2_with fail
                refine (add_any W1 w.heap.size w.heap.size (w.heap.size + 1) v (xs.map tk36) i 2 ((rest s i).extract 0 1) HI1.out (by omega) (by omega) (by rw [ext_size s i 1 (by have := HCI.out; omega)]; decide) (by rw [List.length_map]; have := HA.out; have := HS.out; have := HCI.out; omega)).mono ?_
                rintro e w5 ⟨rfl, ⟨v5, hI5⟩, hb5⟩
                have HI5 := Aside0.mk hI5
                have HB5 := Aside0.mk (HB1.out.trans hb5)
                clear hI5 hb5
                go_wp2
                go_roundg (s.size - (i + 1))
                case measure => have := HA.out; have := HCI.out; skip; omega
                case rel =>
                  refine ⟨i + 1, v5, xs ++ [(2, (rest s i).extract 0 1, (i : Int))], ⟨by have := HA.out; have := HCI.out; skip; omega, by rw [List.length_append, List.length_singleton]; have := HA.out; skip; omega, ?_⟩, ⟨?_⟩, ⟨HB5.out⟩⟩
                  · rw [← HLX2.out]; exact lexG_any s _ _ _ _ (by have := HCI.out; skip; omega) (by have := HCI.out; skip; omega)
                  · have h := HI5.out; rw [show (xs ++ [((2 : Int), (rest s i).extract 0 1, (i : Int))]).map tk36 = xs.map tk36 ++ [⟨2, (rest s i).extract 0 1, i⟩] from by rw [List.map_append]; rfl, show ((i + 1 : Nat) : Int) = (i : Int) + (((rest s i).extract 0 1 : ByteArray).size : Int) from by rw [Int.natCast_add, ext_size s i 1 (by have := HCI.out; omega)]]; exact h
              | false =>
                rw [h6] at hV2 HLX2
                have HLX3 := HLX2
                clear HLX2
                have HLX2 := Aside0.mk HLX3.out
                rw [if_neg (by simp)] at HLX2
                clear h6 HLX3
                go_wp2_with fail
                refine (HErr.new_any 6 i _).mono ?_
                rintro e w5 ⟨rfl, rfl⟩
                go_wp2
                try rw [Exit.noGoto_ret]
                go_ret2
                rw [← HLX2.out]
                exact ⟨rfl, HB1.out⟩
    · have d1 : decide ((i : Int) < (s.size : Int)) = false := decide_eq_false (by omega)
      have d5 : decide (i < s.size) = false := decide_eq_false ci
      have d6 : s.size ≤ i := by omega
      have hlex := HA.out.2.2
      rw [show s.size + 1 - i = (s.size - i) + 1 from by have := HA.out; omega, lexG, if_pos (by omega)] at hlex
      have HLX := Aside0.mk hlex
      clear hlex
      go_wp2_with fail
      refine (add_any wr w.heap.size w.heap.size (w.heap.size + 1) v (xs.map tk36) i 3 ⟨#[]⟩ HI.out (by omega) (by have := HA.out; have := HS.out; omega) (by decide) (by rw [List.length_map]; have := HA.out; have := HS.out; omega)).mono ?_
      rintro e w5 ⟨rfl, ⟨v5, hI5⟩, hb5⟩
      have HI5 := Aside0.mk hI5
      have HB5 := Aside0.mk (HB.out.trans hb5)
      clear hI5 hb5 hc
      have hc := one_cell HI5.out.out
      go_wp2
      try rw [Exit.noGoto_ret]
      go_ret2
      rw [← HLX.out]
      refine ⟨⟨v5, rfl, ?_⟩, HB5.out⟩
      have h := HI5.out.row
      rw [show (xs ++ [((3 : Int), (⟨#[]⟩ : ByteArray), (i : Int))]).map tk36 = xs.map tk36 ++ [⟨3, ⟨#[]⟩, i⟩] from by rw [List.map_append]; rfl]
      exact h
end Go.Proofs.YthefibpcepgoaaaDoor.HLexT
/- told: an error has a code and an offset. -/
namespace Go.Proofs.YthefibpcepgoaaaDoor.HLexE
open Go.RowKit Go.Proofs.YthefibpcepgoaaaDoorW.PrintWords Go.Proofs.YthefibpcepgoaaaDoor.HLib Go.Proofs.YthefibpcepgoaaaDoor.HErr Go.Proofs.YthefibpcepgoaaaDoor.HLexT
set_option linter.unusedVariables false
set_option linter.unusedSimpArgs false
theorem errg_step {w w1 : World} (h : ErrG w) (hb : Below w.heap.size w w1) : ErrG w1 := h.below hb h.1
def errV (c n : Int) : Value := if c = 0 then .nilIface else fltV c n
theorem told_nil (n : Int) (w : World) : Calls Tryd.prog 11 #[.nilIface, .int .i64 0, .int .i64 n] w fun e w' => e = .returned (.bool true) ∧ Below w.heap.size w w' := by
  go_enter Tryd.func11, Tryd.ntmps11
  go_wp2
  go_ret
  exact ⟨rfl, B0 w⟩
theorem told_F (c n : Int) (hc : c ≠ 0) (w : World) (hG : ErrG w) : Calls Tryd.prog 11 #[fltV c n, .int .i64 c, .int .i64 n] w fun e w' => e = .returned (.bool true) ∧ Below w.heap.size w w' := by
  have HG := Aside0.mk hG
  clear hG
  have c1 : (c == 0) = false := by simpa using hc
  clear hc
  go_enter Tryd.func11, Tryd.ntmps11
  go_wp2_with fail
  refine (code_F c n _ HG.out).mono ?_
  rintro e w1 ⟨rfl, hb⟩
  have HG1 := Aside0.mk (errg_step HG.out hb)
  have HB := Aside0.mk hb
  clear hb
  go_wp2_with fail
  refine (at_F c n _ HG1.out).mono ?_
  rintro e w2 ⟨rfl, hb⟩
  have HB2 := Aside0.mk (below_step HB.out hb)
  clear hb
  go_wp2
  go_ret
  exact ⟨by simp, HB2.out⟩
theorem told_any (c n : Int) (w : World) (hG : ErrG w) : Calls Tryd.prog 11 #[errV c n, .int .i64 c, .int .i64 n] w fun e w' => e = .returned (.bool true) ∧ Below w.heap.size w w' := by
  by_cases h : c = 0
  · subst h; exact told_nil n w
  · rw [errV, if_neg h]; exact told_F c n h w hG
end Go.Proofs.YthefibpcepgoaaaDoor.HLexE
