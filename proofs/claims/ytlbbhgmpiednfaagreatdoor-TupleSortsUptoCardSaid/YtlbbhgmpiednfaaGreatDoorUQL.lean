/- The law TupleSorts. -/
import Derived.Test.YtlbbhgmpiednfaaGreatDoorUQR
import Derived.Test.YtlbbhgmpiednfaaGreatDoorUU
namespace Go.Proofs.YtlbbhgmpiednfaaGreatDoor.HTupL4
open Go.RowKit Go.Proofs.YtlbbhgmpiednfaaGreatDoorW.PrintWords Go.Proofs.YtlbbhgmpiednfaaGreatDoor.HLib Go.Proofs.YtlbbhgmpiednfaaGreatDoor.HGr Go.Proofs.YtlbbhgmpiednfaaGreatDoor.HErr Go.Proofs.YtlbbhgmpiednfaaGreatDoor.HNameP Go.Proofs.YtlbbhgmpiednfaaGreatDoor.HName Go.Proofs.YtlbbhgmpiednfaaGreatDoor.HTupP Go.Proofs.YtlbbhgmpiednfaaGreatDoor.HTupR Go.Proofs.YtlbbhgmpiednfaaGreatDoor.HTupG Go.Proofs.YtlbbhgmpiednfaaGreatDoor.HTupRf Go.Proofs.YtlbbhgmpiednfaaGreatDoor.HTupV Go.Proofs.YtlbbhgmpiednfaaGreatDoor.HTupE Go.Proofs.YtlbbhgmpiednfaaGreatDoor.HTupO Go.Proofs.YtlbbhgmpiednfaaGreatDoor.HTupC Go.Proofs.YtlbbhgmpiednfaaGreatDoor.HCmp Go.Proofs.YtlbbhgmpiednfaaGreatDoor.HTupD Go.Proofs.YtlbbhgmpiednfaaGreatDoor.HTupW Go.Proofs.YtlbbhgmpiednfaaGreatDoor.HTupSm Go.Proofs.YtlbbhgmpiednfaaGreatDoor.HTupPt Go.Proofs.YtlbbhgmpiednfaaGreatDoor.HTupSr Go.Proofs.YtlbbhgmpiednfaaGreatDoor.HTupU Go.Proofs.YtlbbhgmpiednfaaGreatDoor.PTupleSorts
set_option linter.unusedVariables false
set_option linter.unusedSimpArgs false
theorem cmp_calls (x y : S32) (w : World) : Calls Tryz.prog 13 #[tv x, tv y] w fun e w' => e = .returned (.int .i64 (cmpT x y)) ∧ Below w.heap.size w w' :=
  (HTupC.compare_gr x.f0.f0 x.f0.f1 x.f1 x.f2.f0 x.f2.f1 x.f3 y.f0.f0 y.f0.f1 y.f1 y.f2.f0 y.f2.f1 y.f3 w).mono fun e w' r => ⟨r.1.trans rfl, r.2.below⟩
theorem cmp_eq (x y : S32) : (cmpT x y == 0) = decide (x = y) := by
  by_cases h : x = y
  · subst h; rw [cmpT_self, decide_eq_true rfl]; rfl
  · rw [decide_eq_false h, beq_eq_false_iff_ne]; exact fun e => h (cmpT_zero e)
def szs (x : S32) : Nat := x.f0.f0.size + x.f0.f1.size + x.f1.size + x.f2.f0.size + x.f2.f1.size + x.f3.size
theorem sh_of {x : S32} (h : szs x ≤ 1048576) : Sh x := by
  unfold szs at h
  intro s hs
  simp only [tl, List.mem_cons, List.not_mem_nil, or_false] at hs
  rcases hs with rfl | rfl | rfl | rfl | rfl | rfl <;> omega

set_option maxRecDepth 20000 in
set_option maxHeartbeats 8000000 in
theorem sorts_many (A : Option Addr) (c : Nat) (xs : List S32) (hl : xs.length ≤ 1048576) (hs : ∀ x ∈ xs, szs x ≤ 1048576) (hc : xs.length ≤ c) (hf : fewS xs = false) (w : World) (hA : Kd.C k32 w A xs.length xs) (hG : GV w) :
    Calls Tryz.prog 3 #[.slice A xs.length c] w fun e w' => e = .returned (.bool true) ∧ Below w.heap.size w w' := by
  have HG := Aside0.mk hG
  have HA := Aside0.mk hA
  have HL := Aside0.mk (And.intro hl (And.intro hs hc))
  have HF := Aside0.mk hf
  clear hG hA hl hs hc hf
  go_enter Tryz.func3, Tryz.ntmps3
  go_wp2_with fail
  refine (awake_any w HG.out).mono ?_
  rintro e_ w1 ⟨rfl, hb⟩
  have HB1 := Aside0.mk hb
  clear hb
  go_wp2_with fail
  refine (few_any A c xs HL.out.1 HL.out.2.1 HL.out.2.2 w1 (Kd.C_below HA.out HB1.out)).mono ?_
  rintro e_ w2 ⟨rfl, hb⟩
  rw [HF.out]
  have HB2 := Aside0.mk (below_step HB1.out hb)
  clear hb
  go_wp2_with fail
  refine (awake_any w2 (HG.out.below HB2.out)).mono ?_
  rintro e_ w3 ⟨rfl, hb⟩
  have HB3 := Aside0.mk (below_step HB2.out hb)
  clear hb
  go_wp2
  go_ret
  exact ⟨rfl, HB3.out⟩
set_option maxRecDepth 20000 in
set_option maxHeartbeats 8000000 in
theorem sorts_few (A : Option Addr) (c : Nat) (xs : List S32) (hl : xs.length ≤ 1048576) (hs : ∀ x ∈ xs, szs x ≤ 1048576) (hc : xs.length ≤ c) (hf : fewS xs = true) (w : World) (hA : Kd.C k32 w A xs.length xs) (hG : GV w) :
    Calls Tryz.prog 3 #[.slice A xs.length c] w fun e w' => e = .returned (.bool true) ∧ Below w.heap.size w w' := by
  have HG := Aside0.mk hG
  have HA := Aside0.mk hA
  have HN := Aside0.mk (show xs.length ≤ 60 from by unfold fewS at hf; rw [Bool.and_eq_true] at hf; exact of_decide_eq_true hf.2)
  have HL := Aside0.mk (And.intro hl (And.intro hs hc))
  have HF := Aside0.mk hf
  have HSH := Aside0.mk (show ∀ x ∈ xs, Sh x from fun x hx => sh_of (hs x hx))
  clear hG hA hl hs hc hf
  go_enter Tryz.func3, Tryz.ntmps3
  go_wp2_with fail
  refine (awake_any w HG.out).mono ?_
  rintro e_ w1 ⟨rfl, hb⟩
  have HB1 := Aside0.mk hb
  clear hb
  go_wp2_with fail
  refine (few_any A c xs HL.out.1 HL.out.2.1 HL.out.2.2 w1 (Kd.C_below HA.out HB1.out)).mono ?_
  rintro e_ w2 ⟨rfl, hb⟩
  rw [HF.out]
  have HB2 := Aside0.mk (below_step HB1.out hb)
  have HA2 := Aside0.mk (Kd.C_below HA.out HB2.out)
  clear hb HF
  obtain ⟨n, hn⟩ : ∃ n, n = xs.length := ⟨_, rfl⟩
  have HNN := Aside0.mk hn
  rw [← hn]
  clear hn
  go_upto_region 4 with (first | ((with_reducible refine gate_dst (N := 16) rfl ?_); refine Kd.R_lit k32 _ 32 ?hg (N := 16) ?hd (xs := ([] : List S32)) (inner := []) (ok := fun _ => True) (okp := fun _ => True) ?hr ?hp (fun _ hk => hk) trivial (Below.refl _ _) (Nat.le_refl _) (by simp) ?_; (case hd => rfl); (case hg => rfl); (case hr => first | (go_simp; done) | (go_simp; rfl)); (case hp => exact (Reps.none _ _)); intro v1 x5 ho hb hg_ hnew_; clear hg_ hnew_; have HO1 := Aside0.mk ho; have HX5 := Aside0.mk hb; clear ho hb) | ((with_reducible refine gate_dst (N := 18) rfl ?_); at_builtin; refine Kd.R_append_rows k32 (w0 := w2) w2.heap.size rfl (.tmp 16) (.tmp 17) 22 32 (.agg #[.string ⟨#[]⟩, .string ⟨#[]⟩, .string ⟨#[]⟩, .string ⟨#[]⟩, .string ⟨#[]⟩, .string ⟨#[]⟩]) 96 rfl Tryz.underlying22 info32 rfl (by decide) (by omega) v1 [] xs A n c (fun _ => True) (fun _ => False) rfl rfl ?aO ?aR (fun _ _ h => h) (fun _ h => h.elim) ?aF ?aB ?aS ?aL ?_; (case aR => have h := Kd.C_below HA2.out HX5.out; rw [← HNN.out] at h; exact h); (case aB => exact HX5.out); (case aF => exact fun _ _ => trivial); (case aO => exact HO1.out); (case aS => exact HX5.out.size); (case aL => have := HN.out; have := HNN.out; simp; omega); intro v2 x6 ho hb hg hat; rw [List.nil_append] at ho; have HO2 := Aside0.mk ho; have HX6 := Aside0.mk (below_step HB2.out hb); clear ho hb hg hat HO1 HX5))
  obtain ⟨Ao, ko, hvo⟩ := Kd.R_slice HO2.out
  subst hvo
  rw [← HNN.out] at HO2 ⊢
  have HOC := Aside0.mk (Kd.R_reads' HO2.out).2.2
  clear HO2 HA2
  go_wp2_with fail
  rw [HNN.out]
  refine (sorted_any Ao ko xs (by have := HN.out; omega) x6 HOC.out).mono ?_
  rintro e_ x7 ⟨As, cs, rfl, hSt, hb⟩
  rw [srd_eq] at hSt ⊢
  have HSC := Aside0.mk hSt.cells
  have HX7 := Aside0.mk (below_step HX6.out hb)
  have HOC7 := Aside0.mk (Kd.C_below HOC.out hb)
  clear hSt hb HOC HX6
  go_wp2_with fail
  refine (rsorted_any A c xs (by have := HN.out; omega) HSH.out x7 (Kd.C_below HA.out HX7.out)).mono ?_
  rintro e_ x8 ⟨vr, rfl, hR, hb⟩
  obtain ⟨Ar, kr, hvr⟩ := Kd.R_slice hR
  subst hvr
  have HRC := Aside0.mk (Kd.R_reads' hR).2.2
  have HSC8 := Aside0.mk (Kd.C_below HSC.out hb)
  have HOC8 := Aside0.mk (Kd.C_below HOC7.out hb)
  have HX8 := Aside0.mk (below_step HX7.out hb)
  have HIL := Aside0.mk (show (isort xs).length ≤ 1000000 from by have := isort_len xs; have := HN.out; omega)
  clear hR hb HSC HOC7 HX7
  go_wp2_with fail
  refine (tsame_any As Ar cs kr (isort xs) (isort xs) HIL.out HIL.out x8 HSC8.out HRC.out).mono ?_
  rintro e_ x9 ⟨rfl, hb⟩
  rw [show decide (isort xs = isort xs) = true from decide_eq_true rfl]
  have HOC9 := Aside0.mk (Kd.C_below HOC8.out hb)
  have HX9 := Aside0.mk (below_step HX8.out hb)
  clear hb HOC8 HX8 HSC8 HRC
  go_wp2_with fail
  refine (tsame_any Ao A ko c xs xs (by have := HN.out; omega) (by have := HN.out; omega) x9 HOC9.out (Kd.C_below HA.out HX9.out)).mono ?_
  rintro e_ y0 ⟨rfl, hb⟩
  rw [show decide (xs = xs) = true from decide_eq_true rfl]
  have HY := Aside0.mk (below_step HX9.out hb)
  have HAY := Aside0.mk (Kd.C_below HA.out HY.out)
  clear hb HX9 HOC9
  rw [← HNN.out]
  go_wp2
  go_loopg [5, 6, 7] 6 (fun kq v5 v6 v7 w' => ∃ (i : Nat), v5 = .int .i64 i ∧ Aside0 (kq + i = 6) ∧ Aside0 (Below y0.heap.size y0 w'))
  case atStart => exact ⟨0, rfl, ⟨rfl⟩, ⟨B0 y0⟩⟩
  case round =>
    obtain ⟨i, rfl, HJ, HBX⟩ := hrel
    have HI6 := Aside0.mk (show i ≤ 6 from by have := HJ.out; omega)
    by_cases ci : i < n ∧ i < 6
    · obtain ⟨c1, c2⟩ := ci
      have f1 : decide (i < n) = true := decide_eq_true c1
      have f2 : decide ((i : Int) < (n : Int)) = true := decide_eq_true (by omega)
      have f3 : decide (i < 6) = true := decide_eq_true c2
      have f4 : decide ((i : Int) < 6) = true := decide_eq_true (by omega)
      have f5 : (i : Int) < (n : Int) := by omega
      have f6 : (i : Int) < 6 := by omega
      have f7 : IntKind.i64.wrap ((i : Int) + 1) = (i : Int) + 1 := by rw [IntKind.wrap_i64]; omega
      have HC1 := Aside0.mk c1
      have HC2 := Aside0.mk c2
      obtain ⟨n1, hn1⟩ : ∃ n1, n1 = n := ⟨_, rfl⟩
      go_wp2
      go_loopg [6, 7] 6 (fun kq v6 v7 w' => ∃ (k : Nat), v6 = .int .i64 k ∧ Aside0 (kq + k = 6) ∧ Aside0 (Below y0.heap.size y0 w'))
      case atStart => exact ⟨0, rfl, ⟨rfl⟩, HBX⟩
      case round =>
        obtain ⟨k, rfl, HJ2, HBX2⟩ := hrel
        clear HBX
        have HK6 := Aside0.mk (show k ≤ 6 from by have := HJ2.out; omega)
        by_cases ck : k < n ∧ k < 6
        · obtain ⟨d1, d2⟩ := ck
          have e1 : decide (k < n) = true := decide_eq_true d1
          have e2 : decide ((k : Int) < (n : Int)) = true := decide_eq_true (by omega)
          have e3 : decide (k < 6) = true := decide_eq_true d2
          have e4 : decide ((k : Int) < 6) = true := decide_eq_true (by omega)
          have e5 : (k : Int) < (n : Int) := by omega
          have e6 : (k : Int) < 6 := by omega
          have e7 : IntKind.i64.wrap ((k : Int) + 1) = (k : Int) + 1 := by rw [IntKind.wrap_i64]; omega
          have e8 : (0 : Int) ≤ (k : Int) := by omega
          have e9 : (0 : Int) ≤ (i : Int) := by omega
          have hix : i < xs.length := by have := HNN.out; omega
          have hkx : k < xs.length := by have := HNN.out; omega
          obtain ⟨ad, hAd, hx⟩ := el HAY.out i hix
          obtain ⟨ad', hAd', hy⟩ := el HAY.out k hkx
          obtain rfl : ad = ad' := Option.some.inj (hAd.symm.trans hAd')
          obtain ⟨x, hxe⟩ : ∃ x, x = xs[i] := ⟨_, rfl⟩
          obtain ⟨y, hye⟩ : ∃ y, y = xs[k] := ⟨_, rfl⟩
          rw [← hxe] at hx
          rw [← hye] at hy
          have hsx : Sh x := HSH.out x (by rw [hxe]; exact List.getElem_mem hix)
          have hsy : Sh y := HSH.out y (by rw [hye]; exact List.getElem_mem hkx)
          obtain ⟨vx, hvx⟩ : ∃ v, v = tv x := ⟨_, rfl⟩
          obtain ⟨vy, hvy⟩ : ∃ v, v = tv y := ⟨_, rfl⟩
          obtain ⟨cm, hcm⟩ : ∃ c, c = cmpT x y := ⟨_, rfl⟩
          obtain ⟨p, hp⟩ : ∃ p, p = decide (x = y) := ⟨_, rfl⟩
          have HLX := Aside0.mk (show ∀ w', Below y0.heap.size y0 w' → (Instr.loadAt 32 (.pointer (some (ad.add (i * 6))))).run Tryz.prog w' = .ok vx w' from fun w' h => by rw [hvx]; exact hx w' h)
          have HLY := Aside0.mk (show ∀ w', Below y0.heap.size y0 w' → (Instr.loadAt 32 (.pointer (some (ad.add (k * 6))))).run Tryz.prog w' = .ok vy w' from fun w' h => by rw [hvy]; exact hy w' h)
          have HC1' := Aside0.mk (show ∀ w', Calls Tryz.prog 13 #[vx, vy] w' fun e w'' => e = .returned (.int .i64 cm) ∧ Below w'.heap.size w' w'' from fun w' => by rw [hvx, hvy, hcm]; exact cmp_calls x y w')
          have HC2' := Aside0.mk (show ∀ w', Calls Tryz.prog 14 #[vx, vy] w' fun e w'' => e = .returned (.int .i64 cm) ∧ Below w'.heap.size w' w'' from fun w' => by rw [hvx, hvy, hcm]; exact refcmp_any x y hsx hsy w')
          have heq : ∀ w' : World, (binOp .eql 32 vx vy).run Tryz.prog w' = .ok (.bool p) w' := fun w' => by rw [hvx, hvy, hp]; exact eq_T _ _ _
          have hgd : ∀ (op : BinOp) (x y : Operand) (w' : World), (eqGuard op 32 x y vx vy).run Tryz.prog w' = .ok () w' := fun op x y w' => by rw [hvx, hvy]; exact run_eqGuard_agg w' op _ x y _ _ (by kernel_rfl)
          have hz : (cm == 0) = p := by rw [hcm, hp]; exact cmp_eq x y
          have hz2 : decide (cm = 0) = p := by rw [← hz]; rfl
          have hpp : (p != p) = false := by cases p <;> rfl
          have hpp2 : (p == p) = true := by cases p <;> rfl
          have hcc : (cm != cm) = false := by simp
          have hcc2 : (cm == cm) = true := by simp
          subst hAd
          clear hvx hvy hcm hp hxe hye hx hy hsx hsy hix hkx hAd'
          go_upto_region 13 with fail
          refine wp_region_held_drew (S := fun w' => Below y0.heap.size y0 w') (by kernel_rfl) (pw_below_drewN HBX2.out 1) (fun hHeld => ?_)
          refine wpAnyH_take (i := 0) (v := .slice (some ad) n c) rfl (by kernel_rfl) (by kernel_rfl) (by kernel_rfl) (fun _ _ _ h => h) (Or.inl ⟨by rfl, ?hy0⟩) hHeld ?_
          case hy0 => intro w' hSw; go_simp
          simp only [List.getElem_toArray, List.getElem_cons_succ, List.getElem_cons_zero, Act.put, List.setIfInBounds_toArray, List.set_cons_zero, List.set_cons_succ]
          refine wpAnyH_take (i := 1) (v := .int .i64 (i : Int)) rfl (by kernel_rfl) (by kernel_rfl) (by kernel_rfl) (fun _ _ _ h => h) (Or.inl ⟨by rfl, ?hy1⟩) hHeld ?_
          case hy1 => intro w' hSw; go_simp
          simp only [List.getElem_toArray, List.getElem_cons_succ, List.getElem_cons_zero, Act.put, List.setIfInBounds_toArray, List.set_cons_zero, List.set_cons_succ]
          refine wpAnyH_take (i := 2) (v := .pointer (some (ad.add (i * 6)))) rfl (by kernel_rfl) (by kernel_rfl) (by kernel_rfl) (fun _ _ _ h => h) (Or.inl ⟨by rfl, ?hy2⟩) hHeld ?_
          case hy2 => intro w' hSw; go_simp
          simp only [List.getElem_toArray, List.getElem_cons_succ, List.getElem_cons_zero, Act.put, List.setIfInBounds_toArray, List.set_cons_zero, List.set_cons_succ]
          refine wpAnyH_take (i := 3) (v := vx) rfl (by kernel_rfl) (by kernel_rfl) (by kernel_rfl) (fun _ _ _ h => h) (yieldsIf_load (by rfl) 32 (.tmp 54) rfl vx (fun w' h => HLX.out w' h)) hHeld ?_
          simp only [List.getElem_toArray, List.getElem_cons_succ, List.getElem_cons_zero, Act.put, List.setIfInBounds_toArray, List.set_cons_zero, List.set_cons_succ]
          refine wpAnyH_take (i := 4) (v := .slice (some ad) n c) rfl (by kernel_rfl) (by kernel_rfl) (by kernel_rfl) (fun _ _ _ h => h) (Or.inl ⟨by rfl, ?hy4⟩) hHeld ?_
          case hy4 => intro w' hSw; go_simp
          simp only [List.getElem_toArray, List.getElem_cons_succ, List.getElem_cons_zero, Act.put, List.setIfInBounds_toArray, List.set_cons_zero, List.set_cons_succ]
          refine wpAnyH_take (i := 5) (v := .int .i64 (k : Int)) rfl (by kernel_rfl) (by kernel_rfl) (by kernel_rfl) (fun _ _ _ h => h) (Or.inl ⟨by rfl, ?hy5⟩) hHeld ?_
          case hy5 => intro w' hSw; go_simp
          simp only [List.getElem_toArray, List.getElem_cons_succ, List.getElem_cons_zero, Act.put, List.setIfInBounds_toArray, List.set_cons_zero, List.set_cons_succ]
          refine wpAnyH_take (i := 6) (v := .pointer (some (ad.add (k * 6)))) rfl (by kernel_rfl) (by kernel_rfl) (by kernel_rfl) (fun _ _ _ h => h) (Or.inl ⟨by rfl, ?hy6⟩) hHeld ?_
          case hy6 => intro w' hSw; go_simp
          simp only [List.getElem_toArray, List.getElem_cons_succ, List.getElem_cons_zero, Act.put, List.setIfInBounds_toArray, List.set_cons_zero, List.set_cons_succ]
          refine wpAnyH_take (i := 7) (v := vy) rfl (by kernel_rfl) (by kernel_rfl) (by kernel_rfl) (fun _ _ _ h => h) (yieldsIf_load (by rfl) 32 (.tmp 58) rfl vy (fun w' h => HLY.out w' h)) hHeld ?_
          simp only [List.getElem_toArray, List.getElem_cons_succ, List.getElem_cons_zero, Act.put, List.setIfInBounds_toArray, List.set_cons_zero, List.set_cons_succ]
          refine wpAnyH_ready (rs := [8]) (by kernel_rfl) (by simp) ?_
          refine AllReadyH.cons rfl (fun K hK => ?_) AllReadyH.nil
          simp only [List.getElem_toArray, List.getElem_cons_succ, List.getElem_cons_zero]
          rw [if_pos (by rfl)]
          go_simp
          refine (HC1'.out _).mono ?_
          rintro e_ y1 ⟨rfl, hb⟩
          refine hK.out _ _ (below_step hHeld hb) (fun hHeld => ?_)
          clear hK K
          refine wpAnyH_take (i := 9) (v := .int .i64 cm) rfl (by kernel_rfl) (by kernel_rfl) (by kernel_rfl) (fun _ _ _ h => h) (Or.inl ⟨by rfl, ?hy9⟩) hHeld ?_
          case hy9 => intro w' hSw; go_simp
          simp only [List.getElem_toArray, List.getElem_cons_succ, List.getElem_cons_zero, Act.put, List.setIfInBounds_toArray, List.set_cons_zero, List.set_cons_succ]
          refine wpAnyH_done (by kernel_rfl) ?_ _
          have HB3 := Aside0.mk hHeld
          clear hHeld hb HC1'
          go_upto_region 14 with fail
          refine wp_region_held_drew (S := fun w' => Below y0.heap.size y0 w') (by kernel_rfl) (pw_below_drewN HB3.out 1) (fun hHeld => ?_)
          refine wpAnyH_take (i := 0) (v := .int .i64 cm) rfl (by kernel_rfl) (by kernel_rfl) (by kernel_rfl) (fun _ _ _ h => h) (Or.inl ⟨by rfl, ?hy0⟩) hHeld ?_
          case hy0 => intro w' hSw; go_simp
          simp only [List.getElem_toArray, List.getElem_cons_succ, List.getElem_cons_zero, Act.put, List.setIfInBounds_toArray, List.set_cons_zero, List.set_cons_succ]
          refine wpAnyH_take (i := 1) (v := .slice (some ad) n c) rfl (by kernel_rfl) (by kernel_rfl) (by kernel_rfl) (fun _ _ _ h => h) (Or.inl ⟨by rfl, ?hy1⟩) hHeld ?_
          case hy1 => intro w' hSw; go_simp
          simp only [List.getElem_toArray, List.getElem_cons_succ, List.getElem_cons_zero, Act.put, List.setIfInBounds_toArray, List.set_cons_zero, List.set_cons_succ]
          refine wpAnyH_take (i := 2) (v := .int .i64 (i : Int)) rfl (by kernel_rfl) (by kernel_rfl) (by kernel_rfl) (fun _ _ _ h => h) (Or.inl ⟨by rfl, ?hy2⟩) hHeld ?_
          case hy2 => intro w' hSw; go_simp
          simp only [List.getElem_toArray, List.getElem_cons_succ, List.getElem_cons_zero, Act.put, List.setIfInBounds_toArray, List.set_cons_zero, List.set_cons_succ]
          refine wpAnyH_take (i := 3) (v := .pointer (some (ad.add (i * 6)))) rfl (by kernel_rfl) (by kernel_rfl) (by kernel_rfl) (fun _ _ _ h => h) (Or.inl ⟨by rfl, ?hy3⟩) hHeld ?_
          case hy3 => intro w' hSw; go_simp
          simp only [List.getElem_toArray, List.getElem_cons_succ, List.getElem_cons_zero, Act.put, List.setIfInBounds_toArray, List.set_cons_zero, List.set_cons_succ]
          refine wpAnyH_take (i := 4) (v := vx) rfl (by kernel_rfl) (by kernel_rfl) (by kernel_rfl) (fun _ _ _ h => h) (yieldsIf_load (by rfl) 32 (.tmp 64) rfl vx (fun w' h => HLX.out w' h)) hHeld ?_
          simp only [List.getElem_toArray, List.getElem_cons_succ, List.getElem_cons_zero, Act.put, List.setIfInBounds_toArray, List.set_cons_zero, List.set_cons_succ]
          refine wpAnyH_take (i := 5) (v := .slice (some ad) n c) rfl (by kernel_rfl) (by kernel_rfl) (by kernel_rfl) (fun _ _ _ h => h) (Or.inl ⟨by rfl, ?hy5⟩) hHeld ?_
          case hy5 => intro w' hSw; go_simp
          simp only [List.getElem_toArray, List.getElem_cons_succ, List.getElem_cons_zero, Act.put, List.setIfInBounds_toArray, List.set_cons_zero, List.set_cons_succ]
          refine wpAnyH_take (i := 6) (v := .int .i64 (k : Int)) rfl (by kernel_rfl) (by kernel_rfl) (by kernel_rfl) (fun _ _ _ h => h) (Or.inl ⟨by rfl, ?hy6⟩) hHeld ?_
          case hy6 => intro w' hSw; go_simp
          simp only [List.getElem_toArray, List.getElem_cons_succ, List.getElem_cons_zero, Act.put, List.setIfInBounds_toArray, List.set_cons_zero, List.set_cons_succ]
          refine wpAnyH_take (i := 7) (v := .pointer (some (ad.add (k * 6)))) rfl (by kernel_rfl) (by kernel_rfl) (by kernel_rfl) (fun _ _ _ h => h) (Or.inl ⟨by rfl, ?hy7⟩) hHeld ?_
          case hy7 => intro w' hSw; go_simp
          simp only [List.getElem_toArray, List.getElem_cons_succ, List.getElem_cons_zero, Act.put, List.setIfInBounds_toArray, List.set_cons_zero, List.set_cons_succ]
          refine wpAnyH_take (i := 8) (v := vy) rfl (by kernel_rfl) (by kernel_rfl) (by kernel_rfl) (fun _ _ _ h => h) (yieldsIf_load (by rfl) 32 (.tmp 68) rfl vy (fun w' h => HLY.out w' h)) hHeld ?_
          simp only [List.getElem_toArray, List.getElem_cons_succ, List.getElem_cons_zero, Act.put, List.setIfInBounds_toArray, List.set_cons_zero, List.set_cons_succ]
          refine wpAnyH_ready (rs := [9]) (by kernel_rfl) (by simp) ?_
          refine AllReadyH.cons rfl (fun K hK => ?_) AllReadyH.nil
          simp only [List.getElem_toArray, List.getElem_cons_succ, List.getElem_cons_zero]
          rw [if_pos (by rfl)]
          go_simp
          refine (HC2'.out _).mono ?_
          rintro e_ y2 ⟨rfl, hb⟩
          refine hK.out _ _ (below_step hHeld hb) (fun hHeld => ?_)
          clear hK K
          refine wpAnyH_take (i := 10) (v := .bool false) rfl (by kernel_rfl) (by kernel_rfl) (by kernel_rfl) (fun _ _ _ h => h) (Or.inl ⟨by rfl, ?hy10⟩) hHeld ?_
          case hy10 => intro w' hSw; go_simp
          simp only [List.getElem_toArray, List.getElem_cons_succ, List.getElem_cons_zero, Act.put, List.setIfInBounds_toArray, List.set_cons_zero, List.set_cons_succ]
          refine wpAnyH_take (i := 11) (v := .bool false) rfl (by kernel_rfl) (by kernel_rfl) (by kernel_rfl) (fun _ _ _ h => h) (Or.inl ⟨by rfl, ?hy11⟩) hHeld ?_
          case hy11 => intro w' hSw; go_simp
          simp only [List.getElem_toArray, List.getElem_cons_succ, List.getElem_cons_zero, Act.put, List.setIfInBounds_toArray, List.set_cons_zero, List.set_cons_succ]
          refine wpAnyH_take (i := 12) (v := .int .i64 cm) rfl (by kernel_rfl) (by kernel_rfl) (by kernel_rfl) (fun _ _ _ h => h) (Or.inl ⟨by rfl, ?hy12⟩) hHeld ?_
          case hy12 => intro w' hSw; go_simp
          simp only [List.getElem_toArray, List.getElem_cons_succ, List.getElem_cons_zero, Act.put, List.setIfInBounds_toArray, List.set_cons_zero, List.set_cons_succ]
          refine wpAnyH_take (i := 13) (v := .bool p) rfl (by kernel_rfl) (by kernel_rfl) (by kernel_rfl) (fun _ _ _ h => h) (Or.inl ⟨by rfl, ?hy13⟩) hHeld ?_
          case hy13 => intro w' hSw; go_simp
          simp only [List.getElem_toArray, List.getElem_cons_succ, List.getElem_cons_zero, Act.put, List.setIfInBounds_toArray, List.set_cons_zero, List.set_cons_succ]
          refine wpAnyH_take (i := 14) (v := .slice (some ad) n c) rfl (by kernel_rfl) (by kernel_rfl) (by kernel_rfl) (fun _ _ _ h => h) (Or.inl ⟨by rfl, ?hy14⟩) hHeld ?_
          case hy14 => intro w' hSw; go_simp
          simp only [List.getElem_toArray, List.getElem_cons_succ, List.getElem_cons_zero, Act.put, List.setIfInBounds_toArray, List.set_cons_zero, List.set_cons_succ]
          refine wpAnyH_take (i := 15) (v := .int .i64 (i : Int)) rfl (by kernel_rfl) (by kernel_rfl) (by kernel_rfl) (fun _ _ _ h => h) (Or.inl ⟨by rfl, ?hy15⟩) hHeld ?_
          case hy15 => intro w' hSw; go_simp
          simp only [List.getElem_toArray, List.getElem_cons_succ, List.getElem_cons_zero, Act.put, List.setIfInBounds_toArray, List.set_cons_zero, List.set_cons_succ]
          refine wpAnyH_take (i := 16) (v := .pointer (some (ad.add (i * 6)))) rfl (by kernel_rfl) (by kernel_rfl) (by kernel_rfl) (fun _ _ _ h => h) (Or.inl ⟨by rfl, ?hy16⟩) hHeld ?_
          case hy16 => intro w' hSw; go_simp
          simp only [List.getElem_toArray, List.getElem_cons_succ, List.getElem_cons_zero, Act.put, List.setIfInBounds_toArray, List.set_cons_zero, List.set_cons_succ]
          refine wpAnyH_take (i := 17) (v := vx) rfl (by kernel_rfl) (by kernel_rfl) (by kernel_rfl) (fun _ _ _ h => h) (yieldsIf_load (by rfl) 32 (.tmp 77) rfl vx (fun w' h => HLX.out w' h)) hHeld ?_
          simp only [List.getElem_toArray, List.getElem_cons_succ, List.getElem_cons_zero, Act.put, List.setIfInBounds_toArray, List.set_cons_zero, List.set_cons_succ]
          refine wpAnyH_take (i := 18) (v := .slice (some ad) n c) rfl (by kernel_rfl) (by kernel_rfl) (by kernel_rfl) (fun _ _ _ h => h) (Or.inl ⟨by rfl, ?hy18⟩) hHeld ?_
          case hy18 => intro w' hSw; go_simp
          simp only [List.getElem_toArray, List.getElem_cons_succ, List.getElem_cons_zero, Act.put, List.setIfInBounds_toArray, List.set_cons_zero, List.set_cons_succ]
          refine wpAnyH_take (i := 19) (v := .int .i64 (k : Int)) rfl (by kernel_rfl) (by kernel_rfl) (by kernel_rfl) (fun _ _ _ h => h) (Or.inl ⟨by rfl, ?hy19⟩) hHeld ?_
          case hy19 => intro w' hSw; go_simp
          simp only [List.getElem_toArray, List.getElem_cons_succ, List.getElem_cons_zero, Act.put, List.setIfInBounds_toArray, List.set_cons_zero, List.set_cons_succ]
          refine wpAnyH_take (i := 20) (v := .pointer (some (ad.add (k * 6)))) rfl (by kernel_rfl) (by kernel_rfl) (by kernel_rfl) (fun _ _ _ h => h) (Or.inl ⟨by rfl, ?hy20⟩) hHeld ?_
          case hy20 => intro w' hSw; go_simp
          simp only [List.getElem_toArray, List.getElem_cons_succ, List.getElem_cons_zero, Act.put, List.setIfInBounds_toArray, List.set_cons_zero, List.set_cons_succ]
          refine wpAnyH_take (i := 21) (v := vy) rfl (by kernel_rfl) (by kernel_rfl) (by kernel_rfl) (fun _ _ _ h => h) (yieldsIf_load (by rfl) 32 (.tmp 81) rfl vy (fun w' h => HLY.out w' h)) hHeld ?_
          simp only [List.getElem_toArray, List.getElem_cons_succ, List.getElem_cons_zero, Act.put, List.setIfInBounds_toArray, List.set_cons_zero, List.set_cons_succ]
          refine wpAnyH_take (i := 22) (v := .bool p) rfl (by kernel_rfl) (by kernel_rfl) (by kernel_rfl) (fun _ _ _ h => h) (Or.inl ⟨by rfl, ?hy22⟩) hHeld ?_
          case hy22 => intro w' hSw; go_simp
          simp only [List.getElem_toArray, List.getElem_cons_succ, List.getElem_cons_zero, Act.put, List.setIfInBounds_toArray, List.set_cons_zero, List.set_cons_succ]
          refine wpAnyH_take (i := 23) (v := .bool false) rfl (by kernel_rfl) (by kernel_rfl) (by kernel_rfl) (fun _ _ _ h => h) (Or.inl ⟨by rfl, ?hy23⟩) hHeld ?_
          case hy23 => intro w' hSw; go_simp
          simp only [List.getElem_toArray, List.getElem_cons_succ, List.getElem_cons_zero, Act.put, List.setIfInBounds_toArray, List.set_cons_zero, List.set_cons_succ]
          refine wpAnyH_take (i := 24) (v := .bool false) rfl (by kernel_rfl) (by kernel_rfl) (by kernel_rfl) (fun _ _ _ h => h) (Or.inl ⟨by rfl, ?hy24⟩) hHeld ?_
          case hy24 => intro w' hSw; go_simp
          simp only [List.getElem_toArray, List.getElem_cons_succ, List.getElem_cons_zero, Act.put, List.setIfInBounds_toArray, List.set_cons_zero, List.set_cons_succ]
          refine wpAnyH_done (by kernel_rfl) ?_ _
          have HB4 := Aside0.mk hHeld
          clear hHeld hb HC2' HLX HLY heq hgd hz hz2 hpp hpp2 hcc hcc2
          go_wp2
          go_roundg (6 - (k + 1))
          case measure => have := HJ2.out; omega
          case rel => exact ⟨k + 1, rfl, ⟨by have := HJ2.out; omega⟩, HB4⟩
        · rcases Nat.lt_or_ge k n with d1 | d1
          · skip
            have d2 : ¬ k < 6 := fun h => ck ⟨d1, h⟩
            have e1 : decide (k < n) = true := decide_eq_true d1
            have e2 : decide ((k : Int) < (n : Int)) = true := decide_eq_true (by omega)
            have e3 : decide (k < 6) = false := decide_eq_false d2
            have e4 : decide ((k : Int) < 6) = false := decide_eq_false (by omega)
            have e5 : (k : Int) < (n : Int) := by omega
            have e6 : ¬ (k : Int) < 6 := by omega
            clear ck d1 d2
            go_wp2
            go_roundg (6 - (i + 1))
            case measure => have := HJ.out; have := HC2.out; omega
            case rel => exact ⟨i + 1, rfl, ⟨by have := HJ.out; have := HC2.out; omega⟩, HBX2⟩
          · skip
            have e1 : decide (k < n) = false := decide_eq_false (by omega)
            have e2 : decide ((k : Int) < (n : Int)) = false := decide_eq_false (by omega)
            have e5 : ¬ (k : Int) < (n : Int) := by omega
            clear ck d1
            go_wp2
            go_roundg (6 - (i + 1))
            case measure => have := HJ.out; have := HC2.out; omega
            case rel => exact ⟨i + 1, rfl, ⟨by have := HJ.out; have := HC2.out; omega⟩, HBX2⟩
    · rcases Nat.lt_or_ge i n with d1 | d1
      · skip
        have d2 : ¬ i < 6 := fun h => ci ⟨d1, h⟩
        have e1 : decide (i < n) = true := decide_eq_true d1
        have e2 : decide ((i : Int) < (n : Int)) = true := decide_eq_true (by omega)
        have e3 : decide (i < 6) = false := decide_eq_false d2
        have e4 : decide ((i : Int) < 6) = false := decide_eq_false (by omega)
        have e5 : (i : Int) < (n : Int) := by omega
        have e6 : ¬ (i : Int) < 6 := by omega
        clear ci d1 d2
        go_wp2
        go_ret
        exact ⟨rfl, below_step HY.out HBX.out⟩
      · skip
        have e1 : decide (i < n) = false := decide_eq_false (by omega)
        have e2 : decide ((i : Int) < (n : Int)) = false := decide_eq_false (by omega)
        have e5 : ¬ (i : Int) < (n : Int) := by omega
        clear ci d1
        go_wp2
        go_ret
        exact ⟨rfl, below_step HY.out HBX.out⟩
theorem sorts_any (A : Option Addr) (c : Nat) (xs : List S32) (hl : xs.length ≤ 1048576) (hs : ∀ x ∈ xs, szs x ≤ 1048576) (hc : xs.length ≤ c) (w : World) (hA : Kd.C k32 w A xs.length xs) (hG : GV w) :
    Calls Tryz.prog 3 #[.slice A xs.length c] w fun e w' => e = .returned (.bool true) ∧ Below w.heap.size w w' := by
  cases hf : fewS xs with
  | false => exact sorts_many A c xs hl hs hc hf w hA hG
  | true => exact sorts_few A c xs hl hs hc hf w hA hG
end Go.Proofs.YtlbbhgmpiednfaaGreatDoor.HTupL4
