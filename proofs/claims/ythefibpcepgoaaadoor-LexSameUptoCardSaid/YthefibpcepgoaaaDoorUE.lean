/- The law LexSame. -/
import Derived.Test.YthefibpcepgoaaaDoorUB
import Derived.Deep.Cut
import Derived.OwnWalk
import Derived.Test.YthefibpcepgoaaaDoorRows
import Derived.Test.YthefibpcepgoaaaDoorHLib
import Derived.ChangeArms
import Derived.Deep.Slices
namespace Go.Proofs.YthefibpcepgoaaaDoor.HLexL3
open Go.RowKit Go.Proofs.YthefibpcepgoaaaDoorW.PrintWords Go.Proofs.YthefibpcepgoaaaDoor.HLib Go.Proofs.YthefibpcepgoaaaDoor.HErr Go.Proofs.YthefibpcepgoaaaDoor.HLexP Go.Proofs.YthefibpcepgoaaaDoor.HLexJ Go.Proofs.YthefibpcepgoaaaDoor.HLexS Go.Proofs.YthefibpcepgoaaaDoor.HLexT Go.Proofs.YthefibpcepgoaaaDoor.HLexM Go.Proofs.YthefibpcepgoaaaDoor.HLexK Go.Proofs.YthefibpcepgoaaaDoor.HLexQ Go.Proofs.YthefibpcepgoaaaDoor.HLexV Go.Proofs.YthefibpcepgoaaaDoor.HLexB Go.Proofs.YthefibpcepgoaaaDoor.HLexC Go.Proofs.YthefibpcepgoaaaDoor.HLexE Go.Proofs.YthefibpcepgoaaaDoor.HLexW Go.Proofs.YthefibpcepgoaaaDoor.HName Go.Proofs.YthefibpcepgoaaaDoor.PLexJoins
set_option linter.unusedVariables false
set_option linter.unusedSimpArgs false

def to36 (x : S37) : S36 := ⟨x.f0, x.f1, x.f2⟩
def sz (l : List S37) : Nat := (l.map fun t => t.f1.size).sum
theorem kk_36 (l : List S37) : (l.map to36).map kk = l.map kr := by rw [List.map_map]; rfl
theorem take36 (xs : List S37) (j : Nat) (h : j < xs.length) : (xs.take (j + 1)).map to36 = (xs.take j).map to36 ++ [to36 (rd_T37 xs j)] := by
  have hr : rd_T37 xs j = xs[j] := rd_at xs j h
  rw [List.take_succ_eq_append_getElem h, List.map_append, hr]
  rfl
theorem sz_take (xs : List S37) (j : Nat) (h : j < xs.length) : sz (xs.take (j + 1)) = sz (xs.take j) + (rd_T37 xs j).f1.size := by
  have hr : rd_T37 xs j = xs[j] := rd_at xs j h
  unfold sz
  rw [List.take_succ_eq_append_getElem h, List.map_append, List.sum_append, hr]
  simp
theorem sz_le (xs : List S37) (j : Nat) : sz (xs.take j) ≤ sz xs := by
  have e : sz xs = sz (xs.take j) + sz (xs.drop j) := by
    unfold sz
    rw [← List.sum_append, ← List.map_append, List.take_append_drop]
  omega
theorem tot_sz (xs : List S37) : tot (xs.map kr) = sz xs + xs.length := by
  induction xs with
  | nil => rfl
  | cons x xs ih =>
    have h1 : tot ((x :: xs).map kr) = x.f1.size + 1 + tot (xs.map kr) := by simp [tot, kr]
    have h2 : sz (x :: xs) = x.f1.size + sz xs := by simp [sz]
    rw [h1, h2, ih, List.length_cons]; omega
set_option maxRecDepth 100000 in
set_option maxHeartbeats 4000000 in
theorem near (w : World) (A : Option Addr) (ca : Nat) (a : List S37) (hA : Sr w A ca a) (B : Option Addr) (cb : Nat) (b : List S37) (hB : Sr w B cb b) (h1 : a.length ≤ 50) (h2 : b.length ≤ 50) (ha : sz a ≤ 1048576) (hb : sz b ≤ 1048576) (hG : GV w) :
    Calls Tryd.prog 5 #[.slice A a.length ca, .slice B b.length cb] w fun e w' => e = .returned (.bool true) ∧ Below w.heap.size w w' := by
  have HG := Aside0.mk hG
  clear hG
  have d1 : decide (50 < a.length) = false := decide_eq_false (by omega)
  have d2 : decide ((50 : Int) < (a.length : Int)) = false := decide_eq_false (by omega)
  have d3 : decide (50 < b.length) = false := decide_eq_false (by omega)
  have d4 : decide ((50 : Int) < (b.length : Int)) = false := decide_eq_false (by omega)
  have H1 := Aside0.mk h1
  have H2 := Aside0.mk h2
  have HA := Aside0.mk hA
  have HB := Aside0.mk hB
  have HSA := Aside0.mk ha
  have HSB := Aside0.mk hb
  clear h1 h2 hA hB ha hb
  go_enter Tryd.func5, Tryd.ntmps5
  go_wp2_with fail
  refine (awake_any w HG.out).mono ?_
  rintro e w1 ⟨rfl, hb1⟩
  have HB1 := Aside0.mk hb1
  clear hb1
  have HA1 := Aside0.mk (HA.out.below HB1.out)
  go_wp2
  go_loopg [5, 7, 8] a.length (fun kq v5 v7 v8 w' => ∃ (j nn : Nat), v8 = .int .i64 j ∧ v7 = .int .i64 nn ∧ Aside0 (kq + j = a.length) ∧ Aside0 (nn = 0 + sz (a.take j)) ∧ Aside0 (Kd.R k36 36 w' w1.heap.size (fun _ => True) v5 ((a.take j).map to36)) ∧ Aside0 (Below w1.heap.size w1 w'))
  case atStart => exact ⟨0, 0, rfl, rfl, ⟨by omega⟩, ⟨by simp [sz]⟩, ⟨Kd.R_nil _ _ _ _ _⟩, ⟨B0 w1⟩⟩
  case round =>
    obtain ⟨j, nn, rfl, rfl, HJ, HN, HR, HW⟩ := hrel
    by_cases cj : j < a.length
    · have f1 : decide (j < a.length) = true := decide_eq_true cj
      have f2 : decide ((j : Int) < (a.length : Int)) = true := decide_eq_true (by omega)
      have f3 : (j : Int) < (a.length : Int) := by omega
      have f6 : (j : Int) ≤ 1000000 := by have := H1.out; omega
      have HSR := Aside0.mk (show ∀ w', Below w1.heap.size w1 w' → Sr w' A ca a from fun w' h => HA1.out.below h)
      obtain ⟨ad, hAd, a1, a2, a3⟩ := at_T37 (HSR.out _ HW.out).cells j (by omega) (by omega)
      subst hAd
      have HTT := Aside0.mk (take36 a j cj)
      have hsn := sz_take a j cj
      have hsl := sz_le a (j + 1)
      have HCL := Aside0.mk (show ∀ w', Below w1.heap.size w1 w' → w'.cell? ⟨(ad.add (j * 3)).block, (ad.add (j * 3)).off + 1, none⟩ = some (.string (rd_T37 a j).f1) from fun w' h => by
        obtain ⟨a2, e2, _, q, _⟩ := at_T37 (HSR.out w' h).cells j (by omega) (by omega)
        injection e2 with e2
        subst e2
        exact q)
      obtain ⟨x, hx⟩ : ∃ x, x = rd_T37 a j := ⟨_, rfl⟩
      rw [← hx] at HTT hsn HCL
      rw [← hx, Int.toNat_natCast] at a1 a2 a3
      clear hx
      have hnb : (nn : Int) + (x.f1.size : Int) ≤ 3000000 := by have := HSA.out; have := HN.out; omega
      have HN2 := Aside0.mk (show nn + x.f1.size = 0 + sz (a.take (j + 1)) from by have := HN.out; omega)
      have HTL := Aside0.mk (show ((a.take j).map to36).length ≤ 1000000 from by rw [List.length_map, List.length_take]; have := H1.out; omega)
      obtain ⟨ws, hws⟩ : ∃ ws, ws = (a.take j).map to36 := ⟨_, rfl⟩
      rw [← hws] at HTT HTL HR
      clear hws hsn hsl
      go_wp2_with (at_builtin; refine Kd.R_append k36 (w0 := w1) w1.heap.size rfl (.tmp 29) (.tmp 34) 23 36 (.agg #[.int .i64 0, .string ⟨#[]⟩, .int .i64 0]) 32 rfl Tryd.underlying23 HLexA.info36 rfl (by decide) (by omega) u5 ws (to36 x) [.int .i64 x.f0, .string x.f1, .int .i64 x.f2] (fun _ => True) (fun _ => False) rfl rfl (k36_mkM _ _ _ (to36 x)) (fun _ hk => hk.elim) (fun _ _ => trivial) HR.out HW.out HW.out.size ?aL ?_; (case aL => (have := HTL.out; omega)); intro v1 w1 ho hb hg hat; have HO1 := Aside0.mk ho; have HB2 := Aside0.mk hb; have hcell := HCL.out _ hb; clear a1 a2 a3; clear ho hb hg hat)
      go_roundg (a.length - (j + 1))
      case measure => have := HJ.out; omega
      case rel => exact ⟨j + 1, nn + x.f1.size, rfl, rfl, ⟨by have := HJ.out; omega⟩, HN2, ⟨by rw [HTT.out]; exact HO1.out⟩, ⟨HB2.out⟩⟩
    · have f1 : decide (j < a.length) = false := decide_eq_false cj
      have f2 : decide ((j : Int) < (a.length : Int)) = false := decide_eq_false (by omega)
      have hall : a.take j = a := List.take_of_length_le (by have := HJ.out; omega)
      rw [hall] at HR HN
      clear hall HJ cj
      rename World => wL
      obtain ⟨Ax, cx, rfl⟩ := Kd.R_slice HR.out
      have HX := Aside0.mk (show Sl wL 0 Ax cx (a.map to36) from ⟨(Kd.R_reads' HR.out).2.1, (Kd.R_reads' HR.out).2.2⟩)
      obtain ⟨X, hX⟩ : ∃ X, X = a.map to36 := ⟨_, rfl⟩
      rw [← hX] at HX
      have HBL := Aside0.mk (below_step HB1.out HW.out)
      have HAL := Aside0.mk ((HA.out.below HB1.out).below HW.out)
      have HBL2 := Aside0.mk ((HB.out.below HB1.out).below HW.out)
      have HXK := Aside0.mk (show X.map kk = a.map kr from by rw [hX, kk_36])
      have HXL := Aside0.mk (show X.length = a.length from by rw [hX, List.length_map])
      obtain rfl : nn = sz a := by have := HN.out; omega
      clear HN HR HW HA1
      rw [← hX]
      clear hX
      go_wp2
      clear f1 f2
      go_loopg [6, 7, 9] b.length (fun kq v6 v7 v9 w' => ∃ (j nn : Nat), v9 = .int .i64 j ∧ v7 = .int .i64 nn ∧ Aside0 (kq + j = b.length) ∧ Aside0 (nn = sz a + sz (b.take j)) ∧ Aside0 (Kd.R k36 36 w' wL.heap.size (fun _ => True) v6 ((b.take j).map to36)) ∧ Aside0 (Below wL.heap.size wL w'))
      case atStart => exact ⟨0, sz a, rfl, rfl, ⟨by omega⟩, ⟨by simp [sz]⟩, ⟨Kd.R_nil _ _ _ _ _⟩, ⟨B0 wL⟩⟩
      case round =>
        obtain ⟨j, nn, rfl, rfl, HJ, HN, HR, HW⟩ := hrel
        by_cases cj : j < b.length
        · have f1 : decide (j < b.length) = true := decide_eq_true cj
          have f2 : decide ((j : Int) < (b.length : Int)) = true := decide_eq_true (by omega)
          have f3 : (j : Int) < (b.length : Int) := by omega
          have f6 : (j : Int) ≤ 1000000 := by have := H2.out; omega
          have HSR := Aside0.mk (show ∀ w', Below wL.heap.size wL w' → Sr w' B cb b from fun w' h => HBL2.out.below h)
          obtain ⟨ad, hAd, a1, a2, a3⟩ := at_T37 (HSR.out _ HW.out).cells j (by omega) (by omega)
          subst hAd
          have HTT := Aside0.mk (take36 b j cj)
          have hsn := sz_take b j cj
          have hsl := sz_le b (j + 1)
          have HCL := Aside0.mk (show ∀ w', Below wL.heap.size wL w' → w'.cell? ⟨(ad.add (j * 3)).block, (ad.add (j * 3)).off + 1, none⟩ = some (.string (rd_T37 b j).f1) from fun w' h => by
            obtain ⟨a2, e2, _, q, _⟩ := at_T37 (HSR.out w' h).cells j (by omega) (by omega)
            injection e2 with e2
            subst e2
            exact q)
          obtain ⟨x, hx⟩ : ∃ x, x = rd_T37 b j := ⟨_, rfl⟩
          rw [← hx] at HTT hsn HCL
          rw [← hx, Int.toNat_natCast] at a1 a2 a3
          clear hx
          have hnb : (nn : Int) + (x.f1.size : Int) ≤ 3000000 := by have := HSB.out; have := HN.out; have := HSA.out; omega
          have HN2 := Aside0.mk (show nn + x.f1.size = sz a + sz (b.take (j + 1)) from by have := HN.out; omega)
          have HTL := Aside0.mk (show ((b.take j).map to36).length ≤ 1000000 from by rw [List.length_map, List.length_take]; have := H2.out; omega)
          obtain ⟨ws, hws⟩ : ∃ ws, ws = (b.take j).map to36 := ⟨_, rfl⟩
          rw [← hws] at HTT HTL HR
          clear hws hsn hsl
          go_wp2_with (at_builtin; refine Kd.R_append k36 (w0 := wL) wL.heap.size rfl (.tmp 50) (.tmp 55) 23 36 (.agg #[.int .i64 0, .string ⟨#[]⟩, .int .i64 0]) 32 rfl Tryd.underlying23 HLexA.info36 rfl (by decide) (by omega) u6 ws (to36 x) [.int .i64 x.f0, .string x.f1, .int .i64 x.f2] (fun _ => True) (fun _ => False) rfl rfl (k36_mkM _ _ _ (to36 x)) (fun _ hk => hk.elim) (fun _ _ => trivial) HR.out HW.out HW.out.size ?aL ?_; (case aL => (have := HTL.out; omega)); intro v1 w1 ho hb hg hat; have HO1 := Aside0.mk ho; have HB2 := Aside0.mk hb; have hcell := HCL.out _ hb; clear a1 a2 a3; clear ho hb hg hat)
          go_roundg (b.length - (j + 1))
          case measure => have := HJ.out; omega
          case rel => exact ⟨j + 1, nn + x.f1.size, rfl, rfl, ⟨by have := HJ.out; omega⟩, HN2, ⟨by rw [HTT.out]; exact HO1.out⟩, ⟨HB2.out⟩⟩
        · have f1 : decide (j < b.length) = false := decide_eq_false cj
          have f2 : decide ((j : Int) < (b.length : Int)) = false := decide_eq_false (by omega)
          have hall : b.take j = b := List.take_of_length_le (by have := HJ.out; omega)
          rw [hall] at HR HN
          clear hall HJ cj
          rename World => wM
          obtain ⟨Ay, cy, rfl⟩ := Kd.R_slice HR.out
          have HY := Aside0.mk (show Sl wM 0 Ay cy (b.map to36) from ⟨(Kd.R_reads' HR.out).2.1, (Kd.R_reads' HR.out).2.2⟩)
          obtain ⟨Y, hY⟩ : ∃ Y, Y = b.map to36 := ⟨_, rfl⟩
          rw [← hY] at HY HR ⊢
          have HBM := Aside0.mk (below_step HBL.out HW.out)
          have HXM := Aside0.mk (HX.out.below HW.out)
          have HAM := Aside0.mk (HAL.out.below HW.out)
          have HBB := Aside0.mk (HBL2.out.below HW.out)
          have HYK := Aside0.mk (show Y.map kk = b.map kr from by rw [hY, kk_36])
          have HYL := Aside0.mk (show Y.length = b.length from by rw [hY, List.length_map])
          clear hY HR HW HX HAL HBL2
          by_cases c5 : 5000 < nn
          · have g1 : decide (5000 < nn) = true := decide_eq_true c5
            have g2 : decide ((5000 : Int) < (nn : Int)) = true := decide_eq_true (by omega)
            clear c5
            go_wp2
            go_ret
            exact ⟨rfl, HBM.out⟩
          · have g1 : decide (5000 < nn) = false := decide_eq_false c5
            have g2 : decide ((5000 : Int) < (nn : Int)) = false := decide_eq_false (by omega)
            clear c5
            have HJ := Aside0.mk (fun (w : World) A c (h : Sl w 0 A c X) => join_any w A c X h.cells h.cap (by have := HXL.out; have := H1.out; omega) (by rw [HXK.out, tot_sz]; have := HSA.out; have := H1.out; omega))
            have HRJ := Aside0.mk (fun (w : World) (h : Sr w A ca a) => refjoin_any w A ca a h.cells h.cap (by have := H1.out; omega) (by rw [tot_sz]; have := HSA.out; have := H1.out; omega))
            have HS := Aside0.mk (fun (w : World) A c A' c' (h : Sl w 0 A c X) (h' : Sl w 0 A' c' Y) => same_any w A c X h.cells h.cap A' c' Y h'.cells h'.cap (by have := HXL.out; have := H1.out; omega))
            have HRS := Aside0.mk (fun (w : World) (h : Sr w A ca a) (h' : Sr w B cb b) => refsame_any w A ca a h.cells h.cap B cb b h'.cells h'.cap (by have := H1.out; omega))
            rw [HXK.out] at HJ HS
            rw [HYK.out] at HS
            obtain ⟨p, hp⟩ : ∃ p, p = decide (a.map kr = b.map kr) := ⟨_, rfl⟩
            obtain ⟨T, hT⟩ : ∃ T, T = jq (a.map kr) ⟨#[]⟩ true := ⟨_, rfl⟩
            rw [← hp] at HS HRS
            rw [← hT] at HJ HRJ
            clear hp hT HXK HYK HXL HYL HSA HSB H1 H2
            go_wp2_with fail
            refine (HS.out _ Ax cx Ay cy HXM.out HY.out).mono ?_
            rintro e w5 ⟨rfl, hb5⟩
            have HB5 := Aside0.mk (below_step HBM.out hb5)
            have HX5 := Aside0.mk (HXM.out.below hb5)
            have HA5 := Aside0.mk (HAM.out.below hb5)
            have HBB5 := Aside0.mk (HBB.out.below hb5)
            clear hb5 HBM HXM HAM HBB HY
            go_wp2_with fail
            refine (HRS.out _ HA5.out HBB5.out).mono ?_
            rintro e w6 ⟨rfl, ⟨⟨m, rfl⟩⟩⟩
            have HB6 := Aside0.mk (pw_below_drewN HB5.out m)
            have hbm := pw_below_drewN (Below.refl w5.heap.size w5) m
            have HX6 := Aside0.mk (HX5.out.below hbm)
            have HA6 := Aside0.mk (HA5.out.below hbm)
            clear hbm
            have hpp : (p == p) = true := by cases p <;> rfl
            go_wp2_with fail
            refine (HJ.out _ Ax cx HX6.out).mono ?_
            rintro e w7 ⟨rfl, hb7⟩
            have HB7 := Aside0.mk (below_step HB6.out hb7)
            have HA7 := Aside0.mk (HA6.out.below hb7)
            clear hb7
            go_wp2_with fail
            refine (HRJ.out _ HA7.out).mono ?_
            rintro e w8 ⟨rfl, ⟨⟨m2, rfl⟩⟩⟩
            have HB8 := Aside0.mk (pw_below_drewN HB7.out m2)
            go_wp2
            go_ret
            exact ⟨rfl, HB8.out⟩
end Go.Proofs.YthefibpcepgoaaaDoor.HLexL3
/- What came in, opened: out of the form's reading of an argument what the kinds (Kd) say of it. -/
namespace Go.Proofs.YthefibpcepgoaaaDoor.HOpen
open Go.RowKit Go.WideShapes Go.Proofs.YthefibpcepgoaaaDoorW.PrintWords Go.Proofs.YthefibpcepgoaaaDoor.HLib
set_option linter.unusedVariables false

/-- Type t reads as d; ok: what is told of the value; m: its bulk is at least that. -/
def Opens {α : Type} (P : Program) (t : TypeId) (d : Kd α) (ok : α → Prop) (m : α → Nat) : Prop :=
  ∀ {H : Type} (enc : TypeId × Value → H) (w : World) (held : Bool) (fuel : Nat) (cs : List Value) (x : DataW H × List MemPlace),
    DataW.trod enc P w 0 (fun _ => true) held fuel t cs = some x → ∃ a, d.K w a cs ∧ ok a ∧ m a ≤ Rows.uptoBulk x.1

section
variable {P : Program}

theorem opens_int {t : TypeId} {k : IntKind} (ht : P.underlying t = some (.int k)) : Opens P t (Kd.int k) (fun n => (Lit.int k n).wf = true) (fun _ => 1) := by
  intro H enc w held fuel cs x h
  obtain ⟨n, rfl, rfl, hw⟩ := DataW.trod_int ht h
  exact ⟨n, rfl, hw, by simp [Rows.uptoBulk]⟩

theorem opens_bool {t : TypeId} (ht : P.underlying t = some .bool) : Opens P t Kd.bool (fun _ => True) (fun _ => 1) := by
  intro H enc w held fuel cs x h
  obtain ⟨b, rfl, rfl⟩ := DataW.trod_bool ht h
  exact ⟨b, rfl, trivial, by simp [Rows.uptoBulk]⟩

theorem opens_string {t : TypeId} (ht : P.underlying t = some .string) : Opens P t Kd.string (fun s => s.size ≤ maxLen) (fun s => s.size + 1) := by
  intro H enc w held fuel cs x h
  obtain ⟨s, rfl, rfl, hw⟩ := DataW.trod_string ht h
  refine ⟨s, rfl, hw, ?_⟩
  have e : s.data.toList.length = s.size := by rw [Array.length_toList]; rfl
  simp only [Rows.uptoBulk]
  omega

theorem cells_get {w : World} {base : Nat} {a : Addr} {n : Nat} {c : List Value} (h : w.cells? base a n = some c) : c.length = n ∧ ∀ (i : Nat) (u : Value), c[i]? = some u → w.cell? (a.add i) = some u := by
  unfold World.cells? at h
  split at h
  · have hl : c.length = n := by simpa using mapM_some_length h
    refine ⟨hl, fun i u hu => ?_⟩
    have hi : i < n := by
      have := (List.getElem?_eq_some_iff.1 hu).1
      omega
    have := mapM_some_get h i i (by simp [hi])
    rw [this, hu]
  · cases h

theorem bulkAll_get {H : Type} (l : List (DataW H)) : ∀ (ms : List Nat), ms.length = l.length → (∀ (i : Nat) (m : Nat) (d : DataW H), ms[i]? = some m → l[i]? = some d → m ≤ Rows.uptoBulk d) → ms.sum ≤ Rows.uptoBulkAll l := by
  induction l with
  | nil => intro ms h _; cases ms with
    | nil => simp
    | cons a b => simp at h
  | cons d l ih =>
    intro ms h hm
    cases ms with
    | nil => simp at h
    | cons a b =>
      simp only [List.sum_cons, Rows.uptoBulkAll]
      have h1 := hm 0 a d rfl rfl
      have h2 := ih b (by simpa using h) (fun i m d h1 h2 => hm (i + 1) m d h1 h2)
      omega

theorem opens_slice {α : Type} [Inhabited α] {t e : TypeId} {d : Kd α} {ok : α → Prop} {m : α → Nat} (ht : P.underlying t = some (.slice e)) (hc : P.cellsOf e = d.sz) (h : Opens P e d ok m) :
    Opens P t (Kd.slice e d) (fun xs => (∀ x ∈ xs, ok x) ∧ xs.length ≤ maxLen) (fun xs => (xs.map m).sum + 1) := by
  intro H enc w held fuel cs x hx
  rcases DataW.trod_slice ht hx with ⟨rfl, rfl⟩ | ⟨a, len, cap, elems, rest, n, _, rfl, rfl, hb, hl, hm, hlen, hel, _, _⟩
  · exact ⟨[], ⟨none, 0, rfl, Nat.le_refl _, Kd.C_nil _ _⟩, ⟨(fun x hx => by cases hx), Nat.zero_le _⟩, by simp [Rows.uptoBulk]⟩
  · have each : ∀ i, i < len → ∃ y : α, ∃ c : List Value, c.length = d.sz ∧ d.K w y c ∧ ok y ∧ (∀ j u, c[j]? = some u → w.cell? (a.add (i * d.sz + j)) = some u) ∧ ∀ z, elems[i]? = some z → m y ≤ Rows.uptoBulk z.1 := by
      intro i hi
      have h1 := hel i hi
      have hi' : i < elems.length := by omega
      rw [List.getElem?_eq_getElem hi'] at h1
      obtain ⟨c, hc1, hc2⟩ := Option.bind_eq_some_iff.1 h1
      obtain ⟨y, hy1, hy2, hy3⟩ := h enc w held n c _ hc2
      obtain ⟨hcl, hcc⟩ := cells_get hc1
      refine ⟨y, c, by rw [hcl, hc], hy1, hy2, fun j u hu => ?_, fun z hz => ?_⟩
      · have := hcc j u hu
        rw [hc] at this
        rw [← this]
        congr 1
        rw [Go.Deep.add_add]
      · rw [List.getElem?_eq_getElem hi'] at hz
        injection hz with hz
        rw [← hz]
        exact hy3
    obtain ⟨f, hf⟩ := Go.Deep.choose_lt each
    refine ⟨(List.range len).map f, ⟨some a, cap, by simp, by simpa using hl, ?_⟩, ⟨?_, by simp; omega⟩, ?_⟩
    · refine ⟨by simp, by simp [maxLen] at *; omega, fun hp => ⟨a, rfl, fun j p hj => ?_⟩⟩
      have hjl : j < len := by
        have := (List.getElem?_eq_some_iff.1 hj).1
        simpa using this
      have : f j = p := by simpa [List.getElem?_range hjl] using hj
      subst this
      obtain ⟨c, h1, h2, _, h4, _⟩ := hf j hjl
      exact ⟨c, h1, h2, h4⟩
    · intro x hx
      simp only [List.mem_map, List.mem_range] at hx
      obtain ⟨i, hi, rfl⟩ := hx
      obtain ⟨c, _, _, h3, _⟩ := hf i hi
      exact h3
    · simp only [Rows.uptoBulk]
      have := bulkAll_get (elems.map (·.1)) (((List.range len).map f).map m) (by simp [hlen]) (fun i k z h1 h2 => by
        have hil : i < len := by
          have := (List.getElem?_eq_some_iff.1 h1).1
          simpa using this
        simp [List.getElem?_range hil] at h1
        subst h1
        obtain ⟨c, _, _, _, _, h5⟩ := hf i hil
        simp only [List.getElem?_map, Option.map_eq_some_iff] at h2
        obtain ⟨z', hz', rfl⟩ := h2
        exact h5 z' hz')
      omega
end
end Go.Proofs.YthefibpcepgoaaaDoor.HOpen
/- Structs that came in, opened. -/
namespace Go.Proofs.YthefibpcepgoaaaDoor.HOpenS
open Go.RowKit Go.WideShapes Go.Proofs.YthefibpcepgoaaaDoorW.PrintWords Go.Proofs.YthefibpcepgoaaaDoor.HLib Go.Proofs.YthefibpcepgoaaaDoor.HOpen
set_option linter.unusedVariables false
/-- The fields from place o on read as d. -/
def OpensL {α : Type} (P : Program) (fs : List Field) (o : Nat) (d : Kd α) (ok : α → Prop) (m : α → Nat) : Prop :=
  ∀ {H : Type} (enc : TypeId × Value → H) (w : World) (held : Bool) (n : Nat) (cs : List Value) (xs : List (DataW H × List MemPlace)), cs.length = o + d.sz → xs.length = fs.length →
    (∀ (i : Nat) (f : Field), fs[i]? = some f → DataW.trod enc P w 0 (fun _ => true) held n f.type ((cs.drop f.offset).take (P.cellsOf f.type)) = xs[i]?) →
    ∃ a, d.K w a (cs.drop o) ∧ ok a ∧ m a ≤ Rows.uptoBulkAll (xs.map (·.1))
section
variable {P : Program}
theorem opensL_one {α : Type} {f : Field} {o : Nat} {d : Kd α} {ok : α → Prop} {m : α → Nat} (ho : f.offset = o) (hc : P.cellsOf f.type = d.sz) (h : Opens P f.type d ok m) : OpensL P [f] o d ok m := by
  intro H enc w held n cs xs hl hx hf
  match xs, hx with
  | [x], _ =>
    have h0 := hf 0 f rfl
    rw [hc, ho, List.take_of_length_le (by rw [List.length_drop]; omega)] at h0
    obtain ⟨a, h1, h2, h3⟩ := h enc w held n _ x h0
    exact ⟨a, h1, h2, by simp only [List.map_cons, List.map_nil, Rows.uptoBulkAll]; omega⟩
theorem opensL_cons {α β : Type} {f : Field} {fs : List Field} {o : Nat} {d : Kd α} {d2 : Kd β} {ok : α → Prop} {m : α → Nat} {ok2 : β → Prop} {m2 : β → Nat} (ho : f.offset = o) (hc : P.cellsOf f.type = d.sz) (h : Opens P f.type d ok m)
    (h2 : OpensL P fs (o + d.sz) d2 ok2 m2) : OpensL P (f :: fs) o (Kd.pair d d2) (fun p => ok p.1 ∧ ok2 p.2) (fun p => m p.1 + m2 p.2) := by
  intro H enc w held n cs xs hl hx hf
  have hl' : cs.length = o + (d.sz + d2.sz) := hl
  match xs, hx with
  | x :: xs, hx =>
    have h0 : DataW.trod enc P w 0 (fun _ => true) held n f.type ((cs.drop f.offset).take (P.cellsOf f.type)) = some x := hf 0 f rfl
    rw [hc, ho] at h0
    obtain ⟨a, ha1, ha2, ha3⟩ := h enc w held n _ x h0
    obtain ⟨b, hb1, hb2, hb3⟩ := h2 enc w held n cs xs (by omega) (by simpa using hx) (fun i g hg => hf (i + 1) g hg)
    refine ⟨(a, b), ⟨(cs.drop o).take d.sz, cs.drop (o + d.sz), ?_, ha1, hb1⟩, ⟨ha2, hb2⟩, ?_⟩
    · rw [← List.drop_drop, List.take_append_drop]
    · simp only [List.map_cons, Rows.uptoBulkAll]
      omega
theorem opens_struct {α : Type} {t : TypeId} {fs : Array Field} {d : Kd α} {ok : α → Prop} {m : α → Nat} (ht : P.underlying t = some (.struct fs)) (hc : P.cellsOf t = d.sz) (h : OpensL P fs.toList 0 d ok m) : Opens P t d ok (fun a => m a + 1) := by
  intro H enc w held fuel cs x hx
  obtain ⟨xs, n, _, rfl, hl, hlen, hf⟩ := DataW.trod_struct ht hx
  obtain ⟨a, h1, h2, h3⟩ := h enc w held n cs xs (by rw [hl, hc]; omega) (by simpa using hlen) (fun i f hf' => by
    have := hf i f (by simpa using hf')
    exact this)
  exact ⟨a, by simpa using h1, h2, by simp only [Rows.uptoBulk]; omega⟩
theorem opens_iso {α β : Type} {t : TypeId} {d : Kd α} {ok : α → Prop} {m : α → Nat} (f : β → α) (g : α → β) (hg : ∀ a, f (g a) = a) (h : Opens P t d ok m) : Opens P t (Kd.iso d f) (fun b => ok (f b)) (fun b => m (f b)) := by
  intro H enc w held fuel cs x hx
  obtain ⟨a, h1, h2, h3⟩ := h enc w held fuel cs x hx
  refine ⟨g a, ?_, ?_, ?_⟩
  · show d.K w (f (g a)) cs
    rw [hg]; exact h1
  · show ok (f (g a))
    rw [hg]; exact h2
  · show m (f (g a)) ≤ _
    rw [hg]; exact h3
end
end Go.Proofs.YthefibpcepgoaaaDoor.HOpenS
/- The law LexSame, the rest. -/
namespace Go.Proofs.YthefibpcepgoaaaDoor.HLexL6
open Go.RowKit Go.Proofs.YthefibpcepgoaaaDoorW.PrintWords Go.Proofs.YthefibpcepgoaaaDoor.HLib Go.Proofs.YthefibpcepgoaaaDoor.HLexC Go.Proofs.YthefibpcepgoaaaDoor.HLexE Go.Proofs.YthefibpcepgoaaaDoor.HLexW Go.Proofs.YthefibpcepgoaaaDoor.HName Go.Proofs.YthefibpcepgoaaaDoor.PLexJoins Go.Proofs.YthefibpcepgoaaaDoor.HOpenS Go.Proofs.YthefibpcepgoaaaDoor.HLexL3
set_option linter.unusedVariables false
set_option linter.unusedSimpArgs false
set_option maxRecDepth 100000
set_option maxHeartbeats 4000000
theorem far_a (A B : Option Addr) (ca cb n m : Nat) (hn : 50 < n) (w : World) (hG : GV w) : Calls Tryd.prog 5 #[.slice A n ca, .slice B m cb] w fun e w' => e = .returned (.bool true) ∧ Below w.heap.size w w' := by
  have HG := Aside0.mk hG
  clear hG
  have d1 : decide (50 < n) = true := decide_eq_true hn
  have d2 : decide ((50 : Int) < (n : Int)) = true := decide_eq_true (by omega)
  clear hn
  go_enter Tryd.func5, Tryd.ntmps5
  go_wp2_with fail
  refine (awake_any w HG.out).mono ?_
  rintro e w1 ⟨rfl, hb1⟩
  have HB1 := Aside0.mk hb1
  clear hb1
  go_wp2_with fail
  refine (awake_any w1 (HG.out.below HB1.out)).mono ?_
  rintro e w2 ⟨rfl, hb2⟩
  have HB2 := Aside0.mk (below_step HB1.out hb2)
  clear hb2
  go_wp2
  go_ret
  exact ⟨rfl, HB2.out⟩
theorem far_b (A B : Option Addr) (ca cb n m : Nat) (hn : n ≤ 50) (hm : 50 < m) (w : World) (hG : GV w) : Calls Tryd.prog 5 #[.slice A n ca, .slice B m cb] w fun e w' => e = .returned (.bool true) ∧ Below w.heap.size w w' := by
  have HG := Aside0.mk hG
  clear hG
  have d1 : decide (50 < n) = false := decide_eq_false (by omega)
  have d2 : decide ((50 : Int) < (n : Int)) = false := decide_eq_false (by omega)
  have d3 : decide (50 < m) = true := decide_eq_true hm
  have d4 : decide ((50 : Int) < (m : Int)) = true := decide_eq_true (by omega)
  clear hn hm
  go_enter Tryd.func5, Tryd.ntmps5
  go_wp2_with fail
  refine (awake_any w HG.out).mono ?_
  rintro e w1 ⟨rfl, hb1⟩
  have HB1 := Aside0.mk hb1
  clear hb1
  go_wp2_with fail
  refine (awake_any w1 (HG.out.below HB1.out)).mono ?_
  rintro e w2 ⟨rfl, hb2⟩
  have HB2 := Aside0.mk (below_step HB1.out hb2)
  clear hb2
  go_wp2
  go_ret
  exact ⟨rfl, HB2.out⟩
instance : Inhabited S37 := ⟨z37⟩
theorem open_tok : HOpen.Opens Tryd.prog 37 k37 (fun x => (Lit.int .i64 x.f0).wf = true ∧ x.f1.size ≤ maxLen ∧ (Lit.int .i64 x.f2).wf = true) (fun x => (1 + ((x.f1.size + 1) + 1)) + 1) :=
by
  refine opens_iso (ok := fun p : Int × ByteArray × Int => (Lit.int .i64 p.1).wf = true ∧ p.2.1.size ≤ maxLen ∧ (Lit.int .i64 p.2.2).wf = true) (m := fun p => (1 + ((p.2.1.size + 1) + 1)) + 1) (fun x : S37 => (x.f0, x.f1, x.f2)) (fun p => ⟨p.1, p.2.1, p.2.2⟩) (fun _ => rfl) ?_
  refine opens_struct (m := fun p : Int × ByteArray × Int => 1 + ((p.2.1.size + 1) + 1)) Tryd.underlying37 (by kernel_rfl) ?_
  show OpensL _ (_ :: _ :: _ :: []) 0 _ _ _
  refine opensL_cons (ok := (fun n : Int => (Lit.int .i64 n).wf = true)) (m := fun _ => 1) (ok2 := fun p : ByteArray × Int => p.1.size ≤ maxLen ∧ (Lit.int .i64 p.2).wf = true) (m2 := fun p => (p.1.size + 1) + 1) ?ho0 ?hc0 (HOpen.opens_int Tryd.underlying3) ?hn0
  case ho0 => rfl
  case hc0 => kernel_rfl
  refine opensL_cons (ok := (fun s : ByteArray => s.size ≤ maxLen)) (m := fun s => s.size + 1) (ok2 := (fun n : Int => (Lit.int .i64 n).wf = true)) (m2 := fun _ => 1) ?ho1 ?hc1 (HOpen.opens_string Tryd.underlying9) ?hn1
  case ho1 => rfl
  case hc1 => kernel_rfl
  refine opensL_one (ok := (fun n : Int => (Lit.int .i64 n).wf = true)) (m := fun _ => 1) ?ho2 ?hc2 (HOpen.opens_int Tryd.underlying3)
  case ho2 => rfl
  case hc2 => kernel_rfl
theorem open_toks : HOpen.Opens Tryd.prog 28 (Kd.slice 37 k37) (fun xs => (∀ x ∈ xs, (Lit.int .i64 x.f0).wf = true ∧ x.f1.size ≤ maxLen ∧ (Lit.int .i64 x.f2).wf = true) ∧ xs.length ≤ maxLen) (fun xs => (xs.map fun x => (1 + ((x.f1.size + 1) + 1)) + 1).sum + 1) :=
  HOpen.opens_slice Tryd.underlying28 (by kernel_rfl) open_tok
theorem sz_sum (xs : List S37) : sz xs ≤ (xs.map fun x => (1 + ((x.f1.size + 1) + 1)) + 1).sum := by
  unfold sz
  induction xs with
  | nil => exact Nat.le_refl _
  | cons x xs ih => rw [List.map_cons, List.sum_cons, List.map_cons, List.sum_cons]; omega
theorem row_same (v0 : Value) (a0 : List S37) (v1 : Value) (a1 : List S37) (W : World) {base : Nat} (hv0 : Value.okWide Tryd.prog W .any base 28 v0) (k0 : (Kd.slice 37 k37).K W a0 v0.cells.toList) (ok0 : (∀ x ∈ a0, (Lit.int .i64 x.f0).wf = true ∧ x.f1.size ≤ maxLen ∧ (Lit.int .i64 x.f2).wf = true) ∧ a0.length ≤ maxLen)
    (b0 : (a0.map fun x => (1 + ((x.f1.size + 1) + 1)) + 1).sum + 1 ≤ 1048576) (hv1 : Value.okWide Tryd.prog W .any base 28 v1) (k1 : (Kd.slice 37 k37).K W a1 v1.cells.toList) (ok1 : (∀ x ∈ a1, (Lit.int .i64 x.f0).wf = true ∧ x.f1.size ≤ maxLen ∧ (Lit.int .i64 x.f2).wf = true) ∧ a1.length ≤ maxLen)
    (b1 : (a1.map fun x => (1 + ((x.f1.size + 1) + 1)) + 1).sum + 1 ≤ 1048576) (hG : GV W) : Calls Tryd.prog 5 #[v0, v1] W fun e w' => e = .returned (.bool true) ∧ Below W.heap.size W w' := by
  obtain ⟨A0, len0, cap0, rfl⟩ := WideShapes.okWide_slice Tryd.underlying28 hv0
  obtain ⟨A1, len1, cap1, rfl⟩ := WideShapes.okWide_slice Tryd.underlying28 hv1
  obtain ⟨A, c, e, hc, hC⟩ := k0
  obtain ⟨B, d, e2, hd, hD⟩ := k1
  simp only [Value.cells, List.cons.injEq, and_true] at e e2
  rw [e, e2]
  have s0 := sz_sum a0
  have s1 := sz_sum a1
  by_cases h1 : 50 < a0.length
  · exact far_a A B c d _ _ h1 W hG
  · by_cases h2 : 50 < a1.length
    · exact far_b A B c d _ _ (by omega) h2 W hG
    · exact near W A c a0 ⟨hc, hC⟩ B d a1 ⟨hd, hD⟩ (by omega) (by omega) (by omega) (by omega) hG
end Go.Proofs.YthefibpcepgoaaaDoor.HLexL6
