/- The walk of the law WireTexts. -/
import Derived.Test.YtbijboolhkjpjaaHW01
import Derived.Test.YtbijboolhkjpjaaHRef01
import Derived.Test.YtbijboolhkjpjaaHJoin
import Derived.Test.YtbijboolhkjpjaaHOpen
namespace Go.Proofs.Ytbijboolhkjpjaa.HT01
open Go.RowKit Go.Proofs.YtbijboolhkjpjaaW.PrintWords Go.Proofs.Ytbijboolhkjpjaa.HLib Go.Proofs.Ytbijboolhkjpjaa.HWireS Go.Proofs.Ytbijboolhkjpjaa.HWire Go.Proofs.Ytbijboolhkjpjaa.HPut Go.Proofs.Ytbijboolhkjpjaa.HCur Go.Proofs.Ytbijboolhkjpjaa.HRef01 Go.Proofs.Ytbijboolhkjpjaa.HJoin Go.Proofs.Ytbijboolhkjpjaa.HW01
set_option linter.unusedVariables false
set_option linter.unusedSimpArgs false

theorem coded_none (w : World) : Calls Try.prog 17 #[.nilIface, .int .i64 0] w fun e w' => e = .returned (.bool true) ∧ Drawn0 w w' := by
  go_enter Try.func17, Try.ntmps17
  go_wp2
  go_ret
  exact ⟨rfl, Drawn0.refl _⟩

theorem coded_some (w : World) (c : Int) (h : c ≠ 0) : Calls Try.prog 17 #[.iface 33 (.int .i64 c), .int .i64 c] w fun e w' => e = .returned (.bool true) ∧ Drawn0 w w' := by
  have h1 : (c == 0) = false := by simpa using h
  have hif : ∀ w : World, (binOp .eql 28 (.iface 33 (.int .i64 c)) (.iface 33 (.int .i64 c))).run Try.prog w = .ok (.bool true) w := fun w => by
    have := Lib.run_eql_iface_int (P := Try.prog) w (t := 28) (tx := 33) (k := .i64) c c Try.underlying28 (by kernel_rfl) Try.underlying33
    rw [this]; simp
  clear h
  go_enter Try.func17, Try.ntmps17
  go_wp2
  go_ret
  exact ⟨rfl, Drawn0.refl _⟩

theorem texts_far (w : World) (s : ByteArray) (most : Int) (A : Option Addr) (c : Nat) (xss : List (List Int)) (hC : KB.C w A xss.length xss) (hs : s.size ≤ 1048576) (hx : (cat xss).length ≤ 1048576) (hn : xss.length ≤ 1048576)
    (h : 500 < s.size ∨ 50 < xss.length ∨ 5000 < (cat xss).length) :
    Calls Try.prog 5 #[.string s, .int .i64 most, .slice A xss.length c] w fun e w' => e = .returned (.bool true) ∧ Below w.heap.size w w' := by
  have HH := Aside0.mk h
  have HX := Aside0.mk (And.intro hx hn)
  clear h hx hn
  by_cases c1 : 500 < s.size
  · have d1 : decide (500 < s.size) = true := decide_eq_true c1
    have d1i : decide ((500 : Int) < (s.size : Int)) = true := decide_eq_true (by omega)
    clear c1
    go_enter Try.func5, Try.ntmps5
    go_wp2_with fail
    refine (awake_true _).mono ?_
    rintro e w1 ⟨rfl, hB⟩
    have HB := Aside0.mk hB
    clear hB
    go_wp2_with fail
    refine (awake_true _).mono ?_
    rintro e w2 ⟨rfl, hB⟩
    have HB2 := Aside0.mk (below_step HB.out hB)
    clear hB
    go_wp2
    go_ret
    exact ⟨rfl, HB2.out⟩
  · have d1 : decide (500 < s.size) = false := decide_eq_false c1
    have d1i : decide ((500 : Int) < (s.size : Int)) = false := decide_eq_false (by omega)
    have C1 := Aside0.mk c1
    clear c1
    by_cases c2 : 50 < xss.length
    · have d2 : decide (50 < xss.length) = true := decide_eq_true c2
      have d2i : decide ((50 : Int) < (xss.length : Int)) = true := decide_eq_true (by omega)
      clear c2
      go_enter Try.func5, Try.ntmps5
      go_wp2_with fail
      refine (awake_true _).mono ?_
      rintro e w1 ⟨rfl, hB⟩
      have HB := Aside0.mk hB
      clear hB
      go_wp2_with fail
      refine (awake_true _).mono ?_
      rintro e w2 ⟨rfl, hB⟩
      have HB2 := Aside0.mk (below_step HB.out hB)
      clear hB
      go_wp2
      go_ret
      exact ⟨rfl, HB2.out⟩
    · have d2 : decide (50 < xss.length) = false := decide_eq_false c2
      have d2i : decide ((50 : Int) < (xss.length : Int)) = false := decide_eq_false (by omega)
      have C2 := Aside0.mk c2
      clear c2
      have d3 : decide (5000 < (cat xss).length) = true := decide_eq_true (by have := HH.out; have := C1.out; have := C2.out; omega)
      have d3i : decide ((5000 : Int) < ((cat xss).length : Int)) = true := decide_eq_true (by have := HH.out; have := C1.out; have := C2.out; omega)
      go_enter Try.func5, Try.ntmps5
      go_wp2_with fail
      refine (awake_true _).mono ?_
      rintro e w1 ⟨rfl, hB⟩
      have HB := Aside0.mk hB
      clear hB
      go_wp2_with fail
      refine (refjoin_any _ A c xss (Kd.C_below hC HB.out) (by have := HX.out; omega) (by have := HX.out; omega)).mono ?_
      rintro e w2 ⟨v2, rfl, hR, hB⟩
      obtain ⟨A2, c2, rfl, _, _⟩ := Kd.R_reads hR
      have HB2 := Aside0.mk (below_step HB.out hB)
      clear hB hR
      go_wp2_with fail
      refine (awake_true _).mono ?_
      rintro e w3 ⟨rfl, hB⟩
      have HB3 := Aside0.mk (below_step HB2.out hB)
      clear hB
      go_wp2
      go_ret
      exact ⟨rfl, HB3.out⟩

theorem encText_byte (s : ByteArray) : ∀ b ∈ encText s, 0 ≤ b ∧ b < 256 := by
  intro b hb
  simp only [encText, List.mem_append] at hb
  rcases hb with hb | hb
  · exact enc_byte _ b hb
  · simp only [bytesOf, List.mem_map] at hb
    obtain ⟨u, _, rfl⟩ := hb
    have := u.toNat_lt
    omega
theorem encText_len (s : ByteArray) (h : s.size < 18446744073709551616) : (encText s).length ≤ s.size + 10 := by
  have h1 := enc_len10 s.size h
  unfold encText
  rw [List.length_append, bytesOf_length]
  omega

set_option maxHeartbeats 2000000 in
theorem texts_near (w : World) (s : ByteArray) (most : Int) (A : Option Addr) (c : Nat) (xss : List (List Int)) (hC : KB.C w A xss.length xss) (hm : most ≤ 9223372036854775807)
    (h1 : ¬ 500 < s.size) (h2 : ¬ 50 < xss.length) (h3 : ¬ 5000 < (cat xss).length) :
    Calls Try.prog 5 #[.string s, .int .i64 most, .slice A xss.length c] w fun e w' => e = .returned (.bool true) ∧ Below w.heap.size w w' := by
  have d1 : decide (500 < s.size) = false := decide_eq_false h1
  have d1i : decide ((500 : Int) < (s.size : Int)) = false := decide_eq_false (by omega)
  have d2 : decide (50 < xss.length) = false := decide_eq_false h2
  have d2i : decide ((50 : Int) < (xss.length : Int)) = false := decide_eq_false (by omega)
  have d3 : decide (5000 < (cat xss).length) = false := decide_eq_false h3
  have d3i : decide ((5000 : Int) < ((cat xss).length : Int)) = false := decide_eq_false (by omega)
  have H1 := Aside0.mk (And.intro h1 (And.intro h2 h3))
  have HC := Aside0.mk hC
  have HM := Aside0.mk hm
  have HE := Aside0.mk (And.intro (encText_byte s) (encText_len s (by omega)))
  clear h1 h2 h3 hC hm
  go_enter Try.func5, Try.ntmps5
  go_wp2_with fail
  refine (awake_true _).mono ?_
  rintro e w1 ⟨rfl, hB⟩
  have HB := Aside0.mk hB
  clear hB
  go_wp2_with fail
  refine (refjoin_any _ A c xss (Kd.C_below HC.out HB.out) (by have := H1.out; omega) (by have := H1.out; omega)).mono ?_
  rintro e w2 ⟨v2, rfl, hR, hB⟩
  obtain ⟨A2, c2, rfl, _, _⟩ := Kd.R_reads hR
  have HB2 := Aside0.mk (below_step HB.out hB)
  clear hB hR
  go_wp2_with fail
  refine (text_any _ s (by have := H1.out; omega)).mono ?_
  rintro e w3 ⟨v3, rfl, hR, hB⟩
  have HR3 := Aside0.mk (Bs.of_R hR)
  have HB3 := Aside0.mk (below_step HB2.out hB)
  clear hB hR
  go_wp2_with fail
  refine (new_any _ v3 _ HR3.out (by have := HE.out.2; have := H1.out; omega)).mono ?_
  rintro e w4 ⟨g, rfl, hg, hI, hB⟩
  have HG := Aside0.mk (Nat.le_trans HB3.out.size hg)
  have HR4 := Aside0.mk (HR3.out.below hB)
  have HI := Aside0.mk hI
  have HGR := Aside0.mk hg
  have HB4 := Aside0.mk (below_step HB3.out hB)
  have HB34 := Aside0.mk hB
  clear hg hI hB
  go_wp2_with fail
  refine (text_at _ g (encText s) 0 most HI.out (by decide) (by omega) (by have := HE.out.2; have := H1.out; omega) HE.out.1 HM.out).mono ?_
  rintro e w5 ⟨rfl, _, _, hB⟩
  have HB5 := Aside0.mk (HB4.out.trans (hB.mono HG.out))
  have HB35 := Aside0.mk (HB34.out.trans (hB.mono HGR.out))
  have HR5 := Aside0.mk (HR3.out.below HB35.out)
  clear hB
  have hdr : List.drop (Int.toNat 0) (encText s) = encText s := rfl
  rw [hdr]
  cases hr : txt (encText s) most with
  | inl cc =>
    have hcc := txt_err hr
    have HCC := Aside0.mk (show cc ≠ 0 from by omega)
    have HR := Aside0.mk hr
    clear hr hcc
    simp only [txtE, errW]
    go_wp2_with fail
    refine (reftext_any _ s (by have := H1.out; omega)).mono ?_
    rintro e w6 ⟨v6, rfl, hR, hB⟩
    have HR6 := Aside0.mk (Bs.of_R hR)
    have HR56 := Aside0.mk (HR5.out.below hB)
    have HB6 := Aside0.mk (below_step HB5.out hB)
    clear hR hB
    go_wp2_with fail
    refine (refread_any _ v6 (encText s) 0 most HR6.out (by decide) (by omega) (by have := HE.out.2; have := H1.out; omega) HE.out.1 HM.out).mono ?_
    rintro e w7 ⟨rfl, ⟨m7, rfl⟩⟩
    rw [hdr, HR.out]
    simp only [readE]
    clear hdr
    go_wp2_with fail
    refine (reftext_any _ s (by have := H1.out; omega)).mono ?_
    rintro e w8 ⟨v8, rfl, hR, hB⟩
    have HR8 := Aside0.mk (Bs.of_R hR)
    have HR58 := Aside0.mk ((HR56.out.drewN m7).below hB)
    have HB8 := Aside0.mk (below_step (pw_below_drewN HB6.out m7) hB)
    clear hR hB
    go_wp2_with fail
    refine (same_any _ v3 v8 _ _ HR58.out HR8.out (by have := HE.out.2; have := H1.out; omega)).mono ?_
    rintro e w9 ⟨rfl, ⟨m9, rfl⟩⟩
    simp only [decide_true]
    have HB9 := Aside0.mk (pw_below_drewN HB8.out m9)
    go_wp2_with fail
    refine (coded_some _ cc HCC.out).mono ?_
    rintro e w10 ⟨rfl, ⟨m10, rfl⟩⟩
    go_wp2_with fail
    refine (join_any _ A c xss (Kd.C_below HC.out (by repeat (first | exact HB8.out | apply pw_below_drewN))) (by have := H1.out; omega) (by have := H1.out; omega)).mono ?_
    rintro e w11 ⟨v11, rfl, hR, hB⟩
    have HR11 := Aside0.mk (Bs.of_R hR)
    have HB11 := Aside0.mk (below_step (by repeat (first | exact HB8.out | apply pw_below_drewN)) hB)
    clear hR hB
    go_wp2_with fail
    refine (refjoin_any _ A c xss (Kd.C_below HC.out HB11.out) (by have := H1.out; omega) (by have := H1.out; omega)).mono ?_
    rintro e w12 ⟨v12, rfl, hR, hB⟩
    have HR12 := Aside0.mk (Bs.of_R hR)
    have HR112 := Aside0.mk (HR11.out.below hB)
    have HB12 := Aside0.mk (below_step HB11.out hB)
    clear hR hB
    go_wp2_with fail
    refine (same_any _ v11 v12 _ _ HR112.out HR12.out (by have := H1.out; omega)).mono ?_
    rintro e w13 ⟨rfl, ⟨m13, rfl⟩⟩
    simp only [decide_true]
    go_wp2
    go_ret
    exact ⟨rfl, by repeat (first | exact HB12.out | apply pw_below_drewN)⟩
  | inr p =>
    obtain ⟨L, n⟩ := p
    have HR := Aside0.mk hr
    clear hr
    simp only [txtE, errW]
    go_wp2_with fail
    refine (reftext_any _ s (by have := H1.out; omega)).mono ?_
    rintro e w6 ⟨v6, rfl, hR, hB⟩
    have HR6 := Aside0.mk (Bs.of_R hR)
    have HR56 := Aside0.mk (HR5.out.below hB)
    have HB6 := Aside0.mk (below_step HB5.out hB)
    clear hR hB
    go_wp2_with fail
    refine (refread_any _ v6 (encText s) 0 most HR6.out (by decide) (by omega) (by have := HE.out.2; have := H1.out; omega) HE.out.1 HM.out).mono ?_
    rintro e w7 ⟨rfl, ⟨m7, rfl⟩⟩
    rw [hdr, HR.out]
    simp only [readE]
    clear hdr
    go_wp2_with fail
    refine (reftext_any _ s (by have := H1.out; omega)).mono ?_
    rintro e w8 ⟨v8, rfl, hR, hB⟩
    have HR8 := Aside0.mk (Bs.of_R hR)
    have HR58 := Aside0.mk ((HR56.out.drewN m7).below hB)
    have HB8 := Aside0.mk (below_step (pw_below_drewN HB6.out m7) hB)
    clear hR hB
    go_wp2_with fail
    refine (same_any _ v3 v8 _ _ HR58.out HR8.out (by have := HE.out.2; have := H1.out; omega)).mono ?_
    rintro e w9 ⟨rfl, ⟨m9, rfl⟩⟩
    simp only [decide_true]
    have HB9 := Aside0.mk (pw_below_drewN HB8.out m9)
    go_wp2_with fail
    refine (coded_none _).mono ?_
    rintro e w10 ⟨rfl, ⟨m10, rfl⟩⟩
    go_wp2_with fail
    refine (join_any _ A c xss (Kd.C_below HC.out (by repeat (first | exact HB8.out | apply pw_below_drewN))) (by have := H1.out; omega) (by have := H1.out; omega)).mono ?_
    rintro e w11 ⟨v11, rfl, hR, hB⟩
    have HR11 := Aside0.mk (Bs.of_R hR)
    have HB11 := Aside0.mk (below_step (by repeat (first | exact HB8.out | apply pw_below_drewN)) hB)
    clear hR hB
    go_wp2_with fail
    refine (refjoin_any _ A c xss (Kd.C_below HC.out HB11.out) (by have := H1.out; omega) (by have := H1.out; omega)).mono ?_
    rintro e w12 ⟨v12, rfl, hR, hB⟩
    have HR12 := Aside0.mk (Bs.of_R hR)
    have HR112 := Aside0.mk (HR11.out.below hB)
    have HB12 := Aside0.mk (below_step HB11.out hB)
    clear hR hB
    go_wp2_with fail
    refine (same_any _ v11 v12 _ _ HR112.out HR12.out (by have := H1.out; omega)).mono ?_
    rintro e w13 ⟨rfl, ⟨m13, rfl⟩⟩
    simp only [decide_true]
    go_wp2
    go_ret
    exact ⟨rfl, by repeat (first | exact HB12.out | apply pw_below_drewN)⟩

theorem texts_walk (w : World) (s : ByteArray) (most : Int) (A : Option Addr) (c : Nat) (xss : List (List Int)) (hC : KB.C w A xss.length xss) (hm : most ≤ 9223372036854775807) (hs : s.size ≤ 1048576) (hx : (cat xss).length ≤ 1048576) (hn : xss.length ≤ 1048576) :
    Calls Try.prog 5 #[.string s, .int .i64 most, .slice A xss.length c] w fun e w' => e = .returned (.bool true) ∧ Below w.heap.size w w' := by
  by_cases h : 500 < s.size ∨ 50 < xss.length ∨ 5000 < (cat xss).length
  · exact texts_far w s most A c xss hC hs hx hn h
  · exact texts_near w s most A c xss hC hm (by omega) (by omega) (by omega)

theorem cat_le (xss : List (List Int)) (h : (xss.map fun xs => (xs.map fun _ => 1).sum + 1).sum + 1 ≤ 1048576) : (cat xss).length ≤ 1048576 ∧ xss.length ≤ 1048576 := by
  have h1 : ∀ xs : List Int, (xs.map fun _ => 1).sum = xs.length := fun xs => by
    induction xs with
    | nil => rfl
    | cons a l ih => simp only [List.map_cons, List.sum_cons, List.length_cons, ih]; omega
  have h2 : ∀ l : List (List Int), (cat l).length + l.length ≤ (l.map fun xs => (xs.map fun _ => 1).sum + 1).sum := fun l => by
    induction l with
    | nil => simp [cat]
    | cons a l ih =>
      unfold cat at ih ⊢
      simp only [List.flatten_cons, List.length_append, List.map_cons, List.sum_cons, List.length_cons, h1] at ih ⊢
      omega
  have := h2 xss
  omega

theorem opensParts : HOpen.Opens Try.prog 36 (Kd.slice 23 (Kd.slice 5 (Kd.int .u8)))
    (fun xss : List (List Int) => (∀ x ∈ xss, (∀ b ∈ x, (Lit.int .u8 b).wf = true) ∧ x.length ≤ maxLen) ∧ xss.length ≤ maxLen) (fun xss : List (List Int) => (xss.map fun xs => (xs.map fun _ => 1).sum + 1).sum + 1) :=
  HOpen.opens_slice Try.underlying36 (by kernel_rfl) (HOpen.opens_slice Try.underlying23 (by kernel_rfl) (HOpen.opens_int Try.underlying5))

theorem texts_row (a0 : ByteArray) (a1 : Int) (v2 : Value) (a2 : List (List Int)) (W : World) (w0 : a0.size ≤ 1048576) (w1 : (Lit.int .i64 a1).wf = true)
    {base : Nat} (hv : Value.okWide Try.prog W .any base 36 v2) (k2 : (Kd.slice 23 (Kd.slice 5 (Kd.int .u8))).K W a2 v2.cells.toList) (ok2 : (∀ x ∈ a2, (∀ b ∈ x, (Lit.int .u8 b).wf = true) ∧ x.length ≤ maxLen) ∧ a2.length ≤ maxLen)
    (b2 : (a2.map fun xs => (xs.map fun _ => 1).sum + 1).sum + 1 ≤ 1048576) :
    Calls Try.prog 5 #[.string a0, .int .i64 a1, v2] W fun e w' => e = .returned (.bool true) ∧ Below W.heap.size W w' := by
  obtain ⟨A0, len, cap, rfl⟩ := WideShapes.okWide_slice Try.underlying36 hv
  obtain ⟨A, c, e, hc, hC⟩ := k2
  simp only [Value.cells, List.cons.injEq, and_true] at e
  rw [e]
  obtain ⟨h1, h2⟩ := cat_le a2 b2
  exact texts_walk W a0 a1 A c a2 hC (wf_i64 w1).2 w0 h1 h2

end Go.Proofs.Ytbijboolhkjpjaa.HT01
