/- What came in, opened: out of the form's reading of an argument what the kinds (Kd) say of it. -/
import Derived.Test.YtohimcpfmkgefaaDoorRows
import Derived.Test.YtohimcpfmkgefaaDoorUT
import Derived.ChangeArms
import Derived.Deep.Slices
import Derived.Test.YtohimcpfmkgefaaDoorUEA
namespace Go.Proofs.YtohimcpfmkgefaaDoor.HOpen
open Go.RowKit Go.WideShapes Go.Proofs.YtohimcpfmkgefaaDoorW.PrintWords Go.Proofs.YtohimcpfmkgefaaDoor.HLib
set_option linter.unusedVariables false

/-- Type t reads as d; ok: what is told of the value; m: its bulk is at least that. -/
def Opens {α : Type} (P : Program) (t : TypeId) (d : Kd α) (ok : α → Prop) (m : α → Nat) : Prop :=
  ∀ {H : Type} (enc : TypeId × Value → H) (w : World) (held : Bool) (fuel : Nat) (cs : List Value) (x : DataW H × List MemPlace),
    DataW.trod enc P w 0 (fun _ => true) held fuel t cs = some x → ∃ a, d.K w a cs ∧ ok a ∧ m a ≤ Rows.uptoBulk x.1

section
variable {P : Program}

theorem opens_int {t : TypeId} {k : IntKind} (ht : P.underlying t = some (.int k)) : Opens P t (Kd.int k) (fun n => (Lit.int k n).wf = true) (fun _ => 1) := by
  intro H enc w held fuel cs x h
  obtain ⟨n, rfl, rfl, hw⟩ := DataW.trod_int ht h
  exact ⟨n, rfl, hw, by simp [Rows.uptoBulk]⟩

theorem opens_bool {t : TypeId} (ht : P.underlying t = some .bool) : Opens P t Kd.bool (fun _ => True) (fun _ => 1) := by
  intro H enc w held fuel cs x h
  obtain ⟨b, rfl, rfl⟩ := DataW.trod_bool ht h
  exact ⟨b, rfl, trivial, by simp [Rows.uptoBulk]⟩

theorem opens_string {t : TypeId} (ht : P.underlying t = some .string) : Opens P t Kd.string (fun s => s.size ≤ maxLen) (fun s => s.size + 1) := by
  intro H enc w held fuel cs x h
  obtain ⟨s, rfl, rfl, hw⟩ := DataW.trod_string ht h
  refine ⟨s, rfl, hw, ?_⟩
  have e : s.data.toList.length = s.size := by rw [Array.length_toList]; rfl
  simp only [Rows.uptoBulk]
  omega

theorem cells_get {w : World} {base : Nat} {a : Addr} {n : Nat} {c : List Value} (h : w.cells? base a n = some c) : c.length = n ∧ ∀ (i : Nat) (u : Value), c[i]? = some u → w.cell? (a.add i) = some u := by
  unfold World.cells? at h
  split at h
  · have hl : c.length = n := by simpa using mapM_some_length h
    refine ⟨hl, fun i u hu => ?_⟩
    have hi : i < n := by
      have := (List.getElem?_eq_some_iff.1 hu).1
      omega
    have := mapM_some_get h i i (by simp [hi])
    rw [this, hu]
  · cases h

theorem bulkAll_get {H : Type} (l : List (DataW H)) : ∀ (ms : List Nat), ms.length = l.length → (∀ (i : Nat) (m : Nat) (d : DataW H), ms[i]? = some m → l[i]? = some d → m ≤ Rows.uptoBulk d) → ms.sum ≤ Rows.uptoBulkAll l := by
  induction l with
  | nil => intro ms h _; cases ms with
    | nil => simp
    | cons a b => simp at h
  | cons d l ih =>
    intro ms h hm
    cases ms with
    | nil => simp at h
    | cons a b =>
      simp only [List.sum_cons, Rows.uptoBulkAll]
      have h1 := hm 0 a d rfl rfl
      have h2 := ih b (by simpa using h) (fun i m d h1 h2 => hm (i + 1) m d h1 h2)
      omega

theorem opens_slice {α : Type} [Inhabited α] {t e : TypeId} {d : Kd α} {ok : α → Prop} {m : α → Nat} (ht : P.underlying t = some (.slice e)) (hc : P.cellsOf e = d.sz) (h : Opens P e d ok m) :
    Opens P t (Kd.slice e d) (fun xs => (∀ x ∈ xs, ok x) ∧ xs.length ≤ maxLen) (fun xs => (xs.map m).sum + 1) := by
  intro H enc w held fuel cs x hx
  rcases DataW.trod_slice ht hx with ⟨rfl, rfl⟩ | ⟨a, len, cap, elems, rest, n, _, rfl, rfl, hb, hl, hm, hlen, hel, _, _⟩
  · exact ⟨[], ⟨none, 0, rfl, Nat.le_refl _, Kd.C_nil _ _⟩, ⟨(fun x hx => by cases hx), Nat.zero_le _⟩, by simp [Rows.uptoBulk]⟩
  · have each : ∀ i, i < len → ∃ y : α, ∃ c : List Value, c.length = d.sz ∧ d.K w y c ∧ ok y ∧ (∀ j u, c[j]? = some u → w.cell? (a.add (i * d.sz + j)) = some u) ∧ ∀ z, elems[i]? = some z → m y ≤ Rows.uptoBulk z.1 := by
      intro i hi
      have h1 := hel i hi
      have hi' : i < elems.length := by omega
      rw [List.getElem?_eq_getElem hi'] at h1
      obtain ⟨c, hc1, hc2⟩ := Option.bind_eq_some_iff.1 h1
      obtain ⟨y, hy1, hy2, hy3⟩ := h enc w held n c _ hc2
      obtain ⟨hcl, hcc⟩ := cells_get hc1
      refine ⟨y, c, by rw [hcl, hc], hy1, hy2, fun j u hu => ?_, fun z hz => ?_⟩
      · have := hcc j u hu
        rw [hc] at this
        rw [← this]
        congr 1
        rw [Go.Deep.add_add]
      · rw [List.getElem?_eq_getElem hi'] at hz
        injection hz with hz
        rw [← hz]
        exact hy3
    obtain ⟨f, hf⟩ := Go.Deep.choose_lt each
    refine ⟨(List.range len).map f, ⟨some a, cap, by simp, by simpa using hl, ?_⟩, ⟨?_, by simp; omega⟩, ?_⟩
    · refine ⟨by simp, by simp [maxLen] at *; omega, fun hp => ⟨a, rfl, fun j p hj => ?_⟩⟩
      have hjl : j < len := by
        have := (List.getElem?_eq_some_iff.1 hj).1
        simpa using this
      have : f j = p := by simpa [List.getElem?_range hjl] using hj
      subst this
      obtain ⟨c, h1, h2, _, h4, _⟩ := hf j hjl
      exact ⟨c, h1, h2, h4⟩
    · intro x hx
      simp only [List.mem_map, List.mem_range] at hx
      obtain ⟨i, hi, rfl⟩ := hx
      obtain ⟨c, _, _, h3, _⟩ := hf i hi
      exact h3
    · simp only [Rows.uptoBulk]
      have := bulkAll_get (elems.map (·.1)) (((List.range len).map f).map m) (by simp [hlen]) (fun i k z h1 h2 => by
        have hil : i < len := by
          have := (List.getElem?_eq_some_iff.1 h1).1
          simpa using this
        simp [List.getElem?_range hil] at h1
        subst h1
        obtain ⟨c, _, _, _, _, h5⟩ := hf i hil
        simp only [List.getElem?_map, Option.map_eq_some_iff] at h2
        obtain ⟨z', hz', rfl⟩ := h2
        exact h5 z' hz')
      omega
end
end Go.Proofs.YtohimcpfmkgefaaDoor.HOpen
/- Structs that came in, opened. -/
namespace Go.Proofs.YtohimcpfmkgefaaDoor.HOpenS
open Go.RowKit Go.WideShapes Go.Proofs.YtohimcpfmkgefaaDoorW.PrintWords Go.Proofs.YtohimcpfmkgefaaDoor.HLib Go.Proofs.YtohimcpfmkgefaaDoor.HOpen
set_option linter.unusedVariables false
/-- The fields from place o on read as d. -/
def OpensL {α : Type} (P : Program) (fs : List Field) (o : Nat) (d : Kd α) (ok : α → Prop) (m : α → Nat) : Prop :=
  ∀ {H : Type} (enc : TypeId × Value → H) (w : World) (held : Bool) (n : Nat) (cs : List Value) (xs : List (DataW H × List MemPlace)), cs.length = o + d.sz → xs.length = fs.length →
    (∀ (i : Nat) (f : Field), fs[i]? = some f → DataW.trod enc P w 0 (fun _ => true) held n f.type ((cs.drop f.offset).take (P.cellsOf f.type)) = xs[i]?) →
    ∃ a, d.K w a (cs.drop o) ∧ ok a ∧ m a ≤ Rows.uptoBulkAll (xs.map (·.1))
section
variable {P : Program}
theorem opensL_one {α : Type} {f : Field} {o : Nat} {d : Kd α} {ok : α → Prop} {m : α → Nat} (ho : f.offset = o) (hc : P.cellsOf f.type = d.sz) (h : Opens P f.type d ok m) : OpensL P [f] o d ok m := by
  intro H enc w held n cs xs hl hx hf
  match xs, hx with
  | [x], _ =>
    have h0 := hf 0 f rfl
    rw [hc, ho, List.take_of_length_le (by rw [List.length_drop]; omega)] at h0
    obtain ⟨a, h1, h2, h3⟩ := h enc w held n _ x h0
    exact ⟨a, h1, h2, by simp only [List.map_cons, List.map_nil, Rows.uptoBulkAll]; omega⟩
theorem opensL_cons {α β : Type} {f : Field} {fs : List Field} {o : Nat} {d : Kd α} {d2 : Kd β} {ok : α → Prop} {m : α → Nat} {ok2 : β → Prop} {m2 : β → Nat} (ho : f.offset = o) (hc : P.cellsOf f.type = d.sz) (h : Opens P f.type d ok m)
    (h2 : OpensL P fs (o + d.sz) d2 ok2 m2) : OpensL P (f :: fs) o (Kd.pair d d2) (fun p => ok p.1 ∧ ok2 p.2) (fun p => m p.1 + m2 p.2) := by
  intro H enc w held n cs xs hl hx hf
  have hl' : cs.length = o + (d.sz + d2.sz) := hl
  match xs, hx with
  | x :: xs, hx =>
    have h0 : DataW.trod enc P w 0 (fun _ => true) held n f.type ((cs.drop f.offset).take (P.cellsOf f.type)) = some x := hf 0 f rfl
    rw [hc, ho] at h0
    obtain ⟨a, ha1, ha2, ha3⟩ := h enc w held n _ x h0
    obtain ⟨b, hb1, hb2, hb3⟩ := h2 enc w held n cs xs (by omega) (by simpa using hx) (fun i g hg => hf (i + 1) g hg)
    refine ⟨(a, b), ⟨(cs.drop o).take d.sz, cs.drop (o + d.sz), ?_, ha1, hb1⟩, ⟨ha2, hb2⟩, ?_⟩
    · rw [← List.drop_drop, List.take_append_drop]
    · simp only [List.map_cons, Rows.uptoBulkAll]
      omega
theorem opens_struct {α : Type} {t : TypeId} {fs : Array Field} {d : Kd α} {ok : α → Prop} {m : α → Nat} (ht : P.underlying t = some (.struct fs)) (hc : P.cellsOf t = d.sz) (h : OpensL P fs.toList 0 d ok m) : Opens P t d ok (fun a => m a + 1) := by
  intro H enc w held fuel cs x hx
  obtain ⟨xs, n, _, rfl, hl, hlen, hf⟩ := DataW.trod_struct ht hx
  obtain ⟨a, h1, h2, h3⟩ := h enc w held n cs xs (by rw [hl, hc]; omega) (by simpa using hlen) (fun i f hf' => by
    have := hf i f (by simpa using hf')
    exact this)
  exact ⟨a, by simpa using h1, h2, by simp only [Rows.uptoBulk]; omega⟩
theorem opens_iso {α β : Type} {t : TypeId} {d : Kd α} {ok : α → Prop} {m : α → Nat} (f : β → α) (g : α → β) (hg : ∀ a, f (g a) = a) (h : Opens P t d ok m) : Opens P t (Kd.iso d f) (fun b => ok (f b)) (fun b => m (f b)) := by
  intro H enc w held fuel cs x hx
  obtain ⟨a, h1, h2, h3⟩ := h enc w held fuel cs x hx
  refine ⟨g a, ?_, ?_, ?_⟩
  · show d.K w (f (g a)) cs
    rw [hg]; exact h1
  · show ok (f (g a))
    rw [hg]; exact h2
  · show m (f (g a)) ≤ _
    rw [hg]; exact h3
end
end Go.Proofs.YtohimcpfmkgefaaDoor.HOpenS
/- Expressions that came in, opened. -/
namespace Go.Proofs.YtohimcpfmkgefaaDoor.HExOp
open Go.RowKit Go.WideShapes Go.Proofs.YtohimcpfmkgefaaDoorW.PrintWords Go.Proofs.YtohimcpfmkgefaaDoor.HLib Go.Proofs.YtohimcpfmkgefaaDoor.HOpen Go.Proofs.YtohimcpfmkgefaaDoor.HExP Go.Proofs.YtohimcpfmkgefaaDoor.HExL
open Go.Proofs.YtohimcpfmkgefaaDoor.PSchemaAllows
set_option linter.unusedVariables false
set_option linter.unusedSimpArgs false
theorem str_all {m : Nat} : ∀ {ks : List Ex}, (∀ x ∈ ks, strE m x) → strL m ks
  | [], _ => by rw [strL]; trivial
  | k :: ks, h => by
    rw [strL]
    exact ⟨h k (by simp), str_all fun x hx => h x (by simp [hx])⟩
instance : Inhabited Ex := ⟨⟨0, ByteArray.empty, ByteArray.empty, []⟩⟩
theorem four {cs : List Value} (h : cs.length = 4) {a b c d : Value} (h0 : (cs.drop 0).take 1 = [a]) (h1 : (cs.drop 1).take 1 = [b]) (h2 : (cs.drop 2).take 1 = [c]) (h3 : (cs.drop 3).take 1 = [d]) : cs = [a, b, c, d] := by
  match cs, h with
  | [w, x, y, z], _ =>
    simp at h0 h1 h2 h3
    rw [h0, h1, h2, h3]
set_option maxRecDepth 100000 in
theorem open_fuel : ∀ (fuel : Nat) {H : Type} (enc : TypeId × Value → H) (w : World) (held : Bool) (cs : List Value) (x : DataW H × List MemPlace), DataW.trod enc Tryd.prog w 0 (fun _ => true) held fuel 25 cs = some x → ∃ a : Ex, kE.K w a cs ∧ strE maxLen a := by
  intro fuel
  induction fuel using Nat.strongRecOn with
  | _ fuel ih =>
    intro H enc w held cs x hx
    obtain ⟨xs, n, hn, rfl, hl, hlen, hf⟩ := DataW.trod_struct Tryd.underlying25 hx
    have hc4 : Tryd.prog.cellsOf 25 = 4 := by kernel_rfl
    have hci : Tryd.prog.cellsOf 3 = 1 := by kernel_rfl
    have hcs : Tryd.prog.cellsOf 9 = 1 := by kernel_rfl
    have hck : Tryd.prog.cellsOf 23 = 1 := by kernel_rfl
    rw [hc4] at hl
    match xs, hlen with
    | [x0, x1, x2, x3], _ =>
      have f0 : DataW.trod enc Tryd.prog w 0 (fun _ => true) held n 3 ((cs.drop 0).take (Tryd.prog.cellsOf 3)) = some x0 := hf 0 _ rfl
      have f1 : DataW.trod enc Tryd.prog w 0 (fun _ => true) held n 9 ((cs.drop 1).take (Tryd.prog.cellsOf 9)) = some x1 := hf 1 _ rfl
      have f2 : DataW.trod enc Tryd.prog w 0 (fun _ => true) held n 9 ((cs.drop 2).take (Tryd.prog.cellsOf 9)) = some x2 := hf 2 _ rfl
      have f3 : DataW.trod enc Tryd.prog w 0 (fun _ => true) held n 23 ((cs.drop 3).take (Tryd.prog.cellsOf 23)) = some x3 := hf 3 _ rfl
      rw [hci] at f0
      rw [hcs] at f1 f2
      rw [hck] at f3
      obtain ⟨k, e0, _, _⟩ := DataW.trod_int Tryd.underlying3 f0
      obtain ⟨v, e1, _, l1⟩ := DataW.trod_string Tryd.underlying9 f1
      obtain ⟨nm, e2, _, l2⟩ := DataW.trod_string Tryd.underlying9 f2
      rcases DataW.trod_slice Tryd.underlying23 f3 with ⟨e3, _⟩ | ⟨a, len, cap, elems, rest, q, hq, e3, _, hb, hle, hm, hle2, hel, _, _⟩
      · refine ⟨⟨k, v, nm, []⟩, ?_, by rw [str_eq]; exact ⟨⟨l1, l2⟩, by rw [strL]; trivial⟩⟩
        rw [four hl e0 e1 e2 e3]
        exact k25_mk w ⟨k, v, nm, []⟩ (Nat.le_refl 0) (Kd.C_nil _ _)
      · have each : ∀ i, i < len → ∃ y : Ex, ∃ c : List Value, c.length = 4 ∧ kE.K w y c ∧ strE maxLen y ∧ (∀ j u, c[j]? = some u → w.cell? (a.add (i * 4 + j)) = some u) := by
          intro i hi
          have h1 := hel i hi
          have hi' : i < elems.length := by omega
          rw [List.getElem?_eq_getElem hi'] at h1
          obtain ⟨c, hc1, hc2⟩ := Option.bind_eq_some_iff.1 h1
          obtain ⟨y, hy1, hy2⟩ := ih q (by omega) enc w held c _ hc2
          obtain ⟨hcl, hcc⟩ := cells_get hc1
          refine ⟨y, c, by rw [hcl, hc4], hy1, hy2, fun j u hu => ?_⟩
          have := hcc j u hu
          rw [hc4] at this
          rw [← this]
          congr 1
          rw [Go.Deep.add_add]
        obtain ⟨f, hf2⟩ := Go.Deep.choose_lt each
        have hkl : ((List.range len).map f).length = len := by simp
        refine ⟨⟨k, v, nm, (List.range len).map f⟩, ?_, ?_⟩
        · rw [four hl e0 e1 e2 e3]
          have hC : Kd.C kE w (some a) ((List.range len).map f).length ((List.range len).map f) := by
            refine ⟨rfl, by rw [hkl]; simp [maxLen] at hm; omega, fun hp => ⟨a, rfl, fun j p hj => ?_⟩⟩
            have hjl : j < len := by
              have := (List.getElem?_eq_some_iff.1 hj).1
              rw [hkl] at this
              exact this
            have : f j = p := by simpa [List.getElem?_range hjl] using hj
            subst this
            obtain ⟨c, h1, h2, _, h4⟩ := hf2 j hjl
            exact ⟨c, h1, h2, h4⟩
          have := k25_mk w ⟨k, v, nm, (List.range len).map f⟩ (A3 := some a) (c3 := cap) (by show ((List.range len).map f).length ≤ cap; rw [hkl]; exact hle) hC
          rw [show (⟨k, v, nm, (List.range len).map f⟩ : Ex).f3.length = len from hkl] at this
          exact this
        · rw [str_eq]
          refine ⟨⟨l1, l2⟩, str_all fun y hy => ?_⟩
          simp only [List.mem_map, List.mem_range] at hy
          obtain ⟨i, hi, rfl⟩ := hy
          obtain ⟨c, _, _, h3, _⟩ := hf2 i hi
          exact h3
theorem open_expr : Opens Tryd.prog 25 kE (fun x => strE maxLen x) (fun _ => 0) := by
  intro H enc w held fuel cs x hx
  obtain ⟨a, h1, h2⟩ := open_fuel fuel enc w held cs x hx
  exact ⟨a, h1, h2, Nat.zero_le _⟩
set_option maxRecDepth 100000 in
theorem expr_of {w : World} {base : Nat} {v : Value} {x : Ex} (hv : Value.okWide Tryd.prog w .any base 25 v) (hk : kE.K w x v.cells.toList) : ∃ A c, v = .agg #[.int .i64 x.f0, .string x.f1, .string x.f2, .slice A x.f3.length c] ∧ Rd w A c x := by
  obtain ⟨cs, rfl, hsz⟩ := okWide_struct Tryd.underlying25 hv
  obtain ⟨A, c, e, hl, hC⟩ := k25_open hk
  refine ⟨A, c, ?_, hC, hl⟩
  congr 1
  apply Array.ext'
  exact e
end Go.Proofs.YtohimcpfmkgefaaDoor.HExOp
