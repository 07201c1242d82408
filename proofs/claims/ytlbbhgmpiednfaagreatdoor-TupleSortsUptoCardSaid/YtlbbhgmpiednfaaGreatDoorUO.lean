/- What came in, opened: out of the form's reading of an argument what the kinds (Kd) say of it. -/
import Derived.Test.YtlbbhgmpiednfaaGreatDoorRows
import Derived.Test.YtlbbhgmpiednfaaGreatDoorUT
import Derived.ChangeArms
import Derived.Deep.Slices
import Derived.Test.YtlbbhgmpiednfaaGreatDoorUG
import Derived.Test.YtlbbhgmpiednfaaGreatDoorUV
namespace Go.Proofs.YtlbbhgmpiednfaaGreatDoor.HOpen
open Go.RowKit Go.WideShapes Go.Proofs.YtlbbhgmpiednfaaGreatDoorW.PrintWords Go.Proofs.YtlbbhgmpiednfaaGreatDoor.HLib
set_option linter.unusedVariables false

/-- Type t reads as d; ok: what is told of the value; m: its bulk is at least that. -/
def Opens {α : Type} (P : Program) (t : TypeId) (d : Kd α) (ok : α → Prop) (m : α → Nat) : Prop :=
  ∀ {H : Type} (enc : TypeId × Value → H) (w : World) (held : Bool) (fuel : Nat) (cs : List Value) (x : DataW H × List MemPlace),
    DataW.trod enc P w 0 (fun _ => true) held fuel t cs = some x → ∃ a, d.K w a cs ∧ ok a ∧ m a ≤ Rows.uptoBulk x.1

section
variable {P : Program}

theorem opens_int {t : TypeId} {k : IntKind} (ht : P.underlying t = some (.int k)) : Opens P t (Kd.int k) (fun n => (Lit.int k n).wf = true) (fun _ => 1) := by
  intro H enc w held fuel cs x h
  obtain ⟨n, rfl, rfl, hw⟩ := DataW.trod_int ht h
  exact ⟨n, rfl, hw, by simp [Rows.uptoBulk]⟩

theorem opens_bool {t : TypeId} (ht : P.underlying t = some .bool) : Opens P t Kd.bool (fun _ => True) (fun _ => 1) := by
  intro H enc w held fuel cs x h
  obtain ⟨b, rfl, rfl⟩ := DataW.trod_bool ht h
  exact ⟨b, rfl, trivial, by simp [Rows.uptoBulk]⟩

theorem opens_string {t : TypeId} (ht : P.underlying t = some .string) : Opens P t Kd.string (fun s => s.size ≤ maxLen) (fun s => s.size + 1) := by
  intro H enc w held fuel cs x h
  obtain ⟨s, rfl, rfl, hw⟩ := DataW.trod_string ht h
  refine ⟨s, rfl, hw, ?_⟩
  have e : s.data.toList.length = s.size := by rw [Array.length_toList]; rfl
  simp only [Rows.uptoBulk]
  omega

theorem cells_get {w : World} {base : Nat} {a : Addr} {n : Nat} {c : List Value} (h : w.cells? base a n = some c) : c.length = n ∧ ∀ (i : Nat) (u : Value), c[i]? = some u → w.cell? (a.add i) = some u := by
  unfold World.cells? at h
  split at h
  · have hl : c.length = n := by simpa using mapM_some_length h
    refine ⟨hl, fun i u hu => ?_⟩
    have hi : i < n := by
      have := (List.getElem?_eq_some_iff.1 hu).1
      omega
    have := mapM_some_get h i i (by simp [hi])
    rw [this, hu]
  · cases h

theorem bulkAll_get {H : Type} (l : List (DataW H)) : ∀ (ms : List Nat), ms.length = l.length → (∀ (i : Nat) (m : Nat) (d : DataW H), ms[i]? = some m → l[i]? = some d → m ≤ Rows.uptoBulk d) → ms.sum ≤ Rows.uptoBulkAll l := by
  induction l with
  | nil => intro ms h _; cases ms with
    | nil => simp
    | cons a b => simp at h
  | cons d l ih =>
    intro ms h hm
    cases ms with
    | nil => simp at h
    | cons a b =>
      simp only [List.sum_cons, Rows.uptoBulkAll]
      have h1 := hm 0 a d rfl rfl
      have h2 := ih b (by simpa using h) (fun i m d h1 h2 => hm (i + 1) m d h1 h2)
      omega

theorem opens_slice {α : Type} [Inhabited α] {t e : TypeId} {d : Kd α} {ok : α → Prop} {m : α → Nat} (ht : P.underlying t = some (.slice e)) (hc : P.cellsOf e = d.sz) (h : Opens P e d ok m) :
    Opens P t (Kd.slice e d) (fun xs => (∀ x ∈ xs, ok x) ∧ xs.length ≤ maxLen) (fun xs => (xs.map m).sum + 1) := by
  intro H enc w held fuel cs x hx
  rcases DataW.trod_slice ht hx with ⟨rfl, rfl⟩ | ⟨a, len, cap, elems, rest, n, _, rfl, rfl, hb, hl, hm, hlen, hel, _, _⟩
  · exact ⟨[], ⟨none, 0, rfl, Nat.le_refl _, Kd.C_nil _ _⟩, ⟨(fun x hx => by cases hx), Nat.zero_le _⟩, by simp [Rows.uptoBulk]⟩
  · have each : ∀ i, i < len → ∃ y : α, ∃ c : List Value, c.length = d.sz ∧ d.K w y c ∧ ok y ∧ (∀ j u, c[j]? = some u → w.cell? (a.add (i * d.sz + j)) = some u) ∧ ∀ z, elems[i]? = some z → m y ≤ Rows.uptoBulk z.1 := by
      intro i hi
      have h1 := hel i hi
      have hi' : i < elems.length := by omega
      rw [List.getElem?_eq_getElem hi'] at h1
      obtain ⟨c, hc1, hc2⟩ := Option.bind_eq_some_iff.1 h1
      obtain ⟨y, hy1, hy2, hy3⟩ := h enc w held n c _ hc2
      obtain ⟨hcl, hcc⟩ := cells_get hc1
      refine ⟨y, c, by rw [hcl, hc], hy1, hy2, fun j u hu => ?_, fun z hz => ?_⟩
      · have := hcc j u hu
        rw [hc] at this
        rw [← this]
        congr 1
        rw [Go.Deep.add_add]
      · rw [List.getElem?_eq_getElem hi'] at hz
        injection hz with hz
        rw [← hz]
        exact hy3
    obtain ⟨f, hf⟩ := Go.Deep.choose_lt each
    refine ⟨(List.range len).map f, ⟨some a, cap, by simp, by simpa using hl, ?_⟩, ⟨?_, by simp; omega⟩, ?_⟩
    · refine ⟨by simp, by simp [maxLen] at *; omega, fun hp => ⟨a, rfl, fun j p hj => ?_⟩⟩
      have hjl : j < len := by
        have := (List.getElem?_eq_some_iff.1 hj).1
        simpa using this
      have : f j = p := by simpa [List.getElem?_range hjl] using hj
      subst this
      obtain ⟨c, h1, h2, _, h4, _⟩ := hf j hjl
      exact ⟨c, h1, h2, h4⟩
    · intro x hx
      simp only [List.mem_map, List.mem_range] at hx
      obtain ⟨i, hi, rfl⟩ := hx
      obtain ⟨c, _, _, h3, _⟩ := hf i hi
      exact h3
    · simp only [Rows.uptoBulk]
      have := bulkAll_get (elems.map (·.1)) (((List.range len).map f).map m) (by simp [hlen]) (fun i k z h1 h2 => by
        have hil : i < len := by
          have := (List.getElem?_eq_some_iff.1 h1).1
          simpa using this
        simp [List.getElem?_range hil] at h1
        subst h1
        obtain ⟨c, _, _, _, _, h5⟩ := hf i hil
        simp only [List.getElem?_map, Option.map_eq_some_iff] at h2
        obtain ⟨z', hz', rfl⟩ := h2
        exact h5 z' hz')
      omega
end
end Go.Proofs.YtlbbhgmpiednfaaGreatDoor.HOpen
/- Structs that came in, opened. -/
namespace Go.Proofs.YtlbbhgmpiednfaaGreatDoor.HOpenS
open Go.RowKit Go.WideShapes Go.Proofs.YtlbbhgmpiednfaaGreatDoorW.PrintWords Go.Proofs.YtlbbhgmpiednfaaGreatDoor.HLib Go.Proofs.YtlbbhgmpiednfaaGreatDoor.HOpen
set_option linter.unusedVariables false
/-- The fields from place o on read as d. -/
def OpensL {α : Type} (P : Program) (fs : List Field) (o : Nat) (d : Kd α) (ok : α → Prop) (m : α → Nat) : Prop :=
  ∀ {H : Type} (enc : TypeId × Value → H) (w : World) (held : Bool) (n : Nat) (cs : List Value) (xs : List (DataW H × List MemPlace)), cs.length = o + d.sz → xs.length = fs.length →
    (∀ (i : Nat) (f : Field), fs[i]? = some f → DataW.trod enc P w 0 (fun _ => true) held n f.type ((cs.drop f.offset).take (P.cellsOf f.type)) = xs[i]?) →
    ∃ a, d.K w a (cs.drop o) ∧ ok a ∧ m a ≤ Rows.uptoBulkAll (xs.map (·.1))
section
variable {P : Program}
theorem opensL_one {α : Type} {f : Field} {o : Nat} {d : Kd α} {ok : α → Prop} {m : α → Nat} (ho : f.offset = o) (hc : P.cellsOf f.type = d.sz) (h : Opens P f.type d ok m) : OpensL P [f] o d ok m := by
  intro H enc w held n cs xs hl hx hf
  match xs, hx with
  | [x], _ =>
    have h0 := hf 0 f rfl
    rw [hc, ho, List.take_of_length_le (by rw [List.length_drop]; omega)] at h0
    obtain ⟨a, h1, h2, h3⟩ := h enc w held n _ x h0
    exact ⟨a, h1, h2, by simp only [List.map_cons, List.map_nil, Rows.uptoBulkAll]; omega⟩
theorem opensL_cons {α β : Type} {f : Field} {fs : List Field} {o : Nat} {d : Kd α} {d2 : Kd β} {ok : α → Prop} {m : α → Nat} {ok2 : β → Prop} {m2 : β → Nat} (ho : f.offset = o) (hc : P.cellsOf f.type = d.sz) (h : Opens P f.type d ok m)
    (h2 : OpensL P fs (o + d.sz) d2 ok2 m2) : OpensL P (f :: fs) o (Kd.pair d d2) (fun p => ok p.1 ∧ ok2 p.2) (fun p => m p.1 + m2 p.2) := by
  intro H enc w held n cs xs hl hx hf
  have hl' : cs.length = o + (d.sz + d2.sz) := hl
  match xs, hx with
  | x :: xs, hx =>
    have h0 : DataW.trod enc P w 0 (fun _ => true) held n f.type ((cs.drop f.offset).take (P.cellsOf f.type)) = some x := hf 0 f rfl
    rw [hc, ho] at h0
    obtain ⟨a, ha1, ha2, ha3⟩ := h enc w held n _ x h0
    obtain ⟨b, hb1, hb2, hb3⟩ := h2 enc w held n cs xs (by omega) (by simpa using hx) (fun i g hg => hf (i + 1) g hg)
    refine ⟨(a, b), ⟨(cs.drop o).take d.sz, cs.drop (o + d.sz), ?_, ha1, hb1⟩, ⟨ha2, hb2⟩, ?_⟩
    · rw [← List.drop_drop, List.take_append_drop]
    · simp only [List.map_cons, Rows.uptoBulkAll]
      omega
theorem opens_struct {α : Type} {t : TypeId} {fs : Array Field} {d : Kd α} {ok : α → Prop} {m : α → Nat} (ht : P.underlying t = some (.struct fs)) (hc : P.cellsOf t = d.sz) (h : OpensL P fs.toList 0 d ok m) : Opens P t d ok (fun a => m a + 1) := by
  intro H enc w held fuel cs x hx
  obtain ⟨xs, n, _, rfl, hl, hlen, hf⟩ := DataW.trod_struct ht hx
  obtain ⟨a, h1, h2, h3⟩ := h enc w held n cs xs (by rw [hl, hc]; omega) (by simpa using hlen) (fun i f hf' => by
    have := hf i f (by simpa using hf')
    exact this)
  exact ⟨a, by simpa using h1, h2, by simp only [Rows.uptoBulk]; omega⟩
theorem opens_iso {α β : Type} {t : TypeId} {d : Kd α} {ok : α → Prop} {m : α → Nat} (f : β → α) (g : α → β) (hg : ∀ a, f (g a) = a) (h : Opens P t d ok m) : Opens P t (Kd.iso d f) (fun b => ok (f b)) (fun b => m (f b)) := by
  intro H enc w held fuel cs x hx
  obtain ⟨a, h1, h2, h3⟩ := h enc w held fuel cs x hx
  refine ⟨g a, ?_, ?_, ?_⟩
  · show d.K w (f (g a)) cs
    rw [hg]; exact h1
  · show ok (f (g a))
    rw [hg]; exact h2
  · show m (f (g a)) ≤ _
    rw [hg]; exact h3
end
end Go.Proofs.YtlbbhgmpiednfaaGreatDoor.HOpenS
/- Tuples that came in, opened. -/
namespace Go.Proofs.YtlbbhgmpiednfaaGreatDoor.HTupOp
open Go.RowKit Go.WideShapes Go.Proofs.YtlbbhgmpiednfaaGreatDoorW.PrintWords Go.Proofs.YtlbbhgmpiednfaaGreatDoor.HLib Go.Proofs.YtlbbhgmpiednfaaGreatDoor.HOpen Go.Proofs.YtlbbhgmpiednfaaGreatDoor.HOpenS Go.Proofs.YtlbbhgmpiednfaaGreatDoor.HTupP Go.Proofs.YtlbbhgmpiednfaaGreatDoor.HTupR Go.Proofs.YtlbbhgmpiednfaaGreatDoor.HTupG Go.Proofs.YtlbbhgmpiednfaaGreatDoor.PTupleSorts
set_option linter.unusedVariables false
set_option linter.unusedSimpArgs false
theorem opens_weak {α : Type} {P : Program} {t : TypeId} {d : Kd α} {ok ok' : α → Prop} {m m' : α → Nat} (h : Opens P t d ok m) (h1 : ∀ a, ok a → ok' a) (h2 : ∀ a, m' a ≤ m a) : Opens P t d ok' m' := by
  intro H enc w held fuel cs x hx
  obtain ⟨a, k1, k2, k3⟩ := h enc w held fuel cs x hx
  exact ⟨a, k1, h1 a k2, Nat.le_trans (h2 a) k3⟩
def sz32 (x : S32) : Nat := x.f0.f0.size + x.f0.f1.size + x.f1.size + x.f2.f0.size + x.f2.f1.size + x.f3.size
theorem open_obj : Opens Tryz.prog 30 k30 (fun x => x.f0.size ≤ maxLen ∧ x.f1.size ≤ maxLen) (fun x => ((x.f0.size + 1) + (x.f1.size + 1)) + 1) := by
  refine opens_iso (ok := fun p : ByteArray × ByteArray => p.1.size ≤ maxLen ∧ p.2.size ≤ maxLen) (m := fun p => ((p.1.size + 1) + (p.2.size + 1)) + 1) (fun x : S30 => (x.f0, x.f1)) (fun p => ⟨p.1, p.2⟩) (fun _ => rfl) ?_
  refine opens_struct (m := fun p : ByteArray × ByteArray => (p.1.size + 1) + (p.2.size + 1)) Tryz.underlying30 (by kernel_rfl) ?_
  show OpensL _ (_ :: _ :: []) 0 _ _ _
  refine opensL_cons (ok := fun s : ByteArray => s.size ≤ maxLen) (m := fun s => s.size + 1) (ok2 := fun s : ByteArray => s.size ≤ maxLen) (m2 := fun s => s.size + 1) ?ho0 ?hc0 (opens_string Tryz.underlying9) ?hn0
  case ho0 => rfl
  case hc0 => kernel_rfl
  refine opensL_one (ok := fun s : ByteArray => s.size ≤ maxLen) (m := fun s => s.size + 1) ?ho1 ?hc1 (opens_string Tryz.underlying9)
  case ho1 => rfl
  case hc1 => kernel_rfl
theorem open_tup0 : Opens Tryz.prog 32 k32 (fun x => (x.f0.f0.size ≤ maxLen ∧ x.f0.f1.size ≤ maxLen) ∧ x.f1.size ≤ maxLen ∧ (x.f2.f0.size ≤ maxLen ∧ x.f2.f1.size ≤ maxLen) ∧ x.f3.size ≤ maxLen)
    (fun x => ((((x.f0.f0.size + 1) + (x.f0.f1.size + 1)) + 1) + ((x.f1.size + 1) + ((((x.f2.f0.size + 1) + (x.f2.f1.size + 1)) + 1) + (x.f3.size + 1)))) + 1) := by
  refine opens_iso (ok := fun p : S30 × ByteArray × S30 × ByteArray => (p.1.f0.size ≤ maxLen ∧ p.1.f1.size ≤ maxLen) ∧ p.2.1.size ≤ maxLen ∧ (p.2.2.1.f0.size ≤ maxLen ∧ p.2.2.1.f1.size ≤ maxLen) ∧ p.2.2.2.size ≤ maxLen)
    (m := fun p => ((((p.1.f0.size + 1) + (p.1.f1.size + 1)) + 1) + ((p.2.1.size + 1) + ((((p.2.2.1.f0.size + 1) + (p.2.2.1.f1.size + 1)) + 1) + (p.2.2.2.size + 1)))) + 1) (fun x : S32 => (x.f0, x.f1, x.f2, x.f3)) (fun p => ⟨p.1, p.2.1, p.2.2.1, p.2.2.2⟩) (fun _ => rfl) ?_
  refine opens_struct (m := fun p : S30 × ByteArray × S30 × ByteArray => (((p.1.f0.size + 1) + (p.1.f1.size + 1)) + 1) + ((p.2.1.size + 1) + ((((p.2.2.1.f0.size + 1) + (p.2.2.1.f1.size + 1)) + 1) + (p.2.2.2.size + 1)))) Tryz.underlying32 (by kernel_rfl) ?_
  show OpensL _ (_ :: _ :: _ :: _ :: []) 0 _ _ _
  refine opensL_cons (ok := fun x : S30 => x.f0.size ≤ maxLen ∧ x.f1.size ≤ maxLen) (m := fun x => ((x.f0.size + 1) + (x.f1.size + 1)) + 1) (ok2 := fun p : ByteArray × S30 × ByteArray => p.1.size ≤ maxLen ∧ (p.2.1.f0.size ≤ maxLen ∧ p.2.1.f1.size ≤ maxLen) ∧ p.2.2.size ≤ maxLen)
    (m2 := fun p => (p.1.size + 1) + ((((p.2.1.f0.size + 1) + (p.2.1.f1.size + 1)) + 1) + (p.2.2.size + 1))) ?ho0 ?hc0 open_obj ?hn0
  case ho0 => rfl
  case hc0 => kernel_rfl
  refine opensL_cons (ok := fun s : ByteArray => s.size ≤ maxLen) (m := fun s => s.size + 1) (ok2 := fun p : S30 × ByteArray => (p.1.f0.size ≤ maxLen ∧ p.1.f1.size ≤ maxLen) ∧ p.2.size ≤ maxLen) (m2 := fun p => (((p.1.f0.size + 1) + (p.1.f1.size + 1)) + 1) + (p.2.size + 1)) ?ho1 ?hc1 (opens_string Tryz.underlying9) ?hn1
  case ho1 => rfl
  case hc1 => kernel_rfl
  refine opensL_cons (ok := fun x : S30 => x.f0.size ≤ maxLen ∧ x.f1.size ≤ maxLen) (m := fun x => ((x.f0.size + 1) + (x.f1.size + 1)) + 1) (ok2 := fun s : ByteArray => s.size ≤ maxLen) (m2 := fun s => s.size + 1) ?ho2 ?hc2 open_obj ?hn2
  case ho2 => rfl
  case hc2 => kernel_rfl
  refine opensL_one (ok := fun s : ByteArray => s.size ≤ maxLen) (m := fun s => s.size + 1) ?ho3 ?hc3 (opens_string Tryz.underlying9)
  case ho3 => rfl
  case hc3 => kernel_rfl
theorem sz_le (a b c d e f : Nat) : a + b + c + d + e + f + 1 ≤ ((((a + 1) + (b + 1)) + 1) + ((c + 1) + ((((d + 1) + (e + 1)) + 1) + (f + 1)))) + 1 := by omega
theorem open_tup : Opens Tryz.prog 32 k32 (fun _ => True) (fun x => sz32 x + 1) := by
  intro H enc w held fuel cs x hx
  obtain ⟨a, k1, k2, k3⟩ := open_tup0 enc w held fuel cs x hx
  exact ⟨a, k1, trivial, Nat.le_trans (sz_le a.f0.f0.size a.f0.f1.size a.f1.size a.f2.f0.size a.f2.f1.size a.f3.size) k3⟩
instance : Inhabited S32 := ⟨z32⟩
theorem open_tups : Opens Tryz.prog 22 (Kd.slice 32 k32) (fun xs => xs.length ≤ maxLen) (fun xs => (xs.map fun x => sz32 x + 1).sum + 1) := by
  intro H enc w held fuel cs x hx
  obtain ⟨a, k1, k2, k3⟩ := opens_slice Tryz.underlying22 (by kernel_rfl) open_tup enc w held fuel cs x hx
  exact ⟨a, k1, k2.2, k3⟩
def tp (x : S32) : Tp := ⟨x.f0.f0, x.f0.f1, x.f1, x.f2.f0, x.f2.f1, x.f3⟩
set_option maxRecDepth 100000 in
theorem tup_of {w : World} {base : Nat} {v : Value} {x : S32} (hv : Value.okWide Tryz.prog w .any base 32 v) (hk : k32.K w x v.cells.toList) : v = tvv (tp x) := by
  obtain ⟨cs, rfl, hsz⟩ := okWide_struct Tryz.underlying32 hv
  have e := k32_open hk
  congr 1
  apply Array.ext'
  exact e
end Go.Proofs.YtlbbhgmpiednfaaGreatDoor.HTupOp
