/- What came in, opened: out of the form's reading of an argument what the kinds (Kd) say of it. -/
import Derived.Test.YtogimlinfkbapaaDoorRows
import Derived.Test.YtogimlinfkbapaaDoorUA
import Derived.ChangeArms
import Derived.Deep.Slices
import Derived.Test.YtogimlinfkbapaaDoorUH
import Derived.OpenShut
import Derived.ChangeOld
import Derived.Lib.SmallJoins
import Derived.Lib.LaidTab
import Derived.LaidHandle
import Derived.Test.YtogimlinfkbapaaDoorUB
import Derived.Test.YtogimlinfkbapaaDoorUC
namespace Go.Proofs.YtogimlinfkbapaaDoor.HOpen
open Go.RowKit Go.WideShapes Go.Proofs.YtogimlinfkbapaaDoorW.PrintWords Go.Proofs.YtogimlinfkbapaaDoor.HLib
set_option linter.unusedVariables false

/-- Type t reads as d; ok: what is told of the value; m: its bulk is at least that. -/
def Opens {α : Type} (P : Program) (t : TypeId) (d : Kd α) (ok : α → Prop) (m : α → Nat) : Prop :=
  ∀ {H : Type} (enc : TypeId × Value → H) (w : World) (held : Bool) (fuel : Nat) (cs : List Value) (x : DataW H × List MemPlace),
    DataW.trod enc P w 0 (fun _ => true) held fuel t cs = some x → ∃ a, d.K w a cs ∧ ok a ∧ m a ≤ Rows.uptoBulk x.1

section
variable {P : Program}

theorem opens_int {t : TypeId} {k : IntKind} (ht : P.underlying t = some (.int k)) : Opens P t (Kd.int k) (fun n => (Lit.int k n).wf = true) (fun _ => 1) := by
  intro H enc w held fuel cs x h
  obtain ⟨n, rfl, rfl, hw⟩ := DataW.trod_int ht h
  exact ⟨n, rfl, hw, by simp [Rows.uptoBulk]⟩

theorem opens_bool {t : TypeId} (ht : P.underlying t = some .bool) : Opens P t Kd.bool (fun _ => True) (fun _ => 1) := by
  intro H enc w held fuel cs x h
  obtain ⟨b, rfl, rfl⟩ := DataW.trod_bool ht h
  exact ⟨b, rfl, trivial, by simp [Rows.uptoBulk]⟩

theorem opens_string {t : TypeId} (ht : P.underlying t = some .string) : Opens P t Kd.string (fun s => s.size ≤ maxLen) (fun s => s.size + 1) := by
  intro H enc w held fuel cs x h
  obtain ⟨s, rfl, rfl, hw⟩ := DataW.trod_string ht h
  refine ⟨s, rfl, hw, ?_⟩
  have e : s.data.toList.length = s.size := by rw [Array.length_toList]; rfl
  simp only [Rows.uptoBulk]
  omega

theorem cells_get {w : World} {base : Nat} {a : Addr} {n : Nat} {c : List Value} (h : w.cells? base a n = some c) : c.length = n ∧ ∀ (i : Nat) (u : Value), c[i]? = some u → w.cell? (a.add i) = some u := by
  unfold World.cells? at h
  split at h
  · have hl : c.length = n := by simpa using mapM_some_length h
    refine ⟨hl, fun i u hu => ?_⟩
    have hi : i < n := by
      have := (List.getElem?_eq_some_iff.1 hu).1
      omega
    have := mapM_some_get h i i (by simp [hi])
    rw [this, hu]
  · cases h

theorem bulkAll_get {H : Type} (l : List (DataW H)) : ∀ (ms : List Nat), ms.length = l.length → (∀ (i : Nat) (m : Nat) (d : DataW H), ms[i]? = some m → l[i]? = some d → m ≤ Rows.uptoBulk d) → ms.sum ≤ Rows.uptoBulkAll l := by
  induction l with
  | nil => intro ms h _; cases ms with
    | nil => simp
    | cons a b => simp at h
  | cons d l ih =>
    intro ms h hm
    cases ms with
    | nil => simp at h
    | cons a b =>
      simp only [List.sum_cons, Rows.uptoBulkAll]
      have h1 := hm 0 a d rfl rfl
      have h2 := ih b (by simpa using h) (fun i m d h1 h2 => hm (i + 1) m d h1 h2)
      omega

theorem opens_slice {α : Type} [Inhabited α] {t e : TypeId} {d : Kd α} {ok : α → Prop} {m : α → Nat} (ht : P.underlying t = some (.slice e)) (hc : P.cellsOf e = d.sz) (h : Opens P e d ok m) :
    Opens P t (Kd.slice e d) (fun xs => (∀ x ∈ xs, ok x) ∧ xs.length ≤ maxLen) (fun xs => (xs.map m).sum + 1) := by
  intro H enc w held fuel cs x hx
  rcases DataW.trod_slice ht hx with ⟨rfl, rfl⟩ | ⟨a, len, cap, elems, rest, n, _, rfl, rfl, hb, hl, hm, hlen, hel, _, _⟩
  · exact ⟨[], ⟨none, 0, rfl, Nat.le_refl _, Kd.C_nil _ _⟩, ⟨(fun x hx => by cases hx), Nat.zero_le _⟩, by simp [Rows.uptoBulk]⟩
  · have each : ∀ i, i < len → ∃ y : α, ∃ c : List Value, c.length = d.sz ∧ d.K w y c ∧ ok y ∧ (∀ j u, c[j]? = some u → w.cell? (a.add (i * d.sz + j)) = some u) ∧ ∀ z, elems[i]? = some z → m y ≤ Rows.uptoBulk z.1 := by
      intro i hi
      have h1 := hel i hi
      have hi' : i < elems.length := by omega
      rw [List.getElem?_eq_getElem hi'] at h1
      obtain ⟨c, hc1, hc2⟩ := Option.bind_eq_some_iff.1 h1
      obtain ⟨y, hy1, hy2, hy3⟩ := h enc w held n c _ hc2
      obtain ⟨hcl, hcc⟩ := cells_get hc1
      refine ⟨y, c, by rw [hcl, hc], hy1, hy2, fun j u hu => ?_, fun z hz => ?_⟩
      · have := hcc j u hu
        rw [hc] at this
        rw [← this]
        congr 1
        rw [Go.Deep.add_add]
      · rw [List.getElem?_eq_getElem hi'] at hz
        injection hz with hz
        rw [← hz]
        exact hy3
    obtain ⟨f, hf⟩ := Go.Deep.choose_lt each
    refine ⟨(List.range len).map f, ⟨some a, cap, by simp, by simpa using hl, ?_⟩, ⟨?_, by simp; omega⟩, ?_⟩
    · refine ⟨by simp, by simp [maxLen] at *; omega, fun hp => ⟨a, rfl, fun j p hj => ?_⟩⟩
      have hjl : j < len := by
        have := (List.getElem?_eq_some_iff.1 hj).1
        simpa using this
      have : f j = p := by simpa [List.getElem?_range hjl] using hj
      subst this
      obtain ⟨c, h1, h2, _, h4, _⟩ := hf j hjl
      exact ⟨c, h1, h2, h4⟩
    · intro x hx
      simp only [List.mem_map, List.mem_range] at hx
      obtain ⟨i, hi, rfl⟩ := hx
      obtain ⟨c, _, _, h3, _⟩ := hf i hi
      exact h3
    · simp only [Rows.uptoBulk]
      have := bulkAll_get (elems.map (·.1)) (((List.range len).map f).map m) (by simp [hlen]) (fun i k z h1 h2 => by
        have hil : i < len := by
          have := (List.getElem?_eq_some_iff.1 h1).1
          simpa using this
        simp [List.getElem?_range hil] at h1
        subst h1
        obtain ⟨c, _, _, _, _, h5⟩ := hf i hil
        simp only [List.getElem?_map, Option.map_eq_some_iff] at h2
        obtain ⟨z', hz', rfl⟩ := h2
        exact h5 z' hz')
      omega
end
end Go.Proofs.YtogimlinfkbapaaDoor.HOpen
/- Zookies that came in, opened. -/
namespace Go.Proofs.YtogimlinfkbapaaDoor.HZookO
open Go.RowKit Go.ChangeShapes Go.WideShapes Go.Proofs.YtogimlinfkbapaaDoorW.PrintWords Go.Proofs.YtogimlinfkbapaaDoor.HLib Go.Proofs.YtogimlinfkbapaaDoor.HOpen Go.Proofs.YtogimlinfkbapaaDoor.HZook Go.Joins
set_option linter.unusedVariables false
set_option maxRecDepth 100000

theorem arr_of_trod {H : Type} {enc : TypeId × Value → H} {P : Program} {w : World} {base : Nat} {spare : Nat → Bool} {held : Bool} {t e : TypeId} {n : Nat} {k : IntKind} {cs : List Value} {x : DataW H × List MemPlace} {fuel : Nat}
    (ht : P.underlying t = some (.array n e)) (he : P.underlying e = some (.int k)) (hce : P.cellsOf e = 1) (hcl : cs.length = n) (hf : DataW.trod enc P w base spare held fuel t cs = some x) :
    ∃ zs : List Int, zs.length = n ∧ cs = nums k zs ∧ ∀ z ∈ zs, (Lit.int k z).wf = true := by
  obtain ⟨d, ps⟩ := x
  obtain ⟨xs, m, rfl, hx, hl, hxl, hel⟩ := DataW.trod_array ht hf
  have each : ∀ i, i < n → ∃ z : Int, cs[i]? = some (.int k z) ∧ (Lit.int k z).wf = true := by
    intro i hi
    have h1 := hel i hi
    rw [hce, Nat.mul_one, List.getElem?_eq_getElem (show i < xs.length by omega)] at h1
    obtain ⟨z, hz, _, hw⟩ := DataW.trod_int he h1
    refine ⟨z, ?_, hw⟩
    have h2 : ((cs.drop i).take 1)[0]? = some (.int k z) := by rw [show (cs.drop i).take 1 = [.int k z] from hz]; rfl
    rwa [List.getElem?_take_of_lt (by decide), List.getElem?_drop, Nat.add_zero] at h2
  obtain ⟨f, hf2⟩ : ∃ f : Nat → Int, ∀ i, i < n → cs[i]? = some (.int k (f i)) ∧ (Lit.int k (f i)).wf = true :=
    ⟨fun i => if h : i < n then (each i h).choose else 0, fun i hi => by
      simp only [dif_pos hi]
      exact (each i hi).choose_spec⟩
  refine ⟨(List.range n).map f, by simp, ?_, ?_⟩
  · apply List.ext_getElem?
    intro i
    by_cases hi : i < n
    · rw [(hf2 i hi).1]
      simp [nums, List.getElem?_range hi]
    · rw [List.getElem?_eq_none (by omega)]
      exact (List.getElem?_eq_none (by simp only [nums, List.length_map, List.length_range]; omega)).symm
  · intro z hz
    obtain ⟨i, hi, rfl⟩ := List.mem_map.1 hz
    exact (hf2 i (List.mem_range.1 hi)).2

abbrev Zk := Int × Int × List Int
/-- These cells are a zookie. -/
def KZ (w : World) (x : Zk) (cs : List Value) : Prop := cs = (.int .u8 x.1 :: .int .u64 x.2.1 :: nums .u8 x.2.2) ∧ x.2.2.length = 32
def OK (x : Zk) : Prop := (Lit.int .u8 x.1).wf = true ∧ (Lit.int .u64 x.2.1).wf = true ∧ ∀ z ∈ x.2.2, (Lit.int .u8 z).wf = true
theorem c_u8 : Tryd.prog.cellsOf 5 = 1 := by kernel_rfl
theorem c_u64 : Tryd.prog.cellsOf 23 = 1 := by kernel_rfl
theorem c_dg : Tryd.prog.cellsOf 24 = 32 := by kernel_rfl
theorem c_zk : Tryd.prog.cellsOf 26 = 34 := by kernel_rfl

theorem open_zk {H : Type} (enc : TypeId × Value → H) (w : World) (held : Bool) (fuel : Nat) (cs : List Value) (x : DataW H × List MemPlace)
    (h : DataW.trod enc Tryd.prog w 0 (fun _ => true) held fuel 26 cs = some x) : ∃ a : Zk, KZ w a cs ∧ OK a ∧ (0 : Nat) ≤ Rows.uptoBulk x.1 := by
  obtain ⟨xs, n, _, rfl, hl, hlen, hf⟩ := DataW.trod_struct Tryd.underlying26 h
  rw [c_zk] at hl
  have h0 := hf 0 _ rfl
  have h1 := hf 1 _ rfl
  have h2 := hf 2 _ rfl
  match cs, hl with
  | v0 :: v1 :: rest, hl =>
    have hr : rest.length = 32 := by simpa using hl
    match xs, hlen with
    | [y0, y1, y2], _ =>
      have h0 : DataW.trod enc Tryd.prog w 0 (fun _ => true) held n 5 (((v0 :: v1 :: rest).drop 0).take (Tryd.prog.cellsOf 5)) = some y0 := h0
      rw [c_u8] at h0
      have h1 : DataW.trod enc Tryd.prog w 0 (fun _ => true) held n 23 (((v0 :: v1 :: rest).drop 1).take (Tryd.prog.cellsOf 23)) = some y1 := h1
      rw [c_u64] at h1
      have h2 : DataW.trod enc Tryd.prog w 0 (fun _ => true) held n 24 (((v0 :: v1 :: rest).drop 2).take (Tryd.prog.cellsOf 24)) = some y2 := h2
      rw [c_dg, List.drop_succ_cons, List.drop_succ_cons, List.drop_zero, List.take_of_length_le (by omega)] at h2
      obtain ⟨v, e0, _, wv⟩ := DataW.trod_int Tryd.underlying5 (show DataW.trod enc Tryd.prog w 0 (fun _ => true) held n 5 [v0] = some y0 from h0)
      obtain ⟨r, e1, _, wr⟩ := DataW.trod_int Tryd.underlying23 (show DataW.trod enc Tryd.prog w 0 (fun _ => true) held n 23 [v1] = some y1 from h1)
      obtain ⟨d, hd, e2, wd⟩ := arr_of_trod Tryd.underlying24 Tryd.underlying5 c_u8 hr h2
      injection e0 with e0 _
      injection e1 with e1 _
      subst e0 e1
      exact ⟨(v, r, d), ⟨by rw [e2], hd⟩, ⟨wv, wr, wd⟩, Nat.zero_le _⟩
/-- The value of a zookie. -/
theorem zk_of {w : World} {base : Nat} {v : Value} {x : Zk} (hv : Value.okWide Tryd.prog w .any base 26 v) (hk : KZ w x v.cells.toList) : v = zk x.1 x.2.1 x.2.2 := by
  obtain ⟨cs, rfl, hsz⟩ := okWide_struct Tryd.underlying26 hv
  congr 1
  apply Array.ext'
  exact hk.1
end Go.Proofs.YtogimlinfkbapaaDoor.HZookO
/- Listed variables: out of a row's condition what the walks ask of memory. -/
namespace Go.Proofs.YtogimlinfkbapaaDoor.HLaid
open Go.WideShapes Go.ChangeShapes
set_option linter.unusedVariables false

theorem vars_at {P : Program} {w : World} {n : String} {d : DataW Unit} : ∀ {l : List (String × DataW Unit)} {ps : List MemPlace}, DataW.LaidVars P w l ps → (n, d) ∈ l →
    ∃ g t cs fuel p, P.globalNamed n = some g ∧ (P.globals[g]?).map (·.type) = some t ∧ w.var? P n = some cs ∧ DataW.trod (fun _ => ()) P w 0 (fun _ => true) false fuel t cs.toList = some (d, p)
  | [], _, _, h => by cases h
  | (n', d') :: r, ps, hl, h => by
    obtain ⟨g, t, cs, fuel, p, q, h1, h2, h3, h4, h5, _⟩ := hl
    rcases List.mem_cons.1 h with e | h
    · injection e with e1 e2
      subst e1 e2
      exact ⟨g, t, cs, fuel, p, h1, h2, h3, h4⟩
    · exact vars_at h5 h
theorem tab_is {P : Program} {W : World} {name : String} {k : IntKind} {zs : List Int} {l : List (String × DataW Unit)} {g : Nat} {t e : TypeId} {n : Nat}
    (hg : P.globalNamed name = some g) (hty : (P.globals[g]?).map (·.type) = some t) (ht : P.underlying t = some (.array n e)) (he : P.underlying e = some (.int k)) (hce : P.cellsOf e = 1) (hct : P.cellsOf t = n)
    (h : laidMet P l W) (hm : (name, Lib.tabData k zs) ∈ l) : Lib.TabIs P W name k zs := by
  obtain ⟨ps, hv, _⟩ := h
  obtain ⟨g', t', cs, fuel, p, hg', ht', hvar, hd⟩ := vars_at hv hm
  obtain rfl := Option.some.inj (hg.symm.trans hg')
  obtain rfl := Option.some.inj (hty.symm.trans ht')
  unfold Lib.TabIs
  rw [hvar, ← Lib.cells_of_tab ht he hce hct hd]
theorem tab_at {P : Program} {W : World} {name : String} {k : IntKind} {zs : List Int} {l : List (String × DataW Unit)} {g : Nat} {t e : TypeId} {n : Nat}
    (hg : P.globalNamed name = some g) (hty : (P.globals[g]?).map (·.type) = some t) (ht : P.underlying t = some (.array n e)) (he : P.underlying e = some (.int k)) (hce : P.cellsOf e = 1) (hct : P.cellsOf t = n)
    (h : laidMet P l W) (hm : (name, Lib.tabData k zs) ∈ l) (i : Nat) (hi : i < zs.length) : W.cell? ⟨g, i, none⟩ = some (.int k (zs.getD i 0)) := by
  obtain ⟨ps, hv, _⟩ := h
  obtain ⟨g', t', cs, fuel, p, hg', ht', hvar, hd⟩ := vars_at hv hm
  obtain rfl := Option.some.inj (hg.symm.trans hg')
  obtain rfl := Option.some.inj (hty.symm.trans ht')
  have : Lib.TabIs P W name k zs := by
    unfold Lib.TabIs
    rw [hvar, ← Lib.cells_of_tab ht he hce hct hd]
  exact this.cell hg i hi
def strData {H : Type} (zs : List ByteArray) : DataW H := .agg (zs.map fun z => .lit (.string z.data.toList))
theorem cells_of_strs {H : Type} {enc : TypeId × Value → H} {P : Program} {w : World} {base : Nat} {sp : Nat → Bool} {held : Bool} {fuel : Nat} {t e : TypeId} {n : Nat} {cs : List Value} {zs : List ByteArray} {p : List MemPlace}
    (ht : P.underlying t = some (.array n e)) (he : P.underlying e = some .string) (hce : P.cellsOf e = 1) (hct : P.cellsOf t = n)
    (h : DataW.trod enc P w base sp held fuel t cs = some (strData zs, p)) : cs = zs.map fun z => Value.string z := by
  cases fuel with
  | zero => simp [DataW.trod] at h
  | succ fuel =>
    simp only [DataW.trod, ht, hce, hct, Nat.mul_one] at h
    split at h
    · rename_i hl
      obtain ⟨xs, hm, hx⟩ := Option.map_eq_some_iff.1 h
      have hxs : xs.map (·.1) = zs.map fun z => (DataW.lit (.string z.data.toList) : DataW H) := by
        have := congrArg Prod.fst hx
        simpa [strData] using this
      have hxl : xs.length = n := by simpa using Lib.mapM_length hm
      have hzl : zs.length = n := by
        have := congrArg List.length hxs
        simp at this
        omega
      apply List.ext_getElem?
      intro i
      by_cases hi : i < n
      · obtain ⟨b, hb, hf⟩ := Lib.mapM_at hm i i (by simp [hi])
        obtain ⟨z, hc, rfl, _⟩ := DataW.trod_string he hf
        have h1 : cs[i]? = some (.string z) := by
          have := congrArg (·[0]?) hc
          simpa [List.getElem?_take, List.getElem?_drop] using this
        have h2 : (xs.map (·.1))[i]? = some (DataW.lit (.string z.data.toList) : DataW H) := by simp [hb]
        rw [hxs] at h2
        simp only [List.getElem?_map, Option.map_eq_some_iff, DataW.lit.injEq, Lit.string.injEq] at h2
        obtain ⟨z', hz', hzz⟩ := h2
        have : z' = z := ByteArray.ext (Array.toList_inj.mp hzz)
        subst this
        simp [h1, hz']
      · rw [List.getElem?_eq_none (by omega), List.getElem?_eq_none (by simp; omega)]
    · cases h
theorem strs_at {P : Program} {W : World} {name : String} {zs : List ByteArray} {l : List (String × DataW Unit)} {g : Nat} {t e : TypeId} {n : Nat}
    (hg : P.globalNamed name = some g) (hty : (P.globals[g]?).map (·.type) = some t) (ht : P.underlying t = some (.array n e)) (he : P.underlying e = some .string) (hce : P.cellsOf e = 1) (hct : P.cellsOf t = n)
    (h : laidMet P l W) (hm : (name, strData zs) ∈ l) (i : Nat) (hi : i < zs.length) : W.cell? ⟨g, i, none⟩ = some (.string (zs.getD i ByteArray.empty)) := by
  obtain ⟨ps, hv, _⟩ := h
  obtain ⟨g', t', cs, fuel, p, hg', ht', hvar, hd⟩ := vars_at hv hm
  obtain rfl := Option.some.inj (hg.symm.trans hg')
  obtain rfl := Option.some.inj (hty.symm.trans ht')
  have e := cells_of_strs ht he hce hct hd
  have := World.var?_cell hg hvar i
  rw [this]
  have e2 : cs = (zs.map fun z => Value.string z).toArray := by rw [← e]
  rw [e2]
  simp [List.getD, hi]
theorem size_of_cell {W : World} {g i : Nat} {v : Value} (h : W.cell? ⟨g, i, none⟩ = some v) : g < W.heap.size := by
  apply Classical.byContradiction
  intro hn
  simp [World.cell?, Array.getElem?_eq_none (show W.heap.size ≤ g from by omega)] at h
theorem g_et : Tryd.prog.globalNamed "errors.errorType" = some 0 := by kernel_rfl
theorem g_rt : (Tryd.prog.cutTypes.find? (·.1 == "internal/reflectlite.rtype")).map (·.2) = some 131 := by kernel_rfl
theorem g_oneRow : ((List.range Tryd.prog.types.size).filter fun t => Tryd.prog.rowNamed t [101, 114, 114, 111, 114]) = [31] := by kernel_rfl
theorem errtype_at {W : World} {d : DataW Unit} {l : List (String × DataW Unit)} (h : handlesMet Tryd.prog l W) (hm : ("errors.errorType", Rows.laid_errors_errorType) ∈ l) :
    W.cell? ⟨0, 0, none⟩ = some (.iface 131 (.agg #[.pointer (some ⟨3, 31, none⟩)])) := by
  obtain ⟨name, u, ty, e1, e2, e3, e4, e5⟩ := h _ hm
  have en : name = [101, 114, 114, 111, 114] := (Option.some.inj e1).symm
  subst en
  obtain rfl := Option.some.inj (g_rt.symm.trans e2)
  have hx : ty ∈ (List.range Tryd.prog.types.size).filter fun t => Tryd.prog.rowNamed t [101, 114, 114, 111, 114] := List.mem_filter.2 ⟨List.mem_range.2 e3, e4⟩
  rw [g_oneRow] at hx
  obtain rfl := List.mem_singleton.1 hx
  have hh : typeHandle Tryd.prog 31 = .pointer (some ⟨3, 31, none⟩) := by kernel_rfl
  rw [hh] at e5
  simpa using World.var?_cell g_et e5 0
end Go.Proofs.YtogimlinfkbapaaDoor.HLaid
/- The listed variables of the seat of zookies. -/
namespace Go.Proofs.YtogimlinfkbapaaDoor.HZookG
open Go.RowKit Go.Proofs.YtogimlinfkbapaaDoor.HLaid Go.Proofs.YtogimlinfkbapaaDoor.HErr Go.Proofs.YtogimlinfkbapaaDoor.HSha
set_option linter.unusedVariables false

theorem g_con : Tryd.prog.globalNamed "vestry/sha.constants" = some 1 := by kernel_rfl
theorem t_con : (Tryd.prog.globals[1]?).map (·.type) = some 125 := by kernel_rfl
theorem c_con : Tryd.prog.cellsOf 125 = 64 := by kernel_rfl
theorem c_u32 : Tryd.prog.cellsOf 103 = 1 := by kernel_rfl
abbrev plain : List (String × DataW Unit) := [("vestry/sha.constants", Rows.laid_vestry_sha_constants)]
abbrev laid : List (String × DataW Unit) := [("vestry/sha.constants", Rows.laid_vestry_sha_constants), ("errors.errorType", Rows.laid_errors_errorType)]
theorem con_data : (Lib.tabData .u32 KT : DataW Unit) = Rows.laid_vestry_sha_constants := rfl
theorem glob {W : World} (h : laidMetH Tryd.prog laid W) : Glob W ∧ ErrG W := by
  have h' : laidMet Tryd.prog plain W ∧ handlesMet Tryd.prog [("errors.errorType", Rows.laid_errors_errorType)] W := h
  have he := errtype_at (d := Rows.laid_errors_errorType) h'.2 (List.mem_singleton.2 rfl)
  have hm : ("vestry/sha.constants", (Lib.tabData .u32 KT : DataW Unit)) ∈ plain := by rw [con_data]; exact List.mem_cons_self
  have ht := fun i hi => tab_at g_con t_con Tryd.underlying125 Tryd.underlying103 c_u32 c_con h'.1 hm i hi
  exact ⟨⟨size_of_cell (ht 0 (by decide)), fun i hi => ht i hi⟩, ⟨size_of_cell he, he⟩⟩
def cellIn : DataW Unit → Value
  | .lit (.int k n) => .int k n
  | .lit (.string s) => .string ⟨s.toArray⟩
  | _ => .nilIface
def cellsIn : DataW Unit → Array Value
  | .agg ps => (ps.map cellIn).toArray
  | _ => #[]
noncomputable def laidWorld (os : Os) : World :=
  let w0 := World.holding Tryd.prog os ⟨#[], #[], []⟩
  let put := fun (h : Array Obj) (g : Nat) (cs : Array Value) => h.modify g fun
      | .cells _ t frozen => .cells cs t frozen
      | o => o
  { w0 with heap := put (put w0.heap 0 #[.iface 131 (.agg #[.pointer (some ⟨3, 31, none⟩)])]) 1 (cellsIn Rows.laid_vestry_sha_constants) }
set_option maxRecDepth 100000 in
theorem laid_met (os : Os) (args : Array Value) : laidMetH Tryd.prog laid ((laidWorld os).forCall (fun _ _ => 0) ⟨#[], args, []⟩).memory :=
  laidMetH_of_parts (laidMet_of_run' 8 (by kernel_rfl) (by kernel_rfl)) (by kernel_rfl)
end Go.Proofs.YtogimlinfkbapaaDoor.HZookG
