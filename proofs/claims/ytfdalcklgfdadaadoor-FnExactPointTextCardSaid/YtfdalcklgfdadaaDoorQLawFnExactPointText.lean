-- The row of the law FnExactPointText, out of its pure statement and the function's contract: laid by this session's own program (wip/rows.py). Lean checks it.
import Derived.Test.YtfdalcklgfdadaaDoorCards
import Derived.Test.YtfdalcklgfdadaaDoorTie
import Derived.Test.YtfdalcklgfdadaaDoorQFnExactPointTextx2
import Derived.Test.YtfdalcklgfdadaaDoorQPureFnExactPointText
import Derived.WalkKit
import Derived.Deep.DeepHandedRow
import Derived.Lib.LaidTab
import Derived.Stop.LaidErr
import Derived.ProofKit
import Derived.OpenShut
import Derived.ShutString
import Derived.ChangeOld
import Derived.Below
import Derived.SizedLaws
import Derived.Deep.Slices
import Derived.Deep.Strs
import Derived.Lib.SmallJoins
import Derived.Test.YtfdalcklgfdadaaDoorWSized
namespace Go.Proofs.YtfdalcklgfdadaaDoor.fnExactPointText
open Go.ChangeShapes Go.WideShapes Go.ChangeAt Go.RowKit Go.Deep Go.Proofs.YtfdalcklgfdadaaDoorW.PrintWords Go.Proofs.YtfdalcklgfdadaaDoor.QFnExactPointText
open Go.ChangeMaps (open_string shut_string)
set_option linter.unusedVariables false
/-- Whatever reads at type t is told by the kind d, and is good. -/
def Opens {α : Type} (P : Program) (t : TypeId) (d : Kd α) (good : α → Prop) : Prop :=
  ∀ {H : Type} {enc : TypeId × Value → H} {w : World} {base : Nat} {spare : Nat → Bool} {held : Bool} {fuel : Nat} {cs : List Value} {x : DataW H × List MemPlace},
    DataW.trod enc P w base spare held fuel t cs = some x → ∃ a : α, d.K w a cs ∧ good a
section
variable {P : Program} {t e : TypeId}
theorem opens_int {k : IntKind} (ht : P.underlying t = some (.int k)) : Opens P t (Kd.int k) (fun x => (Lit.int k x).wf = true) := by
  intro H enc w base spare held fuel cs x h
  obtain ⟨n, rfl, _, hw⟩ := DataW.trod_int ht h
  exact ⟨n, rfl, hw⟩
theorem opens_bool (ht : P.underlying t = some .bool) : Opens P t Kd.bool (fun _ => True) := by
  intro H enc w base spare held fuel cs x h
  obtain ⟨b, rfl, _⟩ := DataW.trod_bool ht h
  exact ⟨b, rfl, trivial⟩
theorem list_of {α : Type} {p : Nat → α → Prop} : ∀ n : Nat, (∀ i, i < n → ∃ y, p i y) → ∃ l : List α, l.length = n ∧ ∀ i y, l[i]? = some y → p i y
  | 0, _ => ⟨[], rfl, fun i y h => by simp at h⟩
  | n + 1, h => by
    obtain ⟨l, hl, hp⟩ := list_of n fun i hi => h i (Nat.lt_succ_of_lt hi)
    obtain ⟨y, hy⟩ := h n (Nat.lt_succ_self n)
    refine ⟨l ++ [y], by simp [hl], fun i z hz => ?_⟩
    by_cases hi : i < l.length
    · rw [List.getElem?_append_left hi] at hz
      exact hp i z hz
    · rw [List.getElem?_append_right (by omega)] at hz
      have h0 : i - l.length = 0 := by
        have := (List.getElem?_eq_some_iff.1 hz).1
        simp at this
        omega
      rw [h0] at hz
      obtain rfl : y = z := by simpa using hz
      rw [show i = n by omega]
      exact hy
theorem opens_row {α : Type} {d : Kd α} {good : α → Prop} (ht : P.underlying t = some (.slice e)) (hc : P.cellsOf e = d.sz) (ho : Opens P e d good)
    {H : Type} {enc : TypeId × Value → H} {w : World} {base : Nat} {spare : Nat → Bool} {held : Bool} {fuel : Nat} {cs : List Value} {x : DataW H × List MemPlace} (hx : DataW.trod enc P w base spare held fuel t cs = some x) :
    ∃ (A : Option Addr) (l : List α) (c : Nat), cs = [.slice A l.length c] ∧ l.length ≤ c ∧ d.C w A l.length l ∧ l.length ≤ maxLen ∧ ∀ a ∈ l, good a := by
  rcases DataW.trod_slice ht hx with ⟨rfl, _⟩ | ⟨a, len, cap, elems, rest, n, _, rfl, _, _, hl, hm, hlen, hel, _, _⟩
  · exact ⟨none, [], 0, rfl, Nat.le_refl _, Kd.C_nil d w, by simp, by simp⟩
  · obtain ⟨l, hll, hp⟩ := list_of (p := fun i y => ∃ cs', w.cells? base (a.add (i * P.cellsOf e)) (P.cellsOf e) = some cs' ∧ d.K w y cs' ∧ good y) len (fun i hi => by
      have := hel i hi
      rw [List.getElem?_eq_getElem (by omega)] at this
      obtain ⟨cs', h1, h2⟩ := Option.bind_eq_some_iff.1 this
      obtain ⟨y, hK, hg⟩ := ho h2
      exact ⟨y, cs', h1, hK, hg⟩)
    have hb : len ≤ maxLen := Nat.le_trans hl hm
    refine ⟨some a, l, cap, by rw [hll], by omega, ⟨rfl, by unfold maxLen at hb; omega, fun _ => ⟨a, rfl, fun j p hj => ?_⟩⟩, by omega, fun y hy => ?_⟩
    · obtain ⟨cs', h1, hK, _⟩ := hp j p hj
      obtain ⟨_, hlc, hcell⟩ := World.cells?_some h1
      refine ⟨cs', by rw [hlc, hc], hK, fun i u hu => ?_⟩
      have hi : i < cs'.length := (List.getElem?_eq_some_iff.1 hu).1
      have h2 := hcell i (by omega)
      rw [Deep.add_add, hu, hc] at h2
      exact h2
    · obtain ⟨i, hi⟩ := List.mem_iff_getElem?.1 hy
      obtain ⟨_, _, _, hg⟩ := hp i y hi
      exact hg
theorem opens_slice {α : Type} {d : Kd α} {good : α → Prop} (ht : P.underlying t = some (.slice e)) (hc : P.cellsOf e = d.sz) (ho : Opens P e d good) :
    Opens P t (Kd.slice e d) (fun l => l.length ≤ maxLen ∧ ∀ a ∈ l, good a) := by
  intro H enc w base spare held fuel cs x hx
  obtain ⟨A, l, c, rfl, hc', hC, hm, hg⟩ := opens_row ht hc ho hx
  exact ⟨l, ⟨A, c, rfl, hc', hC⟩, hm, hg⟩
/-- A slice that comes in, by its value. -/
theorem val_row {α : Type} {d : Kd α} {good : α → Prop} (ht : P.underlying t = some (.slice e)) (hc : P.cellsOf e = d.sz) (ho : Opens P e d good)
    {H : Type} {enc : TypeId × Value → H} {w : World} {base : Nat} {spare : Nat → Bool} {held : Bool} {a : Option Addr} {len cap : Nat} {x : DataW H} {ps : List MemPlace} (h : DataW.Trod enc P w base spare held t (.slice a len cap) x ps) :
    ∃ l : List α, len = l.length ∧ l.length ≤ cap ∧ d.C w a l.length l ∧ l.length ≤ maxLen ∧ ∀ a ∈ l, good a := by
  obtain ⟨fuel, hf⟩ := h
  obtain ⟨A, l, c, he, h1, h2, h3, h4⟩ := opens_row ht hc ho hf
  simp [Value.cells] at he
  obtain ⟨rfl, rfl, rfl⟩ := he
  exact ⟨l, rfl, h1, h2, h3, h4⟩
/-- A struct that comes in by value. -/
theorem val_agg {α : Type} {d : Kd α} {good : α → Prop} {fs : Array Field} (ht : P.underlying t = some (.struct fs)) (ho : Opens P t d good) {r : Reach} {b0 : Nat} {v : Value}
    {H : Type} {enc : TypeId × Value → H} {w w' : World} {base : Nat} {spare : Nat → Bool} {held : Bool} {x : DataW H} {ps : List MemPlace} (hv : Value.okWide P w' r b0 t v) (h : DataW.Trod enc P w base spare held t v x ps) :
    ∃ (a : α) (cs : List Value), v = .agg cs.toArray ∧ d.K w a cs ∧ good a := by
  obtain ⟨cs, rfl, _⟩ := okWide_struct ht hv
  obtain ⟨fuel, hf⟩ := h
  obtain ⟨a, hK, hg⟩ := ho hf
  exact ⟨a, cs.toList, by simp, by simpa [Value.cells] using hK, hg⟩
def oneCells (P : Program) (fs : List Field) : Bool := (List.range fs.length).all fun i => match fs[i]? with | some f => decide (f.offset = i) && decide (P.cellsOf f.type = 1) | none => false
theorem one_cell {fs : List Field} (h : oneCells P fs = true) {i : Nat} {f : Field} (hf : fs[i]? = some f) : f.offset = i ∧ P.cellsOf f.type = 1 := by
  have hi : i < fs.length := (List.getElem?_eq_some_iff.1 hf).1
  have := List.all_eq_true.1 h i (List.mem_range.2 hi)
  rw [hf] at this
  simpa using this
theorem opens_st2 {α β : Type} {d0 : Kd α} {d1 : Kd β} {g0 : α → Prop} {g1 : β → Prop} {f0 f1 : Field} (hs : P.underlying t = some (.struct #[f0, f1])) (hc : P.cellsOf t = 2) (hone : oneCells P [f0, f1] = true)
    (h0 : Opens P f0.type d0 g0) (h1 : Opens P f1.type d1 g1) : Opens P t (Kd.pair d0 d1) (fun x => g0 x.1 ∧ g1 x.2) := by
  intro H enc w base spare held fuel cs x hx
  obtain ⟨y0, y1, n, _, hl, k0, k1⟩ := trod_struct2 hs hx
  obtain ⟨o0, e0⟩ := one_cell hone (i := 0) rfl
  obtain ⟨o1, e1⟩ := one_cell hone (i := 1) rfl
  match cs, hl.trans hc with
  | [c0, c1], _ =>
    obtain ⟨a0, K0, G0⟩ := h0 (by simpa [o0, e0] using k0)
    obtain ⟨a1, K1, G1⟩ := h1 (by simpa [o1, e1] using k1)
    exact ⟨(a0, a1), ⟨[c0], [c1], rfl, K0, K1⟩, G0, G1⟩
theorem opens_st3 {α β γ : Type} {d0 : Kd α} {d1 : Kd β} {d2 : Kd γ} {g0 : α → Prop} {g1 : β → Prop} {g2 : γ → Prop} {f0 f1 f2 : Field} (hs : P.underlying t = some (.struct #[f0, f1, f2])) (hc : P.cellsOf t = 3) (hone : oneCells P [f0, f1, f2] = true)
    (h0 : Opens P f0.type d0 g0) (h1 : Opens P f1.type d1 g1) (h2 : Opens P f2.type d2 g2) : Opens P t (Kd.pair d0 (Kd.pair d1 d2)) (fun x => g0 x.1 ∧ g1 x.2.1 ∧ g2 x.2.2) := by
  intro H enc w base spare held fuel cs x hx
  obtain ⟨y0, y1, y2, n, _, hl, k0, k1, k2⟩ := trod_struct3 hs hx
  obtain ⟨o0, e0⟩ := one_cell hone (i := 0) rfl
  obtain ⟨o1, e1⟩ := one_cell hone (i := 1) rfl
  obtain ⟨o2, e2⟩ := one_cell hone (i := 2) rfl
  match cs, hl.trans hc with
  | [c0, c1, c2], _ =>
    obtain ⟨a0, K0, G0⟩ := h0 (by simpa [o0, e0] using k0)
    obtain ⟨a1, K1, G1⟩ := h1 (by simpa [o1, e1] using k1)
    obtain ⟨a2, K2, G2⟩ := h2 (by simpa [o2, e2] using k2)
    exact ⟨(a0, a1, a2), ⟨[c0], [c1, c2], rfl, K0, ⟨[c1], [c2], rfl, K1, K2⟩⟩, G0, G1, G2⟩
theorem opens_st4 {α β γ δ : Type} {d0 : Kd α} {d1 : Kd β} {d2 : Kd γ} {d3 : Kd δ} {g0 : α → Prop} {g1 : β → Prop} {g2 : γ → Prop} {g3 : δ → Prop} {f0 f1 f2 f3 : Field} (hs : P.underlying t = some (.struct #[f0, f1, f2, f3])) (hc : P.cellsOf t = 4) (hone : oneCells P [f0, f1, f2, f3] = true)
    (h0 : Opens P f0.type d0 g0) (h1 : Opens P f1.type d1 g1) (h2 : Opens P f2.type d2 g2) (h3 : Opens P f3.type d3 g3) : Opens P t (Kd.pair d0 (Kd.pair d1 (Kd.pair d2 d3))) (fun x => g0 x.1 ∧ g1 x.2.1 ∧ g2 x.2.2.1 ∧ g3 x.2.2.2) := by
  intro H enc w base spare held fuel cs x hx
  obtain ⟨y0, y1, y2, y3, n, _, hl, k0, k1, k2, k3⟩ := Joins.trod_struct4 hs hx
  obtain ⟨o0, e0⟩ := one_cell hone (i := 0) rfl
  obtain ⟨o1, e1⟩ := one_cell hone (i := 1) rfl
  obtain ⟨o2, e2⟩ := one_cell hone (i := 2) rfl
  obtain ⟨o3, e3⟩ := one_cell hone (i := 3) rfl
  match cs, hl.trans hc with
  | [c0, c1, c2, c3], _ =>
    obtain ⟨a0, K0, G0⟩ := h0 (by simpa [o0, e0] using k0)
    obtain ⟨a1, K1, G1⟩ := h1 (by simpa [o1, e1] using k1)
    obtain ⟨a2, K2, G2⟩ := h2 (by simpa [o2, e2] using k2)
    obtain ⟨a3, K3, G3⟩ := h3 (by simpa [o3, e3] using k3)
    exact ⟨(a0, a1, a2, a3), ⟨[c0], [c1, c2, c3], rfl, K0, ⟨[c1], [c2, c3], rfl, K1, ⟨[c2], [c3], rfl, K2, K3⟩⟩⟩, G0, G1, G2, G3⟩
/-- A struct's kind, told by a structure of its own. -/
theorem opens_iso {α β : Type} {d : Kd α} {f : β → α} {g : α → Prop} (h : Opens P t d g) (back : α → β) (hb : ∀ x, f (back x) = x) : Opens P t (Kd.iso d f) (fun b => g (f b)) := by
  intro H enc w base spare held fuel cs x hx
  obtain ⟨a, hK, hg⟩ := h hx
  exact ⟨back a, by show d.K w (f (back a)) cs; rw [hb]; exact hK, by show g (f (back a)); rw [hb]; exact hg⟩
theorem opens_good {α : Type} {d : Kd α} {g g' : α → Prop} (h : Opens P t d g) (hg : ∀ a, g a → g' a) : Opens P t d g' := by
  intro H enc w base spare held fuel cs x hx
  obtain ⟨a, hK, hga⟩ := h hx
  exact ⟨a, hK, hg a hga⟩
end
theorem own : ownKnob Tryd.prog.godebug = none := by kernel_rfl
theorem laidOut : laidOutB Tryd.prog = true := by kernel_rfl
structure S23 where
  f0 : Int
  f1 : Int
  f2 : Int
def k23 : Kd S23 := Kd.iso (Kd.pair (Kd.int .i64) (Kd.pair (Kd.int .i64) (Kd.int .i64))) (fun x : S23 => (x.f0, x.f1, x.f2))
theorem k23_open {w : World} {x : S23} {cs : List Value} (h : k23.K w x cs) : cs = [.int .i64 x.f0, .int .i64 x.f1, .int .i64 x.f2] := by
  obtain ⟨_, _, rfl, rfl, ⟨_, _, rfl, rfl, rfl⟩⟩ := h
  exact rfl
theorem opens_k23 : Opens Tryd.prog 23 k23 (fun x => ((Lit.int .i64 x.f0).wf = true) ∧ ((Lit.int .i64 x.f1).wf = true) ∧ ((Lit.int .i64 x.f2).wf = true)) :=
  opens_iso (opens_st3 Tryd.underlying23 (by kernel_rfl) (by kernel_rfl) (opens_int Tryd.underlying3) (opens_int Tryd.underlying3) (opens_int Tryd.underlying3)) (fun p => ⟨p.1, p.2.1, p.2.2⟩) (fun _ => rfl)
theorem gTab : Tryd.prog.globalNamed "internal/strconv.uint64pow10" = some 0 := by kernel_rfl
theorem gTabType : (Tryd.prog.globals[0]?).map (·.type) = some 40 := by kernel_rfl
theorem cells40 : Tryd.prog.cellsOf 40 = 20 := by kernel_rfl
theorem cells33 : Tryd.prog.cellsOf 33 = 1 := by kernel_rfl
/-- What the row's list gives: the table of powers holds its twenty numbers. -/
theorem table {W : World} (h : laidMetH Tryd.prog Rows.fnExactPointTextRow.laid W) : PointTab W := by
  have h2 : laidMet Tryd.prog [("math/bits.deBruijn32tab", Rows.laid_math_bits_deBruijn32tab), ("math/bits.deBruijn64tab", Rows.laid_math_bits_deBruijn64tab), ("internal/strconv.uint64pow10", Lib.tabData .u64 Lib.pow10Tab)] W := h
  exact Lib.tabIs_of_head (rest := []) gTab gTabType Tryd.underlying40 Tryd.underlying33 cells33 cells40 (laidMet.tail (laidMet.tail h2))
/-- What the walk gives, at every argument and in every world that holds the tables. -/
theorem contract (H : Type) (enc : TypeId × Value → H) (W : World) (base : Nat) (args : Array Value) (ds gs : List (DataW H)) (before : List MemPlace)
    (hval0 : ∀ (j : Nat) t v, Tryd.f3.params[j]? = some t → args[j]? = some v → Value.okWide Tryd.prog W .any base t v)
    (hW : DataW.Whole enc Tryd.prog Tryd.f3.params.toList Rows.fnExactPointTextSpec.vars false W args.toList ds gs before) (hL : laidMetH Tryd.prog Rows.fnExactPointTextRow.laid W) :
    Calls Tryd.prog 3 args W fun e W' => ∃ v, e = .returned v ∧ Rows.fnExactPointTextSpec.post enc Tryd.prog Tryd.f3 false true false false W args v W' := by
  have hval : ∀ (j : Nat) t v, Tryd.f3.params[j]? = some t → args[j]? = some v → Value.okWide Tryd.prog W .any base t v := hval0
  have hW' := hW
  obtain ⟨p, q, hA0, hV, rfl, hfz, hnd⟩ := hW
  have hA : DataW.TrodAll enc Tryd.prog W 0 (fun _ => true) true Tryd.f3.params.toList args.toList ds p := hA0
  rw [Tryd.params3] at hA hval
  obtain ⟨v0, vs0, d0, ds0, p0, q0, hargs, rfl, rfl, h0, r0⟩ := trodAll_cons hA
  obtain ⟨rfl, rfl, rfl⟩ := trodAll_nil r0
  obtain rfl : args = #[v0] := by cases args; simp_all
  obtain ⟨rfl, rfl⟩ := trodVars_none hV
  have k0 := h0
  have lt0 : ∀ x ∈ p0, x.block < W.heap.size := by obtain ⟨m, hm⟩ := k0; exact DataW.trod_lt m _ _ _ hm
  obtain ⟨x0, cs0, rfl, hK0, hg0⟩ := val_agg Tryd.underlying23 opens_k23 (hval 0 23 v0 rfl rfl) h0
  obtain rfl := k23_open hK0
  obtain ⟨hg0_0, hg0_1, hg0_2⟩ := hg0
  clear hA0 hval0
  obtain ⟨k, hP⟩ := Pure.FnExactPointText x0.f0 x0.f1 x0.f2 hg0_0 hg0_1 hg0_2
  refine (laws_FnExactPointText.calls k x0.f0 x0.f1 x0.f2 true W (table hL) rfl hP).mono fun e W' he => ?_
  obtain ⟨rfl, bel0⟩ := he
  have bel : Below W.heap.size W W' := bel0
  exact ⟨_, rfl, _, _, _, [], _, [], hW', trodAll_mk1 (shut_bool Tryd.underlying4 _), (trodAll_cons_mk (Below.trod laidOut (by kernel_rfl) (of_decide_eq_true (by kernel_rfl)) k0 bel lt0) trodAll_mk0), rfl, bel.frame _, fun h => by cases h⟩
/-- The cells of a listed table. -/
def tabCells : DataW Unit → Array Value
  | .agg l => (l.map fun d => match d with | .lit (.int k z) => Value.int k z | _ => undef).toArray
  | _ => #[]
def laySlot (h : Array Obj) (g : Nat) (d : DataW Unit) : Array Obj := h.modify g fun
  | .cells _ t frozen => .cells (tabCells d) t frozen
  | o => o
/-- A world for the witness: the settled one, each table (blocks 0, 1, 2) holding what its initialiser lays. -/
noncomputable def laidWorld (os : Os) : World :=
  { World.holding Tryd.prog os ⟨#[], #[], []⟩ with heap := laySlot (laySlot (laySlot (World.holding Tryd.prog os ⟨#[], #[], []⟩).heap 0 Rows.laid_internal_strconv_uint64pow10) 1 Rows.laid_math_bits_deBruijn32tab) 2 Rows.laid_math_bits_deBruijn64tab }
theorem laid_met (os : Os) : laidMet Tryd.prog Rows.fnExactPointTextRow.laid ((laidWorld os).forCall (fun _ _ => 0) ⟨#[], #[.agg #[.int .i64 0, .int .i64 0, .int .i64 0]], []⟩).memory :=
  laidMet_of_run' 8 (by kernel_rfl) (by kernel_rfl)
theorem reads (os : Os) {H : Type} (enc : TypeId × Value → H) : ∃ places, DataW.whole enc Tryd.prog ((laidWorld os).forCall (fun _ _ => 0) ⟨#[], #[.agg #[.int .i64 0, .int .i64 0, .int .i64 0]], []⟩).memory Tryd.f3.params.toList Rows.fnExactPointTextSpec.vars false #[Value.agg #[.int .i64 0, .int .i64 0, .int .i64 0]].toList 8 = some ([.agg [.lit (.int .i64 0), .lit (.int .i64 0), .lit (.int .i64 0)]], [], places) :=
  ⟨[], by kernel_rfl⟩
set_option maxRecDepth 100000 in
theorem lifted (os : Os) (started : os.Started) (H : Type) (enc : TypeId × Value → H) (F : Stop.Interp) :
    ReturnsInHanded {} Tryd.checked os 3 .any ((OpenSpec.ofChange Rows.fnExactPointTextSpec).preRow enc Tryd.prog Tryd.f3 Rows.fnExactPointTextRow.domain false Rows.fnExactPointTextRow.laid) (((OpenSpec.ofChange Rows.fnExactPointTextSpec).at F).post enc Tryd.prog Tryd.f3 false true false false) := by
  obtain ⟨places, hx⟩ := reads os enc
  refine returnsInHanded_of_row (C := Tryd.checked) (s := OpenSpec.ofChange Rows.fnExactPointTextSpec) own started (by kernel_rfl) Tryd.func3
    (witness_row_at (enc := enc) (C := Tryd.checked) false (laidWorld os) #[.agg #[.int .i64 0, .int .i64 0, .int .i64 0]] rfl (by kernel_rfl) (by kernel_rfl) (by kernel_rfl)
      (OpenSpec.preRow_of_cond 8 hx (by kernel_rfl) (fun k hk => by cases hk) (by kernel_rfl) (laid_met os))) ?_
  intro W base args ds gs before hval hW _ _ _ hL _ _
  exact contract H enc W base args ds gs before hval hW hL
theorem said : Rows.FnExactPointTextSaid :=
  OpenClaim.holds_of_cond 3 Tryd.f3 rfl rfl rfl rfl rfl rfl rfl ⟨rfl, rfl, rfl, rfl, rfl⟩ rfl rfl rfl rfl rfl (by kernel_rfl) Tryd.func3 (by kernel_rfl)
    (of_decide_eq_true (by kernel_rfl)) (by unfold Func.isWrapper; first | (rw [if_pos (by decide +kernel)]; kernel_rfl) | (rw [if_neg (by decide +kernel)]; exact ⟨rfl, rfl⟩))
    (fun os started H enc _ F => by rw [OpenClaim.pre_eq_preRow]; exact lifted os started H enc F)
/-- No parameter wants a stand-in; the program's own looks are off: what the card asks. -/
theorem plain (f : FuncId) (fn : Func) (hf : Tryd.pinned.checked.prog.funcNamed Rows.fnExactPointTextRow.func = some f) (hfn : Tryd.pinned.checked.prog.funcs[f]? = some fn) :
    false = Tryd.pinned.checked.prog.looks [] ∧ ∀ (j : Nat) t, fn.params[j]? = some t → Tryd.pinned.checked.prog.wantsStandIn t = false := by
  obtain rfl : f = 3 := Option.some.inj ((show Tryd.prog.funcNamed Rows.fnExactPointTextRow.func = some 3 by kernel_rfl).symm.trans hf) |>.symm
  obtain rfl : fn = Tryd.f3 := (Option.some.inj (Tryd.func3.symm.trans hfn)).symm
  refine ⟨by kernel_rfl, fun j t ht => ?_⟩
  rw [Tryd.params3] at ht
  obtain rfl : t = 23 := by simpa using Array.mem_of_getElem? ht
  exact (show Tryd.prog.wantsStandIn 23 = false by kernel_rfl)
theorem card : Rows.FnExactPointTextCardSaid :=
  Claim7.holds_tied_plain_at .later [] _ _ _ _ said (fun _ h => by cases h) (by kernel_rfl) (fun _ h => by cases h) fnExactPointText_row_tie rfl ⟨rfl, rfl⟩ (by kernel_rfl) rfl plain (by kernel_rfl)
#print axioms card
end Go.Proofs.YtfdalcklgfdadaaDoor.fnExactPointText
namespace Go.Proofs.YtfdalcklgfdadaaDoor
/-- The card, under a short name, for the claim. -/
theorem fnExactPointText_holds : Rows.FnExactPointTextCardSaid := fnExactPointText.card
end Go.Proofs.YtfdalcklgfdadaaDoor
