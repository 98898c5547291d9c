-- The row of the law FnExactRestOf, out of its pure statement and the function's contract: laid by this session's own program (wip/rows.py). Lean checks it.
import Derived.Test.YtfcidjlnokhkjaaRows
import Derived.Test.YtfcidjlnokhkjaaQFnExactRestOfx4
import Derived.Test.YtfcidjlnokhkjaaQPureFnExactRestOf
import Derived.WalkKit
import Derived.ProofKit
import Derived.OpenShut
import Derived.ShutString
import Derived.ChangeOld
import Derived.Below
import Derived.SizedLaws
import Derived.Deep.Slices
import Derived.Deep.Strs
import Derived.Lib.SmallJoins
import Derived.Test.YtfcidjlnokhkjaaWSized
namespace Go.Proofs.Ytfcidjlnokhkjaa.fnExactRestOf
open Go.ChangeShapes Go.WideShapes Go.ChangeAt Go.RowKit Go.Deep Go.Proofs.YtfcidjlnokhkjaaW.PrintWords Go.Proofs.Ytfcidjlnokhkjaa.QFnExactRestOf
open Go.ChangeMaps (open_string shut_string)
set_option linter.unusedVariables false
/-- Whatever reads at type t is told by the kind d, and is good. -/
def Opens {α : Type} (P : Program) (t : TypeId) (d : Kd α) (good : α → Prop) : Prop :=
  ∀ {H : Type} {enc : TypeId × Value → H} {w : World} {base : Nat} {spare : Nat → Bool} {held : Bool} {fuel : Nat} {cs : List Value} {x : DataW H × List MemPlace},
    DataW.trod enc P w base spare held fuel t cs = some x → ∃ a : α, d.K w a cs ∧ good a
section
variable {P : Program} {t e : TypeId}
theorem opens_int {k : IntKind} (ht : P.underlying t = some (.int k)) : Opens P t (Kd.int k) (fun x => (Lit.int k x).wf = true) := by
  intro H enc w base spare held fuel cs x h
  obtain ⟨n, rfl, _, hw⟩ := DataW.trod_int ht h
  exact ⟨n, rfl, hw⟩
theorem opens_bool (ht : P.underlying t = some .bool) : Opens P t Kd.bool (fun _ => True) := by
  intro H enc w base spare held fuel cs x h
  obtain ⟨b, rfl, _⟩ := DataW.trod_bool ht h
  exact ⟨b, rfl, trivial⟩
theorem list_of {α : Type} {p : Nat → α → Prop} : ∀ n : Nat, (∀ i, i < n → ∃ y, p i y) → ∃ l : List α, l.length = n ∧ ∀ i y, l[i]? = some y → p i y
  | 0, _ => ⟨[], rfl, fun i y h => by simp at h⟩
  | n + 1, h => by
    obtain ⟨l, hl, hp⟩ := list_of n fun i hi => h i (Nat.lt_succ_of_lt hi)
    obtain ⟨y, hy⟩ := h n (Nat.lt_succ_self n)
    refine ⟨l ++ [y], by simp [hl], fun i z hz => ?_⟩
    by_cases hi : i < l.length
    · rw [List.getElem?_append_left hi] at hz
      exact hp i z hz
    · rw [List.getElem?_append_right (by omega)] at hz
      have h0 : i - l.length = 0 := by
        have := (List.getElem?_eq_some_iff.1 hz).1
        simp at this
        omega
      rw [h0] at hz
      obtain rfl : y = z := by simpa using hz
      rw [show i = n by omega]
      exact hy
theorem opens_row {α : Type} {d : Kd α} {good : α → Prop} (ht : P.underlying t = some (.slice e)) (hc : P.cellsOf e = d.sz) (ho : Opens P e d good)
    {H : Type} {enc : TypeId × Value → H} {w : World} {base : Nat} {spare : Nat → Bool} {held : Bool} {fuel : Nat} {cs : List Value} {x : DataW H × List MemPlace} (hx : DataW.trod enc P w base spare held fuel t cs = some x) :
    ∃ (A : Option Addr) (l : List α) (c : Nat), cs = [.slice A l.length c] ∧ l.length ≤ c ∧ d.C w A l.length l ∧ l.length ≤ maxLen ∧ ∀ a ∈ l, good a := by
  rcases DataW.trod_slice ht hx with ⟨rfl, _⟩ | ⟨a, len, cap, elems, rest, n, _, rfl, _, _, hl, hm, hlen, hel, _, _⟩
  · exact ⟨none, [], 0, rfl, Nat.le_refl _, Kd.C_nil d w, by simp, by simp⟩
  · obtain ⟨l, hll, hp⟩ := list_of (p := fun i y => ∃ cs', w.cells? base (a.add (i * P.cellsOf e)) (P.cellsOf e) = some cs' ∧ d.K w y cs' ∧ good y) len (fun i hi => by
      have := hel i hi
      rw [List.getElem?_eq_getElem (by omega)] at this
      obtain ⟨cs', h1, h2⟩ := Option.bind_eq_some_iff.1 this
      obtain ⟨y, hK, hg⟩ := ho h2
      exact ⟨y, cs', h1, hK, hg⟩)
    have hb : len ≤ maxLen := Nat.le_trans hl hm
    refine ⟨some a, l, cap, by rw [hll], by omega, ⟨rfl, by unfold maxLen at hb; omega, fun _ => ⟨a, rfl, fun j p hj => ?_⟩⟩, by omega, fun y hy => ?_⟩
    · obtain ⟨cs', h1, hK, _⟩ := hp j p hj
      obtain ⟨_, hlc, hcell⟩ := World.cells?_some h1
      refine ⟨cs', by rw [hlc, hc], hK, fun i u hu => ?_⟩
      have hi : i < cs'.length := (List.getElem?_eq_some_iff.1 hu).1
      have h2 := hcell i (by omega)
      rw [Deep.add_add, hu, hc] at h2
      exact h2
    · obtain ⟨i, hi⟩ := List.mem_iff_getElem?.1 hy
      obtain ⟨_, _, _, hg⟩ := hp i y hi
      exact hg
theorem opens_slice {α : Type} {d : Kd α} {good : α → Prop} (ht : P.underlying t = some (.slice e)) (hc : P.cellsOf e = d.sz) (ho : Opens P e d good) :
    Opens P t (Kd.slice e d) (fun l => l.length ≤ maxLen ∧ ∀ a ∈ l, good a) := by
  intro H enc w base spare held fuel cs x hx
  obtain ⟨A, l, c, rfl, hc', hC, hm, hg⟩ := opens_row ht hc ho hx
  exact ⟨l, ⟨A, c, rfl, hc', hC⟩, hm, hg⟩
/-- A slice that comes in, by its value. -/
theorem val_row {α : Type} {d : Kd α} {good : α → Prop} (ht : P.underlying t = some (.slice e)) (hc : P.cellsOf e = d.sz) (ho : Opens P e d good)
    {H : Type} {enc : TypeId × Value → H} {w : World} {base : Nat} {spare : Nat → Bool} {held : Bool} {a : Option Addr} {len cap : Nat} {x : DataW H} {ps : List MemPlace} (h : DataW.Trod enc P w base spare held t (.slice a len cap) x ps) :
    ∃ l : List α, len = l.length ∧ l.length ≤ cap ∧ d.C w a l.length l ∧ l.length ≤ maxLen ∧ ∀ a ∈ l, good a := by
  obtain ⟨fuel, hf⟩ := h
  obtain ⟨A, l, c, he, h1, h2, h3, h4⟩ := opens_row ht hc ho hf
  simp [Value.cells] at he
  obtain ⟨rfl, rfl, rfl⟩ := he
  exact ⟨l, rfl, h1, h2, h3, h4⟩
/-- A struct that comes in by value. -/
theorem val_agg {α : Type} {d : Kd α} {good : α → Prop} {fs : Array Field} (ht : P.underlying t = some (.struct fs)) (ho : Opens P t d good) {r : Reach} {b0 : Nat} {v : Value}
    {H : Type} {enc : TypeId × Value → H} {w w' : World} {base : Nat} {spare : Nat → Bool} {held : Bool} {x : DataW H} {ps : List MemPlace} (hv : Value.okWide P w' r b0 t v) (h : DataW.Trod enc P w base spare held t v x ps) :
    ∃ (a : α) (cs : List Value), v = .agg cs.toArray ∧ d.K w a cs ∧ good a := by
  obtain ⟨cs, rfl, _⟩ := okWide_struct ht hv
  obtain ⟨fuel, hf⟩ := h
  obtain ⟨a, hK, hg⟩ := ho hf
  exact ⟨a, cs.toList, by simp, by simpa [Value.cells] using hK, hg⟩
def oneCells (P : Program) (fs : List Field) : Bool := (List.range fs.length).all fun i => match fs[i]? with | some f => decide (f.offset = i) && decide (P.cellsOf f.type = 1) | none => false
theorem one_cell {fs : List Field} (h : oneCells P fs = true) {i : Nat} {f : Field} (hf : fs[i]? = some f) : f.offset = i ∧ P.cellsOf f.type = 1 := by
  have hi : i < fs.length := (List.getElem?_eq_some_iff.1 hf).1
  have := List.all_eq_true.1 h i (List.mem_range.2 hi)
  rw [hf] at this
  simpa using this
theorem opens_st2 {α β : Type} {d0 : Kd α} {d1 : Kd β} {g0 : α → Prop} {g1 : β → Prop} {f0 f1 : Field} (hs : P.underlying t = some (.struct #[f0, f1])) (hc : P.cellsOf t = 2) (hone : oneCells P [f0, f1] = true)
    (h0 : Opens P f0.type d0 g0) (h1 : Opens P f1.type d1 g1) : Opens P t (Kd.pair d0 d1) (fun x => g0 x.1 ∧ g1 x.2) := by
  intro H enc w base spare held fuel cs x hx
  obtain ⟨y0, y1, n, _, hl, k0, k1⟩ := trod_struct2 hs hx
  obtain ⟨o0, e0⟩ := one_cell hone (i := 0) rfl
  obtain ⟨o1, e1⟩ := one_cell hone (i := 1) rfl
  match cs, hl.trans hc with
  | [c0, c1], _ =>
    obtain ⟨a0, K0, G0⟩ := h0 (by simpa [o0, e0] using k0)
    obtain ⟨a1, K1, G1⟩ := h1 (by simpa [o1, e1] using k1)
    exact ⟨(a0, a1), ⟨[c0], [c1], rfl, K0, K1⟩, G0, G1⟩
theorem opens_st3 {α β γ : Type} {d0 : Kd α} {d1 : Kd β} {d2 : Kd γ} {g0 : α → Prop} {g1 : β → Prop} {g2 : γ → Prop} {f0 f1 f2 : Field} (hs : P.underlying t = some (.struct #[f0, f1, f2])) (hc : P.cellsOf t = 3) (hone : oneCells P [f0, f1, f2] = true)
    (h0 : Opens P f0.type d0 g0) (h1 : Opens P f1.type d1 g1) (h2 : Opens P f2.type d2 g2) : Opens P t (Kd.pair d0 (Kd.pair d1 d2)) (fun x => g0 x.1 ∧ g1 x.2.1 ∧ g2 x.2.2) := by
  intro H enc w base spare held fuel cs x hx
  obtain ⟨y0, y1, y2, n, _, hl, k0, k1, k2⟩ := trod_struct3 hs hx
  obtain ⟨o0, e0⟩ := one_cell hone (i := 0) rfl
  obtain ⟨o1, e1⟩ := one_cell hone (i := 1) rfl
  obtain ⟨o2, e2⟩ := one_cell hone (i := 2) rfl
  match cs, hl.trans hc with
  | [c0, c1, c2], _ =>
    obtain ⟨a0, K0, G0⟩ := h0 (by simpa [o0, e0] using k0)
    obtain ⟨a1, K1, G1⟩ := h1 (by simpa [o1, e1] using k1)
    obtain ⟨a2, K2, G2⟩ := h2 (by simpa [o2, e2] using k2)
    exact ⟨(a0, a1, a2), ⟨[c0], [c1, c2], rfl, K0, ⟨[c1], [c2], rfl, K1, K2⟩⟩, G0, G1, G2⟩
theorem opens_st4 {α β γ δ : Type} {d0 : Kd α} {d1 : Kd β} {d2 : Kd γ} {d3 : Kd δ} {g0 : α → Prop} {g1 : β → Prop} {g2 : γ → Prop} {g3 : δ → Prop} {f0 f1 f2 f3 : Field} (hs : P.underlying t = some (.struct #[f0, f1, f2, f3])) (hc : P.cellsOf t = 4) (hone : oneCells P [f0, f1, f2, f3] = true)
    (h0 : Opens P f0.type d0 g0) (h1 : Opens P f1.type d1 g1) (h2 : Opens P f2.type d2 g2) (h3 : Opens P f3.type d3 g3) : Opens P t (Kd.pair d0 (Kd.pair d1 (Kd.pair d2 d3))) (fun x => g0 x.1 ∧ g1 x.2.1 ∧ g2 x.2.2.1 ∧ g3 x.2.2.2) := by
  intro H enc w base spare held fuel cs x hx
  obtain ⟨y0, y1, y2, y3, n, _, hl, k0, k1, k2, k3⟩ := Joins.trod_struct4 hs hx
  obtain ⟨o0, e0⟩ := one_cell hone (i := 0) rfl
  obtain ⟨o1, e1⟩ := one_cell hone (i := 1) rfl
  obtain ⟨o2, e2⟩ := one_cell hone (i := 2) rfl
  obtain ⟨o3, e3⟩ := one_cell hone (i := 3) rfl
  match cs, hl.trans hc with
  | [c0, c1, c2, c3], _ =>
    obtain ⟨a0, K0, G0⟩ := h0 (by simpa [o0, e0] using k0)
    obtain ⟨a1, K1, G1⟩ := h1 (by simpa [o1, e1] using k1)
    obtain ⟨a2, K2, G2⟩ := h2 (by simpa [o2, e2] using k2)
    obtain ⟨a3, K3, G3⟩ := h3 (by simpa [o3, e3] using k3)
    exact ⟨(a0, a1, a2, a3), ⟨[c0], [c1, c2, c3], rfl, K0, ⟨[c1], [c2, c3], rfl, K1, ⟨[c2], [c3], rfl, K2, K3⟩⟩⟩, G0, G1, G2, G3⟩
/-- A struct's kind, told by a structure of its own. -/
theorem opens_iso {α β : Type} {d : Kd α} {f : β → α} {g : α → Prop} (h : Opens P t d g) (back : α → β) (hb : ∀ x, f (back x) = x) : Opens P t (Kd.iso d f) (fun b => g (f b)) := by
  intro H enc w base spare held fuel cs x hx
  obtain ⟨a, hK, hg⟩ := h hx
  exact ⟨back a, by show d.K w (f (back a)) cs; rw [hb]; exact hK, by show g (f (back a)); rw [hb]; exact hg⟩
theorem opens_good {α : Type} {d : Kd α} {g g' : α → Prop} (h : Opens P t d g) (hg : ∀ a, g a → g' a) : Opens P t d g' := by
  intro H enc w base spare held fuel cs x hx
  obtain ⟨a, hK, hga⟩ := h hx
  exact ⟨a, hK, hg a hga⟩
end
theorem own : ownKnob Try.prog.godebug = none := by kernel_rfl
theorem laidOut : laidOutB Try.prog = true := by kernel_rfl
set_option maxRecDepth 100000 in
theorem lifted (os : Os) (started : os.Started) (H : Type) (enc : TypeId × Value → H) :
    ReturnsInHanded {} Try.checked os 11 .any (Rows.fnExactRestOfSpec.pre6 enc Try.prog Try.f11 Rows.fnExactRestOfRow.domain false) (Rows.fnExactRestOfSpec.post enc Try.prog Try.f11 false true false false) := by
  refine returnsInHanded_of_change_sized (C := Try.checked) own started (by kernel_rfl) Try.func11
    (ChangeSpec.witness6 (enc := enc) (C := Try.checked) false ⟨#[], #[.slice none 0 0, .int .i64 0], []⟩ 8 (by kernel_rfl) (by kernel_rfl) (by kernel_rfl) (by kernel_rfl)) ?_
  intro W base args ds gs before hval0 hW hcnd hsz0 _
  have hsz : (DataW.weightsEach Try.prog (Try.f11.params.toList ++ Rows.fnExactRestOfSpec.plain.varTypes Try.prog) (ds ++ gs)).all (· ≤ reachBytes) = true := hsz0
  have hval : ∀ (j : Nat) t v, Try.f11.params[j]? = some t → args[j]? = some v → Value.okWide Try.prog W .any base t v := hval0
  have hW' := hW
  obtain ⟨p, q, hA0, hV, rfl, hfz, hnd⟩ := hW
  have hA : DataW.TrodAll enc Try.prog W 0 (fun _ => true) true Try.f11.params.toList args.toList ds p := hA0
  rw [Try.params11] at hA hval hsz
  obtain ⟨v0, vs0, d0, ds0, p0, q0, hargs, rfl, rfl, h0, r0⟩ := trodAll_cons hA
  obtain ⟨v1, vs1, d1, ds1, p1, q1, rfl, rfl, rfl, h1, r1⟩ := trodAll_cons r0
  obtain ⟨rfl, rfl, rfl⟩ := trodAll_nil r1
  obtain rfl : args = #[v0, v1] := by cases args; simp_all
  obtain ⟨rfl, rfl⟩ := trodVars_none hV
  obtain ⟨a0, len0, cap0, rfl⟩ := okWide_slice Try.underlying49 (hval 0 49 v0 rfl rfl)
  have k0 := h0
  have lt0 : ∀ x ∈ p0, x.block < W.heap.size := by obtain ⟨m, hm⟩ := k0; exact DataW.trod_lt m _ _ _ hm
  obtain ⟨l0, rfl, hc0, hr0, hm0, hg0⟩ := val_row Try.underlying49 (by kernel_rfl) (opens_slice Try.underlying45 (by kernel_rfl) (opens_int Try.underlying3)) h0
  obtain ⟨a1, rfl, rfl, rfl, w1⟩ := open_int Try.underlying3 (hval 1 3 v1 rfl rfl) h1
  clear hA0 hval0 hsz0 hsz
  obtain ⟨k, hP⟩ := Pure.FnExactRestOf l0 a1 ⟨hm0, hg0⟩ w1
  refine (laws_FnExactRestOf.calls k _ _ l0 a1 true W hr0 hc0 rfl hP).mono fun e W' he => ?_
  obtain ⟨rfl, bel0⟩ := he
  have bel : Below W.heap.size W W' := bel0
  exact ⟨_, rfl, _, _, _, [], _, [], hW', trodAll_mk1 (shut_bool Try.underlying4 _), (trodAll_cons_mk (Below.trod laidOut (by kernel_rfl) (of_decide_eq_true (by kernel_rfl)) k0 bel lt0) (trodAll_cons_mk (shut_int Try.underlying3 w1) trodAll_mk0)), rfl, bel.frame _, fun h => by cases h⟩
theorem over : Rows.fnExactRestOfRow.holds Try.pinned (OpenSpec.ofChange Rows.fnExactRestOfSpec) :=
  OpenClaim.holds_of_wide 11 Try.f11 rfl rfl rfl rfl rfl rfl rfl ⟨rfl, rfl, rfl, rfl, rfl⟩ rfl rfl rfl rfl rfl (by kernel_rfl) Try.func11 (by kernel_rfl)
    (of_decide_eq_true (by kernel_rfl)) (by unfold Func.isWrapper; first | (rw [if_pos (by decide +kernel)]; kernel_rfl) | (rw [if_neg (by decide +kernel)]; exact ⟨rfl, rfl⟩))
    (fun os started H enc _ => lifted os started H enc)
theorem proved : Rows.FnExactRestOfSaid := over
#print axioms proved
end Go.Proofs.Ytfcidjlnokhkjaa.fnExactRestOf
namespace Go.Proofs.Ytfcidjlnokhkjaa
/-- The row, under a short name, for the claim. -/
theorem fnExactRestOf_holds : Rows.FnExactRestOfSaid := fnExactRestOf.proved
end Go.Proofs.Ytfcidjlnokhkjaa
