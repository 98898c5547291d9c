-- Laid by this session's own program (wip/myprint.py), the kit's printer its engine; turned by hand where that fell. Lean checks it.
import Derived.Test.YtfcidjlnokhkjaaQFnSourcesx0
namespace Go.Proofs.Ytfcidjlnokhkjaa.QFnSources
open Go.RowKit Go.Proofs.YtfcidjlnokhkjaaW.PrintWords Go.Proofs.YtfcidjlnokhkjaaW.PrintLast Go.Proofs.YtfcidjlnokhkjaaW.PrintMore
attribute [local go_sem] max2_int min2_int max_two min_two max_three min_three max_four min_four   -- for this text's walks alone
set_option linter.unusedVariables false
set_option linter.unusedSimpArgs false

/-! ### impl_InRange: function 64 -/
def impl_InRange.f (a0 : Int) (a1 : Int) (a2 : Int) : Option (Bool) := if a1 ≤ a0 then (some (decide (a0 ≤ a2))) else (some false)
set_option maxHeartbeats 8000000 in
set_option maxRecDepth 100000 in
theorem impl_InRange.calls (a0 : Int) (a1 : Int) (a2 : Int) (r : Bool) (w : World) (h : impl_InRange.f a0 a1 a2 = some r) :
    Calls Try.prog 64 #[.int .i64 a0, .int .i64 a1, .int .i64 a2] w fun e w' => e = .returned (.bool r) ∧ Drawn0 w w' := by
  have H : (if a1 ≤ a0 then (some (decide (a0 ≤ a2))) else (some false)) = some r := h
  clear h
  by_cases c4 : a1 ≤ a0
  · rw [if_pos c4] at H
    have c4b0 : decide (a1 ≤ a0) = true := decide_eq_true c4
    clear c4
    obtain rfl := Option.some.inj H
    go_enter Try.func64, Try.ntmps64
    go_wp2
    go_ret
    exact ⟨by first | rfl | (simp; done) | (simp [*]; done), by repeat (first | exact Drawn0.refl _ | apply Drawn0.step)⟩
  · rw [if_neg c4] at H
    have c4b0 : decide (a1 ≤ a0) = false := decide_eq_false c4
    clear c4
    obtain rfl := Option.some.inj H
    go_enter Try.func64, Try.ntmps64
    go_wp2
    go_ret
    exact ⟨by first | rfl | (simp; done) | (simp [*]; done), by repeat (first | exact Drawn0.refl _ | apply Drawn0.step)⟩

-- NOT PRINTED: function 88 (impl_Source_88)

/-! ### impl_sourceAt: function 65 -/
def impl_sourceAt.l0 : Nat → List (S37) → Int → Int → Option (Int)
  | 0, _, _, _ => none
  | k + 1, x0, x1, x5 => if x5 < (x0.length : Int) then (if 0 ≤ x5 then (if ((rd_T37 x0 x5).f0) = x1 then (some x5) else (impl_sourceAt.l0 k x0 x1 (wrap64 (x5 + 1)))) else (none)) else (some (-1))
def impl_sourceAt.f (k : Nat) (l0 : List (S37)) (a1 : Int) : Option (Int) := impl_sourceAt.l0 k l0 a1 0
theorem impl_sourceAt.mono_l : ∀ k, (∀ y0 y1 y2, LeO (impl_sourceAt.l0 k y0 y1 y2) (impl_sourceAt.l0 (k + 1) y0 y1 y2))
  | 0 => fun _ _ _ r h => by simp [impl_sourceAt.l0] at h
  | k + 1 => by
    have ih0 := impl_sourceAt.mono_l k
    · intro y0 y1 y2
      unfold impl_sourceAt.l0
      repeat' first
      | (with_reducible exact ih0 _ _ _)
      | (with_reducible exact LeO.refl _)
      | (with_reducible exact LeO.none _)
      | (with_reducible refine LeO.ite ?_ ?_)
      | (with_reducible refine LeO.bind ?_ (fun _ => ?_))
      | exact ih0 _ _ _
      | exact LeO.none _
      | refine LeO.ite ?_ ?_
      | refine LeO.bind ?_ (fun _ => ?_)
theorem impl_sourceAt.mono : ∀ a0 a1 k, LeO (impl_sourceAt.f k a0 a1) (impl_sourceAt.f (k + 1) a0 a1) := by
  intro a0 a1 k
  have ih0 := impl_sourceAt.mono_l k
  unfold impl_sourceAt.f
  repeat' first
      | (with_reducible exact ih0 _ _ _)
      | (with_reducible exact LeO.refl _)
      | (with_reducible exact LeO.none _)
      | (with_reducible refine LeO.ite ?_ ?_)
      | (with_reducible refine LeO.bind ?_ (fun _ => ?_))
      | exact ih0 _ _ _
      | exact LeO.none _
      | refine LeO.ite ?_ ?_
      | refine LeO.bind ?_ (fun _ => ?_)
/-- the closure that sourceAt hands on: 'x.Id == id', id in the cell that it captures -/
theorem sourceAt_closure (x0 x1 x2 : Int) (x3 : Bool) (id : Int) (v : Bool) (hv : (x0 == id) = v) (B : Nat) (W : World) (hB : B < W.heap.size) (hc : W.cell? ⟨B, 0, none⟩ = some (.int .i64 id)) :
    Calls Try.prog 89 #[.agg #[.int .i64 x0, .int .i64 x1, .int .i64 x2, .bool x3], .pointer (some ⟨B, 0, none⟩)] W fun e w' => e = .returned (.bool v) ∧ Below W.heap.size W w' := by
  have hne : B ≠ W.heap.size := Nat.ne_of_lt hB
  subst hv
  go_enter Try.func89, Try.ntmps89
  go_wp2
  go_ret
  exact ⟨by first | rfl | (simp; done), (Below.refl _ W).alloc (Nat.le_refl _) _⟩
set_option maxHeartbeats 8000000 in
/-- slices.IndexFunc at that closure -/
theorem sourceAt_index (k : Nat) (A0 : Option Addr) (c0 : Nat) (l0 : List (S37)) (a1 : Int) (r : Int) (w : World) (B : Nat) (hB : B < w.heap.size) (hcell : w.cell? ⟨B, 0, none⟩ = some (.int .i64 a1)) (hr0 : Kd.C k37 w A0 l0.length l0) (h : impl_sourceAt.l0 k l0 a1 0 = some r) :
    Calls Try.prog 88 #[.slice A0 l0.length c0, .func (.func 89) #[] #[.pointer (some ⟨B, 0, none⟩)]] w fun e w' => e = .returned (.int .i64 r) ∧ Below w.heap.size w w' := by
  have HR0 := Aside0.mk hr0
  have HC := Aside0.mk hcell
  have HN := Aside0.mk hB
  clear hr0 hcell hB
  have HB := Aside0.mk (Below.refl w.heap.size w)
  have H' := Aside0.mk h
  clear h
  go_enter Try.func88, Try.ntmps88
  go_wp2
  go_loopg [5, 8] k (fun kq _ v8 w' => ∃ (x8 : Int), v8 = .int .i64 x8 ∧ Aside0 (impl_sourceAt.l0 kq l0 a1 x8 = some r) ∧ Aside0 (kq ≤ k) ∧ Aside0 (Below w.heap.size w w'))
  case atStart => exact ⟨(0), (by first | rfl | (simp; done) | (simp [*]; done)), H', ⟨Nat.le_refl _⟩, HB⟩
  case round =>
    clear H'
    obtain ⟨x8, rfl, HA, HK1, HB⟩ := hrel
    cases gk with
    | zero => exact absurd HA.out (by simp [impl_sourceAt.l0])
    | succ k1 =>
      have H := HA.out
      clear HA
      simp only [impl_sourceAt.l0] at H
      by_cases c3 : x8 < (l0.length : Int)
      · rw [if_pos c3] at H
        have c3b0 : decide (x8 < (l0.length : Int)) = true := decide_eq_true c3
        by_cases c4 : 0 ≤ x8
        · rw [if_pos c4] at H
          have c4b0 : decide (0 ≤ x8) = true := decide_eq_true c4
          obtain ⟨ad, e1, hx_0, hx_1, hx_2, hx_3⟩ := at_T37 HR0.out x8 c4 c3
          cases e1
          replace hx_0 := (HB.out.cell (World.block_lt_of_cell? w _ hx_0)).trans hx_0
          replace hx_1 := (HB.out.cell (World.block_lt_of_cell? w _ hx_1)).trans hx_1
          replace hx_2 := (HB.out.cell (World.block_lt_of_cell? w _ hx_2)).trans hx_2
          replace hx_3 := (HB.out.cell (World.block_lt_of_cell? w _ hx_3)).trans hx_3
          have hcw : wr.cell? ⟨B, 0, none⟩ = some (.int .i64 a1) := (HB.out.cell HN.out).trans HC.out
          have hBw : B < wr.heap.size := Nat.lt_of_lt_of_le HN.out HB.out.size
          replace c3 := eq_true c3
          replace c4 := eq_true c4
          by_cases c5 : ((rd_T37 l0 x8).f0) = a1
          · rw [if_pos c5] at H
            obtain rfl := Option.some.inj H
            have hcl := sourceAt_closure (rd_T37 l0 x8).f0 (rd_T37 l0 x8).f1 (rd_T37 l0 x8).f2 (rd_T37 l0 x8).f3 a1 true (beq_iff_eq.mpr c5) B wr hBw hcw
            clear c5 hcw hBw
            go_wp2_with (go_at_call 89; refine hcl.mono ?_; rintro e w' ⟨rfl, hb'⟩)
            go_ret
            exact ⟨by first | rfl | (simp; done), HB.out.trans (hb'.mono HB.out.size)⟩
          · rw [if_neg c5] at H
            have H' := Aside0.mk H
            clear H
            have hcl := sourceAt_closure (rd_T37 l0 x8).f0 (rd_T37 l0 x8).f1 (rd_T37 l0 x8).f2 (rd_T37 l0 x8).f3 a1 false (beq_eq_false_iff_ne.mpr c5) B wr hBw hcw
            clear c5 hcw hBw
            go_wp2_with (go_at_call 89; refine hcl.mono ?_; rintro e w' ⟨rfl, hb'⟩)
            go_roundg k1
            case measure => have := HK1.out; omega
            case rel => exact ⟨(wrap64 (x8 + 1)), (by first | rfl | (simp; done) | (simp [*]; done)), H', ⟨by have := HK1.out; omega⟩, ⟨HB.out.trans (hb'.mono HB.out.size)⟩⟩
        · rw [if_neg c4] at H
          exact absurd H (by simp)
      · rw [if_neg c3] at H
        have c3b0 : decide (x8 < (l0.length : Int)) = false := decide_eq_false c3
        clear c3
        obtain rfl := Option.some.inj H
        go_wp2
        go_ret
        exact ⟨by first | rfl | (simp; done) | (simp [*]; done), HB.out⟩
set_option maxHeartbeats 8000000 in
theorem impl_sourceAt.calls (k : Nat) (A0 : Option Addr) (c0 : Nat) (l0 : List (S37)) (a1 : Int) (r : Int) (w : World) (hr0 : Kd.C k37 w A0 l0.length l0) (hc0 : l0.length ≤ c0) (h : impl_sourceAt.f k l0 a1 = some r) :
    Calls Try.prog 65 #[.slice A0 l0.length c0, .int .i64 a1] w fun e w' => e = .returned (.int .i64 r) ∧ Below w.heap.size w w' := by
  have hb : Below w.heap.size w (w.alloc (.cells #[.int .i64 a1] 3)) := (Below.refl _ w).alloc (Nat.le_refl _) _
  have hcon := sourceAt_index k A0 c0 l0 a1 r (w.alloc (.cells #[.int .i64 a1] 3)) w.heap.size (by simp) (by simp) (Kd.C_below hr0 hb) h
  clear hr0 h
  go_enter Try.func65, Try.ntmps65
  go_wp2_with (go_at_call 88; refine hcon.mono ?_; rintro e w' ⟨rfl, hb'⟩)
  go_ret
  exact ⟨rfl, hb.trans (hb'.mono (by simp))⟩
end Go.Proofs.Ytfcidjlnokhkjaa.QFnSources
