/- The program's LeastYes answers what the reference's answers, for all arguments.
No condition: for every input. -/
import Derived.Test.YtefcdlkmifieeaaPFnExactLeastYesx1
set_option linter.unusedVariables false
set_option linter.unusedSimpArgs false
set_option maxHeartbeats 1000000
namespace Go.Proofs.Ytefcdlkmifieeaa.Pure
open Go.RowKit Go.Proofs.Ytefcdlkmifieeaa.PFnExactLeastYes Go.Proofs.YtefcdlkmifieeaaW.PrintWords Go.Proofs.YtefcdlkmifieeaaW.PrintLast

theorem w64 {x : Int} (h1 : -9223372036854775808 ≤ x) (h2 : x ≤ 9223372036854775807) : wrap64 x = x := by unfold wrap64; omega
theorem wf64 {x : Int} (h : (Lit.int .i64 x).wf = true) : -9223372036854775808 ≤ x ∧ x ≤ 9223372036854775807 := by
  simp only [Lit.wf, Bool.and_eq_true, decide_eq_true_eq] at h
  have e1 : IntKind.min .i64 = -9223372036854775808 := by decide
  have e2 : IntKind.max .i64 = 9223372036854775807 := by decide
  omega
theorem wfu8 {x : Int} (h : (Lit.int .u8 x).wf = true) : 0 ≤ x ∧ x ≤ 255 := by
  simp only [Lit.wf, Bool.and_eq_true, decide_eq_true_eq] at h
  have e1 : IntKind.min .u8 = 0 := by decide
  have e2 : IntKind.max .u8 = 255 := by decide
  omega
theorem ev_succ {α : Type} {g : Nat → Option α} {r : α} (h : Ev (fun k => g (k + 1)) r) : Ev g r := Ev.step (fun _ => rfl) h
theorem ev_some {α : Type} {r s : α} (h : r = s) : Ev (fun _ => some r) s := by subst h; exact Ev.now r
theorem ev_fix {α : Type} {o : Option α} {r : α} (h : o = some r) : Ev (fun _ => o) r := ⟨0, fun _ _ => h⟩
theorem ev_at {α : Type} {g : Nat → Option α} {r : α} (n : Nat) (h : ∀ k, g (k + n) = some r) : Ev g r :=
  ⟨n, fun k hk => by obtain ⟨m, rfl⟩ : ∃ m, k = m + n := ⟨k - n, by omega⟩; exact h m⟩
theorem ev_bindc {α β : Type} {o : Option α} {f : Nat → α → Option β} {a : α} {r : β} (h : o = some a) (k : Ev (fun n => f n a) r) : Ev (fun n => o.bind (f n)) r := by
  subst h; exact k
theorem ev_ifp {α : Type} {c : Prop} [Decidable c] {a b : Nat → Option α} {r : α} (h : c) (k : Ev a r) : Ev (fun n => if c then a n else b n) r := by
  simpa only [if_pos h] using k
theorem ev_ifn {α : Type} {c : Prop} [Decidable c] {a b : Nat → Option α} {r : α} (h : ¬ c) (k : Ev b r) : Ev (fun n => if c then a n else b n) r := by
  simpa only [if_neg h] using k
theorem spec_l1In_eq (a b c : Int) : spec_l1In.f a b c = some (decide (b ≤ a ∧ a ≤ c)) := by
  unfold spec_l1In.f
  by_cases h : a ≥ b
  · have h' : b ≤ a := h
    simp [h']
  · have h' : ¬ b ≤ a := h
    simp [h']
theorem impl_InRange_eq (a b c : Int) : impl_InRange.f a b c = some (decide (b ≤ a ∧ a ≤ c)) := by
  unfold impl_InRange.f
  by_cases h : b ≤ a <;> simp [h]
def passG (y n : Int) (t : Bool) : Bool := decide (0 ≤ y ∧ y ≤ 1000) && decide (0 ≤ n ∧ n ≤ 1000) && (if t = true then decide (2 * n ≤ y ∧ 0 < y) else decide (n < y))
theorem spec_Passes_eq (k : Nat) (y n : Int) (t : Bool) : spec_Passes.f (k + 1) y n t = some (passG y n t) := by
  simp only [spec_Passes.f, spec_Passes.j0, spec_l1In_eq, Option.bind_some, passG]
  by_cases h1 : 0 ≤ y ∧ y ≤ 1000
  · by_cases h2 : 0 ≤ n ∧ n ≤ 1000
    · have e : wrap64 (2 * n) = 2 * n := w64 (by omega) (by omega)
      cases t
      · simp [h1, h2]
      · by_cases h3 : y ≥ 2 * n <;> simp [h1, h2, e, h3] <;> omega
    · simp [h1, h2]
  · simp [h1]
theorem spec_Passes_ev (y n : Int) (t : Bool) : Ev (fun k => spec_Passes.f k y n t) (passG y n t) := ev_at 1 fun k => spec_Passes_eq k y n t
theorem impl_Passes_eq (k : Nat) (y n : Int) (t : Bool) : impl_Passes.f (k + 1) y n t = some (passG y n t) := by
  simp only [impl_Passes.f, impl_Passes.j0, impl_InRange_eq, Option.bind_some, passG]
  by_cases h1 : 0 ≤ y ∧ y ≤ 1000
  · by_cases h2 : 0 ≤ n ∧ n ≤ 1000
    · have e : wrap64 (2 * n) = 2 * n := w64 (by omega) (by omega)
      cases t
      · simp [h1, h2]
      · by_cases h3 : y ≥ 2 * n <;> simp [h1, h2, e, h3] <;> omega
    · simp [h1, h2]
  · simp [h1]
theorem impl_Passes_ev (y n : Int) (t : Bool) : Ev (fun k => impl_Passes.f k y n t) (passG y n t) := ev_at 1 fun k => impl_Passes_eq k y n t
theorem least_both (v : Int) (t : Bool) (h0 : 0 ≤ v) (h1 : v ≤ 1000) (d : Nat) : ∀ y : Int, 0 ≤ y → y + d = v + 1 →
    ∃ r, Ev (fun k => spec_LeastYes.l0 k v t y) r ∧ Ev (fun k => impl_LeastYes.l0 k v t (v + 1) y) r := by
  induction d with
  | zero =>
    intro y hy hd
    refine ⟨-1, ?_, ?_⟩
    · apply ev_succ; apply ev_succ
      simp only [spec_LeastYes.l0, spec_LeastYes.j1]
      refine ev_ifn (by omega) ?_
      simpa using Ev.now (-1 : Int)
    · apply ev_succ
      simp only [impl_LeastYes.l0]
      refine ev_ifn (by omega) ?_
      exact Ev.now _
  | succ d ih =>
    intro y hy hd
    have e1 : wrap64 (v - y) = v - y := w64 (by omega) (by omega)
    have e2 : wrap64 (y + 1) = y + 1 := w64 (by omega) (by omega)
    have hyv : y ≤ v := by omega
    have hyv' : y < v + 1 := by omega
    have hin : decide (0 ≤ v ∧ v ≤ 1000) = true := by simp [h0, h1]
    by_cases hp : passG y (v - y) t = true
    · refine ⟨y, ?_, ?_⟩
      · apply ev_succ; apply ev_succ
        simp only [spec_LeastYes.l0, spec_LeastYes.j1, if_pos hyv, spec_l1In_eq, Option.bind_some, hin, if_true, e1, e2]
        refine Ev.bind (spec_Passes_ev _ _ _) ?_
        simp only [hp, if_true]
        exact Ev.now _
      · apply ev_succ
        simp only [impl_LeastYes.l0, if_pos hyv', e1, e2]
        refine Ev.bind (impl_Passes_ev _ _ _) ?_
        simp only [hp, if_true]
        exact Ev.now _
    · obtain ⟨r, hs, hi⟩ := ih (y + 1) (by omega) (by omega)
      refine ⟨r, ?_, ?_⟩
      · apply ev_succ; apply ev_succ
        simp only [spec_LeastYes.l0, spec_LeastYes.j1, if_pos hyv, spec_l1In_eq, Option.bind_some, hin, if_true, e1, e2]
        refine Ev.bind (spec_Passes_ev _ _ _) ?_
        simp only [hp]
        exact hs
      · apply ev_succ
        simp only [impl_LeastYes.l0, if_pos hyv', e1, e2]
        refine Ev.bind (impl_Passes_ev _ _ _) ?_
        simp only [hp]
        exact hi
theorem FnExactLeastYes : laws_FnExactLeastYes.Pure := by
  intro v t hw
  have hw := wf64 hw
  apply Ev.rounds
  unfold laws_FnExactLeastYes.f
  by_cases h : 0 ≤ v ∧ v ≤ 1000
  · obtain ⟨r, hs, hi⟩ := least_both v t h.1 h.2 (v + 1).toNat 0 (by omega) (by omega)
    refine Ev.bind hs (Ev.bind ?_ (ev_ifp rfl (Ev.now _)))
    unfold impl_LeastYes.f
    rw [impl_InRange_eq]
    simp only [h, and_self, decide_true, Option.bind_some, if_true]
    rw [w64 (by omega) (by omega)]
    exact hi
  · have hs : Ev (fun k => spec_LeastYes.f k v t) (-1) := by
      unfold spec_LeastYes.f
      apply ev_succ; apply ev_succ
      simp only [spec_LeastYes.l0, spec_LeastYes.j1, spec_l1In_eq, Option.bind_some, h, decide_false]
      split <;> exact Ev.now _
    refine Ev.bind hs (Ev.bind ?_ (ev_ifp rfl (Ev.now _)))
    unfold impl_LeastYes.f
    rw [impl_InRange_eq]
    simp only [h, decide_false, Option.bind_some]
    exact Ev.now _

end Go.Proofs.Ytefcdlkmifieeaa.Pure
