/- The program's Passes answers what the reference's answers, for all arguments.
No condition: for every input. -/
import Derived.Test.YtefcdlkmifieeaaPFnExactPassesx1
set_option linter.unusedVariables false
set_option linter.unusedSimpArgs false
set_option maxHeartbeats 1000000
namespace Go.Proofs.Ytefcdlkmifieeaa.Pure
open Go.RowKit Go.Proofs.Ytefcdlkmifieeaa.PFnExactPasses Go.Proofs.YtefcdlkmifieeaaW.PrintWords Go.Proofs.YtefcdlkmifieeaaW.PrintLast

theorem w64 {x : Int} (h1 : -9223372036854775808 ≤ x) (h2 : x ≤ 9223372036854775807) : wrap64 x = x := by unfold wrap64; omega
theorem wf64 {x : Int} (h : (Lit.int .i64 x).wf = true) : -9223372036854775808 ≤ x ∧ x ≤ 9223372036854775807 := by
  simp only [Lit.wf, Bool.and_eq_true, decide_eq_true_eq] at h
  have e1 : IntKind.min .i64 = -9223372036854775808 := by decide
  have e2 : IntKind.max .i64 = 9223372036854775807 := by decide
  omega
theorem wfu8 {x : Int} (h : (Lit.int .u8 x).wf = true) : 0 ≤ x ∧ x ≤ 255 := by
  simp only [Lit.wf, Bool.and_eq_true, decide_eq_true_eq] at h
  have e1 : IntKind.min .u8 = 0 := by decide
  have e2 : IntKind.max .u8 = 255 := by decide
  omega
theorem ev_succ {α : Type} {g : Nat → Option α} {r : α} (h : Ev (fun k => g (k + 1)) r) : Ev g r := Ev.step (fun _ => rfl) h
theorem ev_some {α : Type} {r s : α} (h : r = s) : Ev (fun _ => some r) s := by subst h; exact Ev.now r
theorem ev_fix {α : Type} {o : Option α} {r : α} (h : o = some r) : Ev (fun _ => o) r := ⟨0, fun _ _ => h⟩
theorem ev_at {α : Type} {g : Nat → Option α} {r : α} (n : Nat) (h : ∀ k, g (k + n) = some r) : Ev g r :=
  ⟨n, fun k hk => by obtain ⟨m, rfl⟩ : ∃ m, k = m + n := ⟨k - n, by omega⟩; exact h m⟩
theorem ev_bindc {α β : Type} {o : Option α} {f : Nat → α → Option β} {a : α} {r : β} (h : o = some a) (k : Ev (fun n => f n a) r) : Ev (fun n => o.bind (f n)) r := by
  subst h; exact k
theorem ev_ifp {α : Type} {c : Prop} [Decidable c] {a b : Nat → Option α} {r : α} (h : c) (k : Ev a r) : Ev (fun n => if c then a n else b n) r := by
  simpa only [if_pos h] using k
theorem ev_ifn {α : Type} {c : Prop} [Decidable c] {a b : Nat → Option α} {r : α} (h : ¬ c) (k : Ev b r) : Ev (fun n => if c then a n else b n) r := by
  simpa only [if_neg h] using k
theorem spec_l1In_eq (a b c : Int) : spec_l1In.f a b c = some (decide (b ≤ a ∧ a ≤ c)) := by
  unfold spec_l1In.f
  by_cases h : a ≥ b
  · have h' : b ≤ a := h
    simp [h']
  · have h' : ¬ b ≤ a := h
    simp [h']
theorem impl_InRange_eq (a b c : Int) : impl_InRange.f a b c = some (decide (b ≤ a ∧ a ≤ c)) := by
  unfold impl_InRange.f
  by_cases h : b ≤ a <;> simp [h]
def passG (y n : Int) (t : Bool) : Bool := decide (0 ≤ y ∧ y ≤ 1000) && decide (0 ≤ n ∧ n ≤ 1000) && (if t = true then decide (2 * n ≤ y ∧ 0 < y) else decide (n < y))
theorem spec_Passes_eq (k : Nat) (y n : Int) (t : Bool) : spec_Passes.f (k + 1) y n t = some (passG y n t) := by
  simp only [spec_Passes.f, spec_Passes.j0, spec_l1In_eq, Option.bind_some, passG]
  by_cases h1 : 0 ≤ y ∧ y ≤ 1000
  · by_cases h2 : 0 ≤ n ∧ n ≤ 1000
    · have e : wrap64 (2 * n) = 2 * n := w64 (by omega) (by omega)
      cases t
      · simp [h1, h2]
      · by_cases h3 : y ≥ 2 * n <;> simp [h1, h2, e, h3] <;> omega
    · simp [h1, h2]
  · simp [h1]
theorem spec_Passes_ev (y n : Int) (t : Bool) : Ev (fun k => spec_Passes.f k y n t) (passG y n t) := ev_at 1 fun k => spec_Passes_eq k y n t
theorem impl_Passes_eq (k : Nat) (y n : Int) (t : Bool) : impl_Passes.f (k + 1) y n t = some (passG y n t) := by
  simp only [impl_Passes.f, impl_Passes.j0, impl_InRange_eq, Option.bind_some, passG]
  by_cases h1 : 0 ≤ y ∧ y ≤ 1000
  · by_cases h2 : 0 ≤ n ∧ n ≤ 1000
    · have e : wrap64 (2 * n) = 2 * n := w64 (by omega) (by omega)
      cases t
      · simp [h1, h2]
      · by_cases h3 : y ≥ 2 * n <;> simp [h1, h2, e, h3] <;> omega
    · simp [h1, h2]
  · simp [h1]
theorem impl_Passes_ev (y n : Int) (t : Bool) : Ev (fun k => impl_Passes.f k y n t) (passG y n t) := ev_at 1 fun k => impl_Passes_eq k y n t
theorem FnExactPasses : laws_FnExactPasses.Pure := by
  intro a0 a1 a2 _ _
  refine ⟨1, ?_⟩
  simp [laws_FnExactPasses.f, spec_Passes_eq 0, impl_Passes_eq 0]

end Go.Proofs.Ytefcdlkmifieeaa.Pure
