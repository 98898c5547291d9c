/- The program's Exchange answers what the reference's answers, for all arguments.
No condition: for every input. -/
import Derived.Test.YtefcdlkmifieeaaPFnExactExchangex1
set_option linter.unusedVariables false
set_option linter.unusedSimpArgs false
set_option maxHeartbeats 1000000
namespace Go.Proofs.Ytefcdlkmifieeaa.Pure
open Go.RowKit Go.Proofs.Ytefcdlkmifieeaa.PFnExactExchange Go.Proofs.YtefcdlkmifieeaaW.PrintWords Go.Proofs.YtefcdlkmifieeaaW.PrintLast

theorem w64 {x : Int} (h1 : -9223372036854775808 ≤ x) (h2 : x ≤ 9223372036854775807) : wrap64 x = x := by unfold wrap64; omega
theorem wf64 {x : Int} (h : (Lit.int .i64 x).wf = true) : -9223372036854775808 ≤ x ∧ x ≤ 9223372036854775807 := by
  simp only [Lit.wf, Bool.and_eq_true, decide_eq_true_eq] at h
  have e1 : IntKind.min .i64 = -9223372036854775808 := by decide
  have e2 : IntKind.max .i64 = 9223372036854775807 := by decide
  omega
theorem wfu8 {x : Int} (h : (Lit.int .u8 x).wf = true) : 0 ≤ x ∧ x ≤ 255 := by
  simp only [Lit.wf, Bool.and_eq_true, decide_eq_true_eq] at h
  have e1 : IntKind.min .u8 = 0 := by decide
  have e2 : IntKind.max .u8 = 255 := by decide
  omega
theorem ev_succ {α : Type} {g : Nat → Option α} {r : α} (h : Ev (fun k => g (k + 1)) r) : Ev g r := Ev.step (fun _ => rfl) h
theorem ev_some {α : Type} {r s : α} (h : r = s) : Ev (fun _ => some r) s := by subst h; exact Ev.now r
theorem ev_fix {α : Type} {o : Option α} {r : α} (h : o = some r) : Ev (fun _ => o) r := ⟨0, fun _ _ => h⟩
theorem ev_at {α : Type} {g : Nat → Option α} {r : α} (n : Nat) (h : ∀ k, g (k + n) = some r) : Ev g r :=
  ⟨n, fun k hk => by obtain ⟨m, rfl⟩ : ∃ m, k = m + n := ⟨k - n, by omega⟩; exact h m⟩
theorem ev_bindc {α β : Type} {o : Option α} {f : Nat → α → Option β} {a : α} {r : β} (h : o = some a) (k : Ev (fun n => f n a) r) : Ev (fun n => o.bind (f n)) r := by
  subst h; exact k
theorem ev_ifp {α : Type} {c : Prop} [Decidable c] {a b : Nat → Option α} {r : α} (h : c) (k : Ev a r) : Ev (fun n => if c then a n else b n) r := by
  simpa only [if_pos h] using k
theorem ev_ifn {α : Type} {c : Prop} [Decidable c] {a b : Nat → Option α} {r : α} (h : ¬ c) (k : Ev b r) : Ev (fun n => if c then a n else b n) r := by
  simpa only [if_neg h] using k
theorem spec_l1In_eq (a b c : Int) : spec_l1In.f a b c = some (decide (b ≤ a ∧ a ≤ c)) := by
  unfold spec_l1In.f
  by_cases h : a ≥ b
  · have h' : b ≤ a := h
    simp [h']
  · have h' : ¬ b ≤ a := h
    simp [h']
theorem impl_InRange_eq (a b c : Int) : impl_InRange.f a b c = some (decide (b ≤ a ∧ a ≤ c)) := by
  unfold impl_InRange.f
  by_cases h : b ≤ a <;> simp [h]
theorem spec_Max_eq (a b : Int) : spec_Max.f a b = some (max a b) := by
  unfold spec_Max.f
  split <;> congr 1 <;> omega
theorem spec_Min_eq (a b : Int) : spec_Min.f a b = some (min a b) := by
  unfold spec_Min.f
  split <;> congr 1 <;> omega
theorem mx_eq (a b : Int) : mx a b = max a b := by unfold mx; omega
theorem mn_eq (a b : Int) : mn a b = min a b := by unfold mn; omega
def ratG (a : Int) : Prop := 0 ≤ a ∧ a ≤ 3000
instance (a : Int) : Decidable (ratG a) := by unfold ratG; infer_instance
def expG (a b : Int) : Int := if ratG a ∧ ratG b then max 50 (min 950 (500 + Int.tdiv (a - b) 2)) else -1
theorem expG_no {a b : Int} (h : ¬ (ratG a ∧ ratG b)) : expG a b = -1 := if_neg h
theorem expG_yes {a b : Int} (h : ratG a ∧ ratG b) : 50 ≤ expG a b ∧ expG a b ≤ 950 := by
  unfold expG; rw [if_pos h]; omega
def excG (a b : Int) (won : Bool) : Int :=
  if ratG a ∧ ratG b then
    (if won = true then max (min (Int.tdiv (32 * (1000 - expG a b)) 1000) (min (3000 - a) b)) (max (-a) (b - 3000))
     else max (min (Int.tdiv (32 * (- expG a b)) 1000) (min (3000 - a) b)) (max (-a) (b - 3000)))
  else 0
theorem tdiv_le {x n : Int} (hn : 0 < n) (h0 : 0 ≤ x) : 0 ≤ Int.tdiv x n ∧ Int.tdiv x n ≤ x := by
  rw [Int.tdiv_eq_ediv_of_nonneg h0]
  exact ⟨Int.ediv_nonneg h0 (by omega), Int.ediv_le_self _ h0⟩
theorem tdiv_bd {x n : Int} (hn : 0 < n) (m : Int) (h0 : -m ≤ x) (h1 : x ≤ m) : -m ≤ Int.tdiv x n ∧ Int.tdiv x n ≤ m := by
  rcases Int.le_total 0 x with h | h
  · have := tdiv_le hn h; omega
  · have := tdiv_le hn (x := -x) (by omega)
    rw [Int.neg_tdiv] at this
    omega
theorem spec_Expected_eq (k : Nat) (a b : Int) : spec_Expected.f (k + 1) a b = some (expG a b) := by
  simp only [spec_Expected.f, spec_Expected.j0, spec_l1In_eq, spec_Max_eq, spec_Min_eq, Option.bind_some]
  by_cases h1 : 0 ≤ a ∧ a ≤ 3000
  · by_cases h2 : 0 ≤ b ∧ b ≤ 3000
    · have e1 : wrap64 (a - b) = a - b := w64 (by omega) (by omega)
      have hd := tdiv_bd (x := a - b) (n := 2) (by omega) 3000 (by omega) (by omega)
      have e2 : wrap64 (Int.tdiv (a - b) 2) = Int.tdiv (a - b) 2 := w64 (by omega) (by omega)
      have e3 : wrap64 (500 + Int.tdiv (a - b) 2) = 500 + Int.tdiv (a - b) 2 := w64 (by omega) (by omega)
      have hr : ratG a ∧ ratG b := ⟨h1, h2⟩
      simp [h1, h2, e1, e2, e3, expG, hr]
    · have hr : ¬ (ratG a ∧ ratG b) := fun h => h2 h.2
      simp [h1, h2, expG, hr]
  · have hr : ¬ (ratG a ∧ ratG b) := fun h => h1 h.1
    simp [h1, expG, hr]
theorem impl_Expected_eq (a b : Int) : impl_Expected.f a b = some (expG a b) := by
  simp only [impl_Expected.f, impl_isRating.f, impl_InRange_eq, mx_eq, mn_eq, Option.bind_some]
  by_cases h1 : 0 ≤ a ∧ a ≤ 3000
  · by_cases h2 : 0 ≤ b ∧ b ≤ 3000
    · have e1 : wrap64 (a - b) = a - b := w64 (by omega) (by omega)
      have hd := tdiv_bd (x := a - b) (n := 2) (by omega) 3000 (by omega) (by omega)
      have e2 : wrap64 (Int.tdiv (a - b) 2) = Int.tdiv (a - b) 2 := w64 (by omega) (by omega)
      have e3 : wrap64 (500 + Int.tdiv (a - b) 2) = 500 + Int.tdiv (a - b) 2 := w64 (by omega) (by omega)
      have hr : ratG a ∧ ratG b := ⟨h1, h2⟩
      simp [h1, h2, e1, e2, e3, expG, hr, Int.min_comm]
    · have hr : ¬ (ratG a ∧ ratG b) := fun h => h2 h.2
      simp [h1, h2, expG, hr]
  · have hr : ¬ (ratG a ∧ ratG b) := fun h => h1 h.1
    simp [h1, expG, hr]
theorem spec_Exchange_eq (k : Nat) (a b : Int) (won : Bool) : spec_Exchange.f (k + 1) a b won = some (excG a b won) := by
  simp only [spec_Exchange.f, spec_Exchange.j0, spec_Expected_eq, spec_Max_eq, spec_Min_eq, Option.bind_some]
  by_cases hr : ratG a ∧ ratG b
  · have hE := expG_yes hr
    have ha : 0 ≤ a ∧ a ≤ 3000 := hr.1
    have hb : 0 ≤ b ∧ b ≤ 3000 := hr.2
    rw [if_neg (by omega), w64 (x := 1000 - expG a b) (by omega) (by omega), w64 (x := - expG a b) (by omega) (by omega), w64 (x := 3000 - a) (by omega) (by omega), w64 (x := -a) (by omega) (by omega), w64 (x := b - 3000) (by omega) (by omega),
      w64 (x := 32 * (1000 - expG a b)) (by omega) (by omega), w64 (x := 32 * (- expG a b)) (by omega) (by omega)]
    have t1 := tdiv_bd (x := 32 * (1000 - expG a b)) (n := 1000) (by omega) 40000 (by omega) (by omega)
    have t2 := tdiv_bd (x := 32 * (- expG a b)) (n := 1000) (by omega) 40000 (by omega) (by omega)
    rw [w64 (x := Int.tdiv (32 * (1000 - expG a b)) 1000) (by omega) (by omega), w64 (x := Int.tdiv (32 * (- expG a b)) 1000) (by omega) (by omega)]
    unfold excG
    rw [if_pos hr]
    cases won <;> simp
  · rw [expG_no hr, if_pos (by omega)]
    unfold excG
    rw [if_neg hr]
theorem impl_Exchange_eq (a b : Int) (won : Bool) : impl_Exchange.f a b won = some (excG a b won) := by
  simp only [impl_Exchange.f, impl_Expected_eq, mx_eq, mn_eq, Option.bind_some]
  by_cases hr : ratG a ∧ ratG b
  · have hE := expG_yes hr
    have ha : 0 ≤ a ∧ a ≤ 3000 := hr.1
    have hb : 0 ≤ b ∧ b ≤ 3000 := hr.2
    rw [if_neg (by omega), w64 (x := 3000 - b) (by omega) (by omega), w64 (x := -(min a (3000 - b))) (by omega) (by omega), w64 (x := 1000 - expG a b) (by omega) (by omega), w64 (x := 3000 - a) (by omega) (by omega),
      w64 (x := 32 * (1000 - expG a b)) (by omega) (by omega), w64 (x := (-32) * expG a b) (by omega) (by omega)]
    have t1 := tdiv_bd (x := 32 * (1000 - expG a b)) (n := 1000) (by omega) 40000 (by omega) (by omega)
    have t2 := tdiv_bd (x := (-32) * expG a b) (n := 1000) (by omega) 40000 (by omega) (by omega)
    rw [w64 (x := Int.tdiv (32 * (1000 - expG a b)) 1000) (by omega) (by omega), w64 (x := Int.tdiv ((-32) * expG a b) 1000) (by omega) (by omega)]
    unfold excG
    rw [if_pos hr, show 32 * (- expG a b) = (-32) * expG a b by omega]
    generalize Int.tdiv (32 * (1000 - expG a b)) 1000 = u at *
    generalize Int.tdiv ((-32) * expG a b) 1000 = v at *
    cases won
    · simp only [Bool.false_eq_true, if_false]
      congr 1; omega
    · simp only [if_true]
      congr 1; omega
  · rw [expG_no hr, if_pos rfl]
    unfold excG
    rw [if_neg hr]
theorem FnExactExchange : laws_FnExactExchange.Pure := by
  intro a0 a1 a2 _ _
  refine ⟨1, ?_⟩
  simp [laws_FnExactExchange.f, spec_Exchange_eq 0, impl_Exchange_eq]

end Go.Proofs.Ytefcdlkmifieeaa.Pure
