/- The program's LastSeal answers what the reference's answers, for all arguments.
No condition: for every input. -/
import Derived.Test.YtfdalcklgfdadaaPFnExactLastSealx1
set_option linter.unusedVariables false
set_option linter.unusedSimpArgs false
set_option maxHeartbeats 1000000
namespace Go.Proofs.Ytfdalcklgfdadaa.Pure
open Go.RowKit Go.Proofs.Ytfdalcklgfdadaa.PFnExactLastSeal Go.Proofs.YtfdalcklgfdadaaW.PrintWords Go.Proofs.YtfdalcklgfdadaaW.PrintLast

theorem w64 {x : Int} (h1 : -9223372036854775808 ≤ x) (h2 : x ≤ 9223372036854775807) : wrap64 x = x := by unfold wrap64; omega
theorem wf64 {x : Int} (h : (Lit.int .i64 x).wf = true) : -9223372036854775808 ≤ x ∧ x ≤ 9223372036854775807 := by
  simp only [Lit.wf, Bool.and_eq_true, decide_eq_true_eq] at h
  have e1 : IntKind.min .i64 = -9223372036854775808 := by decide
  have e2 : IntKind.max .i64 = 9223372036854775807 := by decide
  omega
theorem wfu8 {x : Int} (h : (Lit.int .u8 x).wf = true) : 0 ≤ x ∧ x ≤ 255 := by
  simp only [Lit.wf, Bool.and_eq_true, decide_eq_true_eq] at h
  have e1 : IntKind.min .u8 = 0 := by decide
  have e2 : IntKind.max .u8 = 255 := by decide
  omega
theorem ev_succ {α : Type} {g : Nat → Option α} {r : α} (h : Ev (fun k => g (k + 1)) r) : Ev g r := Ev.step (fun _ => rfl) h
theorem ev_some {α : Type} {r s : α} (h : r = s) : Ev (fun _ => some r) s := by subst h; exact Ev.now r
theorem ev_fix {α : Type} {o : Option α} {r : α} (h : o = some r) : Ev (fun _ => o) r := ⟨0, fun _ _ => h⟩
theorem ev_at {α : Type} {g : Nat → Option α} {r : α} (n : Nat) (h : ∀ k, g (k + n) = some r) : Ev g r :=
  ⟨n, fun k hk => by obtain ⟨m, rfl⟩ : ∃ m, k = m + n := ⟨k - n, by omega⟩; exact h m⟩
theorem ev_bindc {α β : Type} {o : Option α} {f : Nat → α → Option β} {a : α} {r : β} (h : o = some a) (k : Ev (fun n => f n a) r) : Ev (fun n => o.bind (f n)) r := by
  subst h; exact k
theorem ev_ifp {α : Type} {c : Prop} [Decidable c] {a b : Nat → Option α} {r : α} (h : c) (k : Ev a r) : Ev (fun n => if c then a n else b n) r := by
  simpa only [if_pos h] using k
theorem ev_ifn {α : Type} {c : Prop} [Decidable c] {a b : Nat → Option α} {r : α} (h : ¬ c) (k : Ev b r) : Ev (fun n => if c then a n else b n) r := by
  simpa only [if_neg h] using k
theorem rd80 (xs : List S80) (i : Nat) (h : i < xs.length) : rd_T80 xs (i : Int) = xs[i] := by simp [rd_T80, List.getD_eq_getElem?_getD, h]
theorem drop80 (xs : List S80) (i : Nat) (h : i < xs.length) : xs.drop i = rd_T80 xs (i : Int) :: xs.drop (i + 1) := by
  rw [List.drop_eq_getElem_cons h, rd80 xs i h]
def upLine (x : S82) : S80 := ⟨x.f0, x.f1, x.f2, x.f3⟩
theorem szLine_eq (l : List S82) (c : Int) (hm : l.length ≤ maxLen) (h0 : 0 ≤ c) (h1 : c ≤ 1048576) : laws_szLineS.f l c = some (if (l.length : Int) ≤ c then c - (l.length : Int) else (-1 : Int)) := by
  unfold maxLen at hm
  unfold laws_szLineS.f
  rw [w64 (by omega) (by omega)]
  by_cases h : (l.length : Int) ≤ c
  · rw [if_neg (by omega), if_pos h]
  · rw [if_pos (by omega), if_neg h]
theorem rd82 (xs : List S82) (i : Nat) (h : i < xs.length) : rd_T82 xs (i : Int) = xs[i] := by simp [rd_T82, List.getD_eq_getElem?_getD, h]
theorem toLineS_loop (xs : List S82) (hx : xs.length ≤ 1048576) (d : Nat) : ∀ (i : Nat) (ys : List S80), ys.length = xs.length → i + d = xs.length → ys.take i = (xs.map upLine).take i →
    Ev (fun k => laws_toLineS.l0 k xs ys (i : Int)) (xs.map upLine) := by
  induction d with
  | zero =>
    intro i ys hl hd ht
    apply ev_succ
    simp only [laws_toLineS.l0]
    refine ev_ifn (by omega) (ev_some ?_)
    have h1 : ys.take i = ys := List.take_of_length_le (by omega)
    have h2 : (xs.map upLine).take i = xs.map upLine := List.take_of_length_le (by simp; omega)
    rw [← h1, ht, h2]
  | succ d ih =>
    intro i ys hl hd ht
    apply ev_succ
    simp only [laws_toLineS.l0, laws_toLine.f, Option.bind_some]
    refine ev_ifp (by omega) (ev_ifp (by omega) (ev_ifp (by omega) ?_))
    rw [w64 (by omega) (by omega)]
    have hi : i < xs.length := by omega
    have := ih (i + 1) (ys.set i (upLine xs[i])) (by simpa using hl) (by omega) (by
      rw [List.take_succ_eq_append_getElem (l := xs.map upLine) (by simpa using hi), List.take_succ_eq_append_getElem (l := ys.set i (upLine xs[i])) (by simp; omega), List.getElem_set_self, List.take_set_of_le (by omega), ht]
      simp)
    simpa [rd82 xs i hi, upLine] using this
theorem toLineS_ev (xs : List S82) (hx : xs.length ≤ 1048576) : Ev (fun k => laws_toLineS.f k xs) (xs.map upLine) := by
  unfold laws_toLineS.f
  refine ev_ifp (by omega) (ev_ifp (by omega) ?_)
  exact toLineS_loop xs hx xs.length 0 _ (by simp) (by omega) (by simp)
theorem eqLineS_loop (xs : List S80) (hx : xs.length ≤ 17592186044416) (d : Nat) : ∀ (i : Nat), i + d = xs.length → Ev (fun k => laws_eqLineS.l0 k xs xs (i : Int)) true := by
  induction d with
  | zero =>
    intro i hd
    apply ev_succ
    simp only [laws_eqLineS.l0]
    exact ev_ifn (by omega) (Ev.now _)
  | succ d ih =>
    intro i hd
    apply ev_succ
    simp only [laws_eqLineS.l0]
    refine ev_ifp (by omega) (ev_ifp (by omega) (ev_ifp (by omega) ?_))
    rw [w64 (by omega) (by omega)]
    simpa [laws_eqLine.f] using ih (i + 1) (by omega)
theorem eqLineS_ev (xs : List S80) (hx : xs.length ≤ 17592186044416) : Ev (fun k => laws_eqLineS.f k xs xs) true := by
  unfold laws_eqLineS.f
  refine ev_ifp rfl ?_
  exact eqLineS_loop xs hx xs.length 0 (by omega)
def laws_FnExactLastSeal.Pure : Prop := ∀ (l0 : List (S82)), (l0.length ≤ maxLen ∧ ∀ y60 ∈ l0, ((Lit.int .i64 y60.f0).wf = true) ∧ ((Lit.int .i64 y60.f1).wf = true) ∧ ((Lit.int .i64 y60.f2).wf = true) ∧ ((Lit.int .i64 y60.f3).wf = true)) → ∃ k, laws_FnExactLastSeal.f k l0 = some true
theorem FnExactLastSeal : laws_FnExactLastSeal.Pure := by
  intro l hg
  apply Ev.rounds
  unfold laws_FnExactLastSeal.f
  rw [szLine_eq l _ hg.1 (by omega) (by omega)]
  simp only [Option.bind_some]
  by_cases h : (l.length : Int) ≤ 1048576
  · rw [if_pos h]
    refine ev_ifn (by omega) ?_
    have ht := toLineS_ev l (by omega)
    have he := eqLineS_ev (l.map upLine) (by simp; omega)
    have e : impl_LastSeal.f (l.map upLine) = spec_LastSeal.f (l.map upLine) := rfl
    obtain ⟨r, hr⟩ : ∃ r, spec_LastSeal.f (l.map upLine) = some r := by
      unfold spec_LastSeal.f
      by_cases h0 : ((l.map upLine).length : Int) = 0
      · rw [if_pos h0]
        exact ⟨_, rfl⟩
      · have h1 : 1 ≤ l.length := by
          have : (l.map upLine).length = l.length := by simp
          omega
        have h2 : ((l.map upLine).length : Int) = l.length := by simp
        rw [if_neg h0, h2, w64 (by omega) (by omega), if_pos (by omega), if_pos (by omega)]
        exact ⟨_, rfl⟩
    refine Ev.bind ht ?_
    rw [hr]
    simp only [Option.bind_some]
    refine Ev.bind ht ?_
    rw [e, hr]
    simp only [Option.bind_some]
    exact ev_ifp trivial (Ev.bind ht (Ev.bind he (ev_ifp rfl (Ev.now _))))
  · rw [if_neg h]
    exact ev_ifp (by omega) (Ev.now _)

end Go.Proofs.Ytfdalcklgfdadaa.Pure
