/- The program's TakenFrom answers what the reference's answers, for all arguments.
No condition: for every input. -/
import Derived.Test.YtimikonnmcgljaaPFnExactTakenFromx2
set_option linter.unusedVariables false
set_option linter.unusedSimpArgs false
set_option maxHeartbeats 1000000
namespace Go.Proofs.Ytimikonnmcgljaa.Pure
open Go.RowKit Go.Proofs.Ytimikonnmcgljaa.PFnExactTakenFrom Go.Proofs.YtimikonnmcgljaaW.PrintWords Go.Proofs.YtimikonnmcgljaaW.PrintLast

theorem w64 {x : Int} (h1 : -9223372036854775808 ≤ x) (h2 : x ≤ 9223372036854775807) : wrap64 x = x := by unfold wrap64; omega
theorem wf64 {x : Int} (h : (Lit.int .i64 x).wf = true) : -9223372036854775808 ≤ x ∧ x ≤ 9223372036854775807 := by
  simp only [Lit.wf, Bool.and_eq_true, decide_eq_true_eq] at h
  have e1 : IntKind.min .i64 = -9223372036854775808 := by decide
  have e2 : IntKind.max .i64 = 9223372036854775807 := by decide
  omega
theorem wfu8 {x : Int} (h : (Lit.int .u8 x).wf = true) : 0 ≤ x ∧ x ≤ 255 := by
  simp only [Lit.wf, Bool.and_eq_true, decide_eq_true_eq] at h
  have e1 : IntKind.min .u8 = 0 := by decide
  have e2 : IntKind.max .u8 = 255 := by decide
  omega
theorem ev_succ {α : Type} {g : Nat → Option α} {r : α} (h : Ev (fun k => g (k + 1)) r) : Ev g r := Ev.step (fun _ => rfl) h
theorem ev_some {α : Type} {r s : α} (h : r = s) : Ev (fun _ => some r) s := by subst h; exact Ev.now r
theorem ev_fix {α : Type} {o : Option α} {r : α} (h : o = some r) : Ev (fun _ => o) r := ⟨0, fun _ _ => h⟩
theorem ev_at {α : Type} {g : Nat → Option α} {r : α} (n : Nat) (h : ∀ k, g (k + n) = some r) : Ev g r :=
  ⟨n, fun k hk => by obtain ⟨m, rfl⟩ : ∃ m, k = m + n := ⟨k - n, by omega⟩; exact h m⟩
theorem ev_bindc {α β : Type} {o : Option α} {f : Nat → α → Option β} {a : α} {r : β} (h : o = some a) (k : Ev (fun n => f n a) r) : Ev (fun n => o.bind (f n)) r := by
  subst h; exact k
theorem ev_ifp {α : Type} {c : Prop} [Decidable c] {a b : Nat → Option α} {r : α} (h : c) (k : Ev a r) : Ev (fun n => if c then a n else b n) r := by
  simpa only [if_pos h] using k
theorem ev_ifn {α : Type} {c : Prop} [Decidable c] {a b : Nat → Option α} {r : α} (h : ¬ c) (k : Ev b r) : Ev (fun n => if c then a n else b n) r := by
  simpa only [if_neg h] using k
def upO (x : S43) : S46 := ⟨x.f0, x.f1, x.f2⟩
theorem sz_eq (l : List S43) (hm : l.length ≤ maxLen) : laws_szOfferS.f l 1048576 = some (if (l.length : Int) ≤ 1048576 then 1048576 - (l.length : Int) else (-1 : Int)) := by
  unfold maxLen at hm
  unfold laws_szOfferS.f
  rw [w64 (by omega) (by omega)]
  by_cases h : (l.length : Int) ≤ 1048576
  · rw [if_neg (by omega), if_pos h]
  · rw [if_pos (by omega), if_neg h]
theorem rd43 (xs : List S43) (i : Nat) (h : i < xs.length) : rd_T43 xs (i : Int) = xs[i] := by simp [rd_T43, List.getD_eq_getElem?_getD, h]
theorem rd46 (xs : List S46) (i : Nat) (h : i < xs.length) : rd_T46 xs (i : Int) = xs[i] := by simp [rd_T46, List.getD_eq_getElem?_getD, h]
theorem drop46 (xs : List S46) (i : Nat) (h : i < xs.length) : xs.drop i = rd_T46 xs (i : Int) :: xs.drop (i + 1) := by
  rw [List.drop_eq_getElem_cons h, rd46 xs i h]
theorem toOfferS_loop (xs : List S43) (hx : xs.length ≤ 1048576) (d : Nat) : ∀ (i : Nat) (ys : List S46), ys.length = xs.length → i + d = xs.length → ys.take i = (xs.map upO).take i →
    Ev (fun k => laws_toOfferS.l0 k xs ys (i : Int)) (xs.map upO) := by
  induction d with
  | zero =>
    intro i ys hl hd ht
    apply ev_succ
    simp only [laws_toOfferS.l0]
    refine ev_ifn (by omega) (ev_some ?_)
    have h1 : ys.take i = ys := List.take_of_length_le (by omega)
    have h2 : (xs.map upO).take i = xs.map upO := List.take_of_length_le (by simp; omega)
    rw [← h1, ht, h2]
  | succ d ih =>
    intro i ys hl hd ht
    apply ev_succ
    simp only [laws_toOfferS.l0, laws_toOffer.f, Option.bind_some]
    refine ev_ifp (by omega) (ev_ifp (by omega) (ev_ifp (by omega) ?_))
    rw [w64 (by omega) (by omega)]
    have hi : i < xs.length := by omega
    have := ih (i + 1) (ys.set i (upO xs[i])) (by simpa using hl) (by omega) (by
      rw [List.take_succ_eq_append_getElem (l := xs.map upO) (by simpa using hi), List.take_succ_eq_append_getElem (l := ys.set i (upO xs[i])) (by simp; omega), List.getElem_set_self, List.take_set_of_le (by omega), ht]
      simp)
    simpa [rd43 xs i hi, upO] using this
theorem toOfferS_ev (xs : List S43) (hx : xs.length ≤ 1048576) : Ev (fun k => laws_toOfferS.f k xs) (xs.map upO) := by
  unfold laws_toOfferS.f
  refine ev_ifp (by omega) (ev_ifp (by omega) ?_)
  exact toOfferS_loop xs hx xs.length 0 _ (by simp) (by omega) (by simp)
theorem eqOfferS_loop (xs : List S46) (hx : xs.length ≤ 17592186044416) (d : Nat) : ∀ (i : Nat), i + d = xs.length → Ev (fun k => laws_eqOfferS.l0 k xs xs (i : Int)) true := by
  induction d with
  | zero =>
    intro i hd
    apply ev_succ
    simp only [laws_eqOfferS.l0]
    exact ev_ifn (by omega) (Ev.now _)
  | succ d ih =>
    intro i hd
    apply ev_succ
    simp only [laws_eqOfferS.l0]
    refine ev_ifp (by omega) (ev_ifp (by omega) (ev_ifp (by omega) ?_))
    rw [w64 (by omega) (by omega)]
    simpa [laws_eqOffer.f] using ih (i + 1) (by omega)
theorem eqOfferS_ev (xs : List S46) (hx : xs.length ≤ 17592186044416) : Ev (fun k => laws_eqOfferS.f k xs xs) true := by
  unfold laws_eqOfferS.f
  refine ev_ifp rfl ?_
  exact eqOfferS_loop xs hx xs.length 0 (by omega)
def laws_FnExactTakenFrom.Pure : Prop := ∀ (l0 : List (S43)) (a1 : Int), (l0.length ≤ maxLen ∧ ∀ y28 ∈ l0, ((Lit.int .i64 y28.f0).wf = true) ∧ ((Lit.int .i64 y28.f1).wf = true) ∧ (True)) → ((Lit.int .i64 a1).wf = true) → ∃ k, laws_FnExactTakenFrom.f k l0 a1 = some true
theorem taken_both (xs : List S46) (w : Int) (hx : xs.length ≤ 1048576) (d : Nat) : ∀ (i : Nat) (n : Int), i + d = xs.length →
    ∃ r, Ev (fun k => spec_TakenFrom.l0 k xs w n (i : Int)) r ∧ Ev (fun k => impl_TakenFrom.l0 k w n xs (xs.length : Int) (i : Int)) r := by
  induction d with
  | zero =>
    intro i n hd
    refine ⟨n, ?_, ?_⟩
    · apply ev_succ
      simp only [spec_TakenFrom.l0]
      exact ev_ifn (by omega) (Ev.now _)
    · apply ev_succ
      simp only [impl_TakenFrom.l0]
      exact ev_ifn (by omega) (Ev.now _)
  | succ d ih =>
    intro i n hd
    have e1 : wrap64 ((i : Int) + 1) = ((i + 1 : Nat) : Int) := by rw [w64 (by omega) (by omega)]; simp
    by_cases h1 : (rd_T46 xs (i : Int)).f1 = w
    · by_cases h2 : (rd_T46 xs (i : Int)).f2 = true
      · obtain ⟨r, hs, hi⟩ := ih (i + 1) (wrap64 (n + 1)) (by omega)
        refine ⟨r, ?_, ?_⟩
        · apply ev_succ
          simp only [spec_TakenFrom.l0]
          rw [e1]
          exact ev_ifp (by omega) (ev_ifp (by omega) (ev_ifp h1 (ev_ifp h2 hs)))
        · apply ev_succ
          simp only [impl_TakenFrom.l0]
          rw [e1]
          exact ev_ifp (by omega) (ev_ifp (by omega) (ev_ifp (by omega) (ev_ifp h1 (ev_ifp h2 hi))))
      · obtain ⟨r, hs, hi⟩ := ih (i + 1) n (by omega)
        refine ⟨r, ?_, ?_⟩
        · apply ev_succ
          simp only [spec_TakenFrom.l0]
          rw [e1]
          exact ev_ifp (by omega) (ev_ifp (by omega) (ev_ifp h1 (ev_ifn h2 hs)))
        · apply ev_succ
          simp only [impl_TakenFrom.l0]
          rw [e1]
          exact ev_ifp (by omega) (ev_ifp (by omega) (ev_ifp (by omega) (ev_ifp h1 (ev_ifn h2 hi))))
    · obtain ⟨r, hs, hi⟩ := ih (i + 1) n (by omega)
      refine ⟨r, ?_, ?_⟩
      · apply ev_succ
        simp only [spec_TakenFrom.l0]
        rw [e1]
        exact ev_ifp (by omega) (ev_ifp (by omega) (ev_ifn h1 hs))
      · apply ev_succ
        simp only [impl_TakenFrom.l0]
        rw [e1]
        exact ev_ifp (by omega) (ev_ifp (by omega) (ev_ifp (by omega) (ev_ifn h1 hi)))
theorem FnExactTakenFrom : laws_FnExactTakenFrom.Pure := by
  intro l w hg _
  apply Ev.rounds
  unfold laws_FnExactTakenFrom.f
  rw [sz_eq l hg.1]
  simp only [Option.bind_some]
  by_cases h : (l.length : Int) ≤ 1048576
  · rw [if_pos h]
    refine ev_ifn (by omega) ?_
    have ht := toOfferS_ev l (by omega)
    obtain ⟨r, hs, hi⟩ := taken_both (l.map upO) w (by simp; omega) (l.map upO).length 0 0 (by omega)
    have he := eqOfferS_ev (l.map upO) (by simp; omega)
    exact Ev.bind ht (Ev.bind hs (Ev.bind ht (Ev.bind hi (ev_ifp rfl (Ev.bind ht (Ev.bind he (ev_ifp rfl (Ev.now _))))))))
  · rw [if_neg h]
    exact ev_ifp (by omega) (Ev.now _)

end Go.Proofs.Ytimikonnmcgljaa.Pure
