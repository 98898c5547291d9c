/- The program's Clash answers what the reference's answers, for all arguments.
No condition: for every input. -/
import Derived.Test.YtfdalcklgfdadaaPFnExactClashx3
set_option linter.unusedVariables false
set_option linter.unusedSimpArgs false
set_option maxHeartbeats 1000000
namespace Go.Proofs.Ytfdalcklgfdadaa.Pure
open Go.RowKit Go.Proofs.Ytfdalcklgfdadaa.PFnExactClash Go.Proofs.YtfdalcklgfdadaaW.PrintWords Go.Proofs.YtfdalcklgfdadaaW.PrintLast

theorem w64 {x : Int} (h1 : -9223372036854775808 ≤ x) (h2 : x ≤ 9223372036854775807) : wrap64 x = x := by unfold wrap64; omega
theorem wf64 {x : Int} (h : (Lit.int .i64 x).wf = true) : -9223372036854775808 ≤ x ∧ x ≤ 9223372036854775807 := by
  simp only [Lit.wf, Bool.and_eq_true, decide_eq_true_eq] at h
  have e1 : IntKind.min .i64 = -9223372036854775808 := by decide
  have e2 : IntKind.max .i64 = 9223372036854775807 := by decide
  omega
theorem wfu8 {x : Int} (h : (Lit.int .u8 x).wf = true) : 0 ≤ x ∧ x ≤ 255 := by
  simp only [Lit.wf, Bool.and_eq_true, decide_eq_true_eq] at h
  have e1 : IntKind.min .u8 = 0 := by decide
  have e2 : IntKind.max .u8 = 255 := by decide
  omega
theorem ev_succ {α : Type} {g : Nat → Option α} {r : α} (h : Ev (fun k => g (k + 1)) r) : Ev g r := Ev.step (fun _ => rfl) h
theorem ev_some {α : Type} {r s : α} (h : r = s) : Ev (fun _ => some r) s := by subst h; exact Ev.now r
theorem ev_fix {α : Type} {o : Option α} {r : α} (h : o = some r) : Ev (fun _ => o) r := ⟨0, fun _ _ => h⟩
theorem ev_at {α : Type} {g : Nat → Option α} {r : α} (n : Nat) (h : ∀ k, g (k + n) = some r) : Ev g r :=
  ⟨n, fun k hk => by obtain ⟨m, rfl⟩ : ∃ m, k = m + n := ⟨k - n, by omega⟩; exact h m⟩
theorem ev_bindc {α β : Type} {o : Option α} {f : Nat → α → Option β} {a : α} {r : β} (h : o = some a) (k : Ev (fun n => f n a) r) : Ev (fun n => o.bind (f n)) r := by
  subst h; exact k
theorem ev_ifp {α : Type} {c : Prop} [Decidable c] {a b : Nat → Option α} {r : α} (h : c) (k : Ev a r) : Ev (fun n => if c then a n else b n) r := by
  simpa only [if_pos h] using k
theorem ev_ifn {α : Type} {c : Prop} [Decidable c] {a b : Nat → Option α} {r : α} (h : ¬ c) (k : Ev b r) : Ev (fun n => if c then a n else b n) r := by
  simpa only [if_neg h] using k
theorem spec_l1In_eq (a b c : Int) : spec_l1In.f a b c = some (decide (b ≤ a ∧ a ≤ c)) := by
  unfold spec_l1In.f
  by_cases h : a ≥ b
  · have h' : b ≤ a := h
    simp [h']
  · have h' : ¬ b ≤ a := h
    simp [h']
theorem impl_InRange_eq (a b c : Int) : impl_InRange.f a b c = some (decide (b ≤ a ∧ a ≤ c)) := by
  unfold impl_InRange.f
  by_cases h : b ≤ a <;> simp [h]
theorem rd_nat (xs : List Int) (i : Nat) (h : i < xs.length) : rd xs (i : Int) = xs[i] := by
  unfold rd
  simp [List.getD_eq_getElem?_getD, h]
theorem toIntS_loop (xs : List Int) (hx : xs.length ≤ 17592186044416) (d : Nat) : ∀ (i : Nat) (ys : List Int), ys.length = xs.length → i + d = xs.length → ys.take i = xs.take i →
    Ev (fun k => laws_toIntS.l0 k xs ys (i : Int)) xs := by
  induction d with
  | zero =>
    intro i ys hl hd ht
    apply ev_succ
    simp only [laws_toIntS.l0]
    refine ev_ifn (by omega) ?_
    have e : ys = xs := by rw [← List.take_length (l := xs), ← show i = xs.length by omega, ← ht, List.take_of_length_le (by omega)]
    rw [e]
    exact Ev.now _
  | succ d ih =>
    intro i ys hl hd ht
    apply ev_succ
    simp only [laws_toIntS.l0]
    refine ev_ifp (by omega) (ev_ifp (by omega) (ev_ifp (by omega) ?_))
    rw [w64 (by omega) (by omega)]
    have hi : i < xs.length := by omega
    have := ih (i + 1) (ys.set i (rd xs (i : Int))) (by simpa using hl) (by omega) (by
      rw [List.take_succ_eq_append_getElem hi, List.take_succ_eq_append_getElem (by simpa using (by omega : i < ys.length)), List.getElem_set_self, rd_nat xs i hi, List.take_set_of_le (by omega), ht])
    simpa using this
theorem toIntS_ev (xs : List Int) (hx : xs.length ≤ 17592186044416) : Ev (fun k => laws_toIntS.f k xs) xs := by
  unfold laws_toIntS.f
  refine ev_ifp (by omega) (ev_ifp (by omega) ?_)
  exact toIntS_loop xs hx xs.length 0 _ (by simp) (by omega) (by simp)
theorem eqIntS_loop (xs : List Int) (hx : xs.length ≤ 17592186044416) (d : Nat) : ∀ (i : Nat), i + d = xs.length → Ev (fun k => laws_eqIntS.l0 k xs xs (i : Int)) true := by
  induction d with
  | zero =>
    intro i hd
    apply ev_succ
    simp only [laws_eqIntS.l0]
    refine ev_ifn (by omega) ?_
    exact Ev.now _
  | succ d ih =>
    intro i hd
    apply ev_succ
    simp only [laws_eqIntS.l0]
    refine ev_ifp (by omega) (ev_ifp (by omega) (ev_ifp (by omega) ?_))
    rw [w64 (by omega) (by omega)]
    simpa using ih (i + 1) (by omega)
theorem eqIntS_ev (xs : List Int) (hx : xs.length ≤ 17592186044416) : Ev (fun k => laws_eqIntS.f k xs xs) true := by
  unfold laws_eqIntS.f
  refine ev_ifp rfl ?_
  exact eqIntS_loop xs hx xs.length 0 (by omega)
theorem szAmend_eq (a b : Int) (l : List Int) (c : Int) (hm : l.length ≤ maxLen) (h0 : 0 ≤ c) (h1 : c ≤ 1048576) : laws_szAmend.f a b l c = some (if (l.length : Int) ≤ c then c - (l.length : Int) else (-1 : Int)) := by
  unfold maxLen at hm
  unfold laws_szAmend.f laws_szIntS.f
  rw [w64 (by omega) (by omega)]
  by_cases h : (l.length : Int) ≤ c
  · rw [if_neg (by omega), if_pos h]
    simp only [Option.bind_some]
    rw [if_neg (by omega)]
  · rw [if_pos (by omega), if_neg h]
    simp
theorem toAmend_ev (a b : Int) (l : List Int) (h : l.length ≤ 1048576) : Ev (fun k => laws_toAmend.f k a b l) (a, b, l) := by
  unfold laws_toAmend.f
  exact Ev.bind (toIntS_ev l (by omega)) (Ev.now _)
theorem eqAmend_ev (a b : Int) (l : List Int) (h : l.length ≤ 1048576) : Ev (fun k => laws_eqAmend.f k a b l a b l) true := by
  unfold laws_eqAmend.f
  exact ev_ifp rfl (ev_ifp rfl (Ev.bind (eqIntS_ev l (by omega)) (ev_ifp rfl (Ev.now _))))
def laws_FnExactClash.Pure : Prop := ∀ (a0_0 : Int) (a0_1 : Int) (l0_2 : List (Int)) (a1_0 : Int) (a1_1 : Int) (l1_2 : List (Int)), ((Lit.int .i64 a0_0).wf = true) → ((Lit.int .i64 a0_1).wf = true) → (l0_2.length ≤ maxLen ∧ ∀ y22 ∈ l0_2, (Lit.int .i64 y22).wf = true) → ((Lit.int .i64 a1_0).wf = true) → ((Lit.int .i64 a1_1).wf = true) → (l1_2.length ≤ maxLen ∧ ∀ y22 ∈ l1_2, (Lit.int .i64 y22).wf = true) → ∃ k, laws_FnExactClash.f k a0_0 a0_1 l0_2 a1_0 a1_1 l1_2 = some true
theorem clash_both (a b : Int) (l : List Int) (c d : Int) (m : List Int) (ha : -9223372036854775808 ≤ a ∧ a ≤ 9223372036854775807) : ∃ r, Ev (fun k => spec_Clash.f k a b l c d m) r ∧ impl_Clash.f a b l c d m = some r := by
  by_cases h1 : a = c
  · refine ⟨true, ?_, ?_⟩
    · unfold spec_Clash.f
      exact ev_ifp h1 (Ev.now _)
    · unfold impl_Clash.f
      rw [if_pos h1]
  · by_cases hb : b ≤ 0
    · refine ⟨false, ?_, ?_⟩
      · unfold spec_Clash.f
        refine ev_ifn h1 (ev_ifp hb ?_)
        apply ev_succ
        simp only [spec_Clash.j0, if_true]
        exact Ev.now _
      · unfold impl_Clash.f
        rw [if_neg h1]
        have hb' : ¬ b > 0 := by omega
        simp only [impl_InRange_eq, Option.bind_some, if_neg hb']
        repeat' split
        all_goals first | rfl | simp_all
    · by_cases hd : d ≤ 0
      · refine ⟨false, ?_, ?_⟩
        · unfold spec_Clash.f
          refine ev_ifn h1 (ev_ifn hb ?_)
          apply ev_succ
          simp only [spec_Clash.j0, hd, decide_true, if_true]
          exact Ev.now _
        · unfold impl_Clash.f
          rw [if_neg h1]
          have hd' : ¬ d > 0 := by omega
          simp only [impl_InRange_eq, Option.bind_some, if_neg hd']
          repeat' split
          all_goals first | rfl | simp_all
      · have hb' : b > 0 := by omega
        have hd' : d > 0 := by omega
        have hspec : ∀ r, Ev (fun k => spec_Clash.j0 k false a b l c d m) r → Ev (fun k => spec_Clash.f k a b l c d m) r := by
          intro r hr
          unfold spec_Clash.f
          refine ev_ifn h1 (ev_ifn hb ?_)
          simpa [hd] using hr
        by_cases h2 : a < c
        · by_cases h3 : 0 ≤ a ∧ a ≤ 1000
          · by_cases h4 : 0 ≤ c ∧ c ≤ 1000
            · refine ⟨decide (wrap64 (c - a) < b), hspec _ ?_, ?_⟩
              · apply ev_succ
                simp only [spec_Clash.j0, Bool.false_eq_true, if_false, if_pos h2, spec_l1In_eq, Option.bind_some, h3, h4, and_self, decide_true, if_true]
                exact Ev.now _
              · unfold impl_Clash.f
                rw [if_neg h1, if_neg (by omega)]
                simp only [impl_InRange_eq, Option.bind_some, h3, h4, and_self, decide_true, if_true, if_pos hb', if_pos hd']
            · refine ⟨false, hspec _ ?_, ?_⟩
              · apply ev_succ
                simp only [spec_Clash.j0, Bool.false_eq_true, if_false, if_pos h2, spec_l1In_eq, Option.bind_some, h3, h4, and_self, decide_true, decide_false, if_true]
                exact Ev.now _
              · unfold impl_Clash.f
                rw [if_neg h1, if_neg (by omega)]
                simp only [impl_InRange_eq, Option.bind_some, h3, h4, and_self, decide_true, decide_false, if_true, Bool.false_eq_true, if_false]
          · refine ⟨false, hspec _ ?_, ?_⟩
            · apply ev_succ
              simp only [spec_Clash.j0, Bool.false_eq_true, if_false, if_pos h2, spec_l1In_eq, Option.bind_some, h3, decide_false]
              exact Ev.now _
            · unfold impl_Clash.f
              rw [if_neg h1, if_neg (by omega)]
              simp only [impl_InRange_eq, Option.bind_some, h3, decide_false, Bool.false_eq_true, if_false]
        · have h2' : c < a := by omega
          by_cases h3 : 0 ≤ a ∧ a ≤ 1000
          · by_cases h4 : 0 ≤ c ∧ c ≤ 1000
            · refine ⟨decide (wrap64 (a - c) < d), hspec _ ?_, ?_⟩
              · apply ev_succ
                simp only [spec_Clash.j0, Bool.false_eq_true, if_false, if_neg h2, spec_l1In_eq, Option.bind_some, h3, h4, and_self, decide_true, if_true]
                exact Ev.now _
              · unfold impl_Clash.f
                rw [if_neg h1, if_pos h2']
                simp only [impl_InRange_eq, Option.bind_some, h3, h4, and_self, decide_true, if_true, if_pos hb', if_pos hd']
            · refine ⟨false, hspec _ ?_, ?_⟩
              · apply ev_succ
                simp only [spec_Clash.j0, Bool.false_eq_true, if_false, if_neg h2, spec_l1In_eq, Option.bind_some, h3, h4, and_self, decide_true, decide_false, if_true]
                exact Ev.now _
              · unfold impl_Clash.f
                rw [if_neg h1, if_pos h2']
                simp only [impl_InRange_eq, Option.bind_some, h3, h4, and_self, decide_true, decide_false, if_true, Bool.false_eq_true, if_false]
          · refine ⟨false, hspec _ ?_, ?_⟩
            · apply ev_succ
              simp only [spec_Clash.j0, Bool.false_eq_true, if_false, if_neg h2, spec_l1In_eq, Option.bind_some, h3, decide_false]
              exact Ev.now _
            · unfold impl_Clash.f
              rw [if_neg h1, if_pos h2']
              simp only [impl_InRange_eq, Option.bind_some, h3, decide_false, Bool.false_eq_true, if_false]
              split <;> simp
theorem FnExactClash : laws_FnExactClash.Pure := by
  intro a b l c d m ha hb hl hc hd hm
  apply Ev.rounds
  unfold laws_FnExactClash.f
  rw [szAmend_eq a b l _ hl.1 (by omega) (by omega)]
  simp only [Option.bind_some]
  by_cases h : (l.length : Int) ≤ 1048576
  · rw [if_pos h]
    refine ev_ifn (by omega) ?_
    rw [szAmend_eq c d m _ hm.1 (by omega) (by omega)]
    simp only [Option.bind_some]
    by_cases h' : (m.length : Int) ≤ 1048576 - (l.length : Int)
    · rw [if_pos h']
      refine ev_ifn (by omega) ?_
      have ta := toAmend_ev a b l (by omega)
      have tb := toAmend_ev c d m (by omega)
      have ea := eqAmend_ev a b l (by omega)
      have eb := eqAmend_ev c d m (by omega)
      obtain ⟨r, hs, hi⟩ := clash_both a b l c d m (wf64 ha)
      refine Ev.bind ta (Ev.bind tb (Ev.bind hs (Ev.bind ta (Ev.bind tb (ev_bindc hi (ev_ifn (by simp) (Ev.bind ta (Ev.bind ea (ev_ifp rfl (Ev.bind tb (Ev.bind eb (ev_ifp rfl (Ev.now _)))))))))))))
    · rw [if_neg h']
      exact ev_ifp (by omega) (Ev.now _)
  · rw [if_neg h]
    exact ev_ifp (by omega) (Ev.now _)

end Go.Proofs.Ytfdalcklgfdadaa.Pure
