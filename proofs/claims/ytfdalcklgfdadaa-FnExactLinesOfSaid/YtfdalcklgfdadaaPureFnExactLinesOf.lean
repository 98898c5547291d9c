/- The program's LinesOf answers what the reference's answers, for all arguments.
No condition: for every input. -/
import Derived.Test.YtfdalcklgfdadaaPFnExactLinesOfx3
set_option linter.unusedVariables false
set_option linter.unusedSimpArgs false
set_option maxHeartbeats 1000000
namespace Go.Proofs.Ytfdalcklgfdadaa.Pure
open Go.RowKit Go.Proofs.Ytfdalcklgfdadaa.PFnExactLinesOf Go.Proofs.YtfdalcklgfdadaaW.PrintWords Go.Proofs.YtfdalcklgfdadaaW.PrintLast

theorem w64 {x : Int} (h1 : -9223372036854775808 ≤ x) (h2 : x ≤ 9223372036854775807) : wrap64 x = x := by unfold wrap64; omega
theorem wf64 {x : Int} (h : (Lit.int .i64 x).wf = true) : -9223372036854775808 ≤ x ∧ x ≤ 9223372036854775807 := by
  simp only [Lit.wf, Bool.and_eq_true, decide_eq_true_eq] at h
  have e1 : IntKind.min .i64 = -9223372036854775808 := by decide
  have e2 : IntKind.max .i64 = 9223372036854775807 := by decide
  omega
theorem wfu8 {x : Int} (h : (Lit.int .u8 x).wf = true) : 0 ≤ x ∧ x ≤ 255 := by
  simp only [Lit.wf, Bool.and_eq_true, decide_eq_true_eq] at h
  have e1 : IntKind.min .u8 = 0 := by decide
  have e2 : IntKind.max .u8 = 255 := by decide
  omega
theorem ev_succ {α : Type} {g : Nat → Option α} {r : α} (h : Ev (fun k => g (k + 1)) r) : Ev g r := Ev.step (fun _ => rfl) h
theorem ev_some {α : Type} {r s : α} (h : r = s) : Ev (fun _ => some r) s := by subst h; exact Ev.now r
theorem ev_fix {α : Type} {o : Option α} {r : α} (h : o = some r) : Ev (fun _ => o) r := ⟨0, fun _ _ => h⟩
theorem ev_at {α : Type} {g : Nat → Option α} {r : α} (n : Nat) (h : ∀ k, g (k + n) = some r) : Ev g r :=
  ⟨n, fun k hk => by obtain ⟨m, rfl⟩ : ∃ m, k = m + n := ⟨k - n, by omega⟩; exact h m⟩
theorem ev_bindc {α β : Type} {o : Option α} {f : Nat → α → Option β} {a : α} {r : β} (h : o = some a) (k : Ev (fun n => f n a) r) : Ev (fun n => o.bind (f n)) r := by
  subst h; exact k
theorem ev_ifp {α : Type} {c : Prop} [Decidable c] {a b : Nat → Option α} {r : α} (h : c) (k : Ev a r) : Ev (fun n => if c then a n else b n) r := by
  simpa only [if_pos h] using k
theorem ev_ifn {α : Type} {c : Prop} [Decidable c] {a b : Nat → Option α} {r : α} (h : ¬ c) (k : Ev b r) : Ev (fun n => if c then a n else b n) r := by
  simpa only [if_neg h] using k
theorem eqIntS_loop (xs : List Int) (hx : xs.length ≤ 17592186044416) (d : Nat) : ∀ (i : Nat), i + d = xs.length → Ev (fun k => laws_eqIntS.l0 k xs xs (i : Int)) true := by
  induction d with
  | zero =>
    intro i hd
    apply ev_succ
    simp only [laws_eqIntS.l0]
    refine ev_ifn (by omega) ?_
    exact Ev.now _
  | succ d ih =>
    intro i hd
    apply ev_succ
    simp only [laws_eqIntS.l0]
    refine ev_ifp (by omega) (ev_ifp (by omega) (ev_ifp (by omega) ?_))
    rw [w64 (by omega) (by omega)]
    simpa using ih (i + 1) (by omega)
theorem eqIntS_ev (xs : List Int) (hx : xs.length ≤ 17592186044416) : Ev (fun k => laws_eqIntS.f k xs xs) true := by
  unfold laws_eqIntS.f
  refine ev_ifp rfl ?_
  exact eqIntS_loop xs hx xs.length 0 (by omega)
theorem markInt_loop (n : Nat) (hn : n ≤ 1100000) (a : Int) (h0 : 0 ≤ a) (h1 : a ≤ 1000000000000) (d : Nat) : ∀ (i : Nat) (xs : List Int), xs.length = n → i + d = n → ∃ ys : List Int, Ev (fun k => laws_markIntS.l0 k xs (a + (i : Int)) (i : Int)) (a + (n : Int), ys) ∧ ys.length = n ∧ (∀ j : Nat, i ≤ j → j < n → ys[j]? = some (a + (j : Int))) ∧ (∀ j : Nat, j < i → ys[j]? = xs[j]?) := by
  induction d with
  | zero =>
    intro i xs hl hd
    refine ⟨xs, ?_, hl, fun j h1 h2 => by omega, fun j _ => rfl⟩
    apply ev_succ
    simp only [laws_markIntS.l0]
    refine ev_ifn (by omega) (ev_some ?_)
    rw [show (i : Int) = n by omega]
  | succ d ih =>
    intro i xs hl hd
    obtain ⟨ys, he, hy, h2, h3⟩ := ih (i + 1) (xs.set i (a + (i : Int))) (by simpa using hl) (by omega)
    refine ⟨ys, ?_, hy, fun j hj hn' => ?_, fun j hj => ?_⟩
    · apply ev_succ
      have w0 : wrap64 (a + (i : Int) + 1) = a + ((i + 1 : Nat) : Int) := by rw [w64 (by omega) (by omega)]; omega
      have w' : wrap64 ((i : Int) + 1) = ((i + 1 : Nat) : Int) := by rw [w64 (by omega) (by omega)]; simp
      simp only [laws_markIntS.l0, Int.toNat_natCast, w0, w']
      exact ev_ifp (by omega) (ev_ifp (by omega) he)
    · by_cases hji : j = i
      · subst hji
        rw [h3 j (by omega)]
        simp [show j < xs.length by omega]
      · exact h2 j (by omega) hn'
    · rw [h3 j (by omega), List.getElem?_set_ne (by omega)]
theorem markInt_at (xs : List Int) (hx : xs.length ≤ 1100000) (a : Int) (h0 : 0 ≤ a) (h1 : a ≤ 1000000000000) : ∃ ys, Ev (fun k => laws_markIntS.f k xs a) (a + (xs.length : Int), ys) ∧ ys.length = xs.length ∧ ∀ j : Nat, j < xs.length → ys[j]? = some (a + (j : Int)) := by
  obtain ⟨ys, he, hy, h2, h3⟩ := markInt_loop xs.length hx a h0 h1 xs.length 0 xs rfl (by omega)
  refine ⟨ys, ?_, hy, fun j hj => h2 j (by omega) hj⟩
  unfold laws_markIntS.f
  simpa using he
theorem heldInt_loop (ys : List Int) (n : Nat) (hn : n ≤ 1100000) (a : Int) (h0 : 0 ≤ a) (h1 : a ≤ 1000000000000) (hl : ys.length = n) (h : ∀ j : Nat, j < n → ys[j]? = some (a + (j : Int))) (d : Nat) : ∀ i : Nat, i + d = n → Ev (fun k => laws_heldIntS.l0 k ys (a + (i : Int)) (i : Int)) (a + (n : Int)) := by
  induction d with
  | zero =>
    intro i hd
    apply ev_succ
    simp only [laws_heldIntS.l0]
    refine ev_ifn (by omega) (ev_some ?_)
    rw [show (i : Int) = n by omega]
  | succ d ih =>
    intro i hd
    apply ev_succ
    have hr : rd ys (i : Int) = a + (i : Int) := by
      have := h i (by omega)
      simp [rd, List.getD_eq_getElem?_getD, this]
    have w0 : wrap64 (a + (i : Int) + 1) = a + ((i + 1 : Nat) : Int) := by rw [w64 (by omega) (by omega)]; omega
    have w' : wrap64 ((i : Int) + 1) = ((i + 1 : Nat) : Int) := by rw [w64 (by omega) (by omega)]; simp
    simp only [laws_heldIntS.l0, w0, w']
    exact ev_ifp (by omega) (ev_ifp (by omega) (ev_ifp hr (ih (i + 1) (by omega))))
theorem markInt_ev (xs : List Int) (hx : xs.length ≤ 1100000) : ∃ m ys, Ev (fun k => laws_markIntS.f k xs 1) (m, ys) ∧ 0 ≤ m ∧ Ev (fun k => laws_heldIntS.f k ys 1) m := by
  obtain ⟨ys, he, hy, h2⟩ := markInt_at xs hx 1 (by omega) (by omega)
  refine ⟨1 + (xs.length : Int), ys, he, by omega, ?_⟩
  unfold laws_heldIntS.f
  simpa using heldInt_loop ys xs.length hx 1 (by omega) (by omega) hy h2 xs.length 0 (by omega)
theorem rd80 (xs : List S80) (i : Nat) (h : i < xs.length) : rd_T80 xs (i : Int) = xs[i] := by simp [rd_T80, List.getD_eq_getElem?_getD, h]
theorem drop80 (xs : List S80) (i : Nat) (h : i < xs.length) : xs.drop i = rd_T80 xs (i : Int) :: xs.drop (i + 1) := by
  rw [List.drop_eq_getElem_cons h, rd80 xs i h]
def upLine (x : S82) : S80 := ⟨x.f0, x.f1, x.f2, x.f3⟩
theorem szLine_eq (l : List S82) (c : Int) (hm : l.length ≤ maxLen) (h0 : 0 ≤ c) (h1 : c ≤ 1048576) : laws_szLineS.f l c = some (if (l.length : Int) ≤ c then c - (l.length : Int) else (-1 : Int)) := by
  unfold maxLen at hm
  unfold laws_szLineS.f
  rw [w64 (by omega) (by omega)]
  by_cases h : (l.length : Int) ≤ c
  · rw [if_neg (by omega), if_pos h]
  · rw [if_pos (by omega), if_neg h]
theorem rd82 (xs : List S82) (i : Nat) (h : i < xs.length) : rd_T82 xs (i : Int) = xs[i] := by simp [rd_T82, List.getD_eq_getElem?_getD, h]
theorem toLineS_loop (xs : List S82) (hx : xs.length ≤ 1048576) (d : Nat) : ∀ (i : Nat) (ys : List S80), ys.length = xs.length → i + d = xs.length → ys.take i = (xs.map upLine).take i →
    Ev (fun k => laws_toLineS.l0 k xs ys (i : Int)) (xs.map upLine) := by
  induction d with
  | zero =>
    intro i ys hl hd ht
    apply ev_succ
    simp only [laws_toLineS.l0]
    refine ev_ifn (by omega) (ev_some ?_)
    have h1 : ys.take i = ys := List.take_of_length_le (by omega)
    have h2 : (xs.map upLine).take i = xs.map upLine := List.take_of_length_le (by simp; omega)
    rw [← h1, ht, h2]
  | succ d ih =>
    intro i ys hl hd ht
    apply ev_succ
    simp only [laws_toLineS.l0, laws_toLine.f, Option.bind_some]
    refine ev_ifp (by omega) (ev_ifp (by omega) (ev_ifp (by omega) ?_))
    rw [w64 (by omega) (by omega)]
    have hi : i < xs.length := by omega
    have := ih (i + 1) (ys.set i (upLine xs[i])) (by simpa using hl) (by omega) (by
      rw [List.take_succ_eq_append_getElem (l := xs.map upLine) (by simpa using hi), List.take_succ_eq_append_getElem (l := ys.set i (upLine xs[i])) (by simp; omega), List.getElem_set_self, List.take_set_of_le (by omega), ht]
      simp)
    simpa [rd82 xs i hi, upLine] using this
theorem toLineS_ev (xs : List S82) (hx : xs.length ≤ 1048576) : Ev (fun k => laws_toLineS.f k xs) (xs.map upLine) := by
  unfold laws_toLineS.f
  refine ev_ifp (by omega) (ev_ifp (by omega) ?_)
  exact toLineS_loop xs hx xs.length 0 _ (by simp) (by omega) (by simp)
theorem eqLineS_loop (xs : List S80) (hx : xs.length ≤ 17592186044416) (d : Nat) : ∀ (i : Nat), i + d = xs.length → Ev (fun k => laws_eqLineS.l0 k xs xs (i : Int)) true := by
  induction d with
  | zero =>
    intro i hd
    apply ev_succ
    simp only [laws_eqLineS.l0]
    exact ev_ifn (by omega) (Ev.now _)
  | succ d ih =>
    intro i hd
    apply ev_succ
    simp only [laws_eqLineS.l0]
    refine ev_ifp (by omega) (ev_ifp (by omega) (ev_ifp (by omega) ?_))
    rw [w64 (by omega) (by omega)]
    simpa [laws_eqLine.f] using ih (i + 1) (by omega)
theorem eqLineS_ev (xs : List S80) (hx : xs.length ≤ 17592186044416) : Ev (fun k => laws_eqLineS.f k xs xs) true := by
  unfold laws_eqLineS.f
  refine ev_ifp rfl ?_
  exact eqLineS_loop xs hx xs.length 0 (by omega)
def elLine (a : Int) : S80 := ⟨a, a + 1, a + 2, a + 3⟩
theorem rdset80 (xs : List S80) (i : Nat) (v : S80) (h : i < xs.length) : rd_T80 (xs.set i v) (i : Int) = v := by
  rw [rd80 _ _ (by simpa using h)]
  simp
theorem markLine_loop (n : Nat) (hn : n ≤ 1100000) (d : Nat) : ∀ (i : Nat) (xs : List S80), xs.length = n → i + d = n → ∃ ys, Ev (fun k => laws_markLineS.l0 k xs (1 + 4 * (i : Int)) (i : Int)) (1 + 4 * (n : Int), ys) ∧ ys.length = n ∧ (∀ j : Nat, i ≤ j → j < n → ys[j]? = some (elLine (1 + 4 * (j : Int)))) ∧ (∀ j : Nat, j < i → ys[j]? = xs[j]?) := by
  induction d with
  | zero =>
    intro i xs hl hd
    refine ⟨xs, ?_, hl, fun j h1 h2 => by omega, fun j _ => rfl⟩
    apply ev_succ
    simp only [laws_markLineS.l0]
    refine ev_ifn (by omega) (ev_some ?_)
    rw [show (i : Int) = n by omega]
  | succ d ih =>
    intro i xs hl hd
    obtain ⟨ys, he, hy, h1, h2⟩ := ih (i + 1) (xs.set i (elLine (1 + 4 * (i : Int)))) (by simpa using hl) (by omega)
    refine ⟨ys, ?_, hy, fun j hj hn' => ?_, fun j hj => ?_⟩
    · apply ev_succ
      have hi : i < xs.length := by omega
      have w0 : wrap64 (1 + 4 * (i : Int) + 1) = 1 + 4 * (i : Int) + 1 := by rw [w64 (by omega) (by omega)] <;> omega
      have w1 : wrap64 (1 + 4 * (i : Int) + 1 + 1) = 1 + 4 * (i : Int) + 2 := by rw [w64 (by omega) (by omega)] <;> omega
      have w2 : wrap64 (1 + 4 * (i : Int) + 2 + 1) = 1 + 4 * (i : Int) + 3 := by rw [w64 (by omega) (by omega)] <;> omega
      have w3 : wrap64 (1 + 4 * (i : Int) + 3 + 1) = 1 + 4 * (i : Int) + 4 := by rw [w64 (by omega) (by omega)] <;> omega
      simp only [laws_markLineS.l0, Option.bind_some, Int.toNat_natCast, rdset80 _ _ _ hi, List.set_set, List.length_set, w0, w1, w2, w3]
      have w' : wrap64 ((i : Int) + 1) = ((i + 1 : Nat) : Int) := by rw [w64 (by omega) (by omega)]; simp
      rw [w']
      refine ev_ifp (by omega) (ev_ifp (by omega) ?_)
      have e : 1 + 4 * ((i + 1 : Nat) : Int) = 1 + 4 * (i : Int) + 4 := by omega
      rw [e] at he
      simpa [elLine, Int.add_assoc, Int.mul_comm] using he
    · by_cases hji : j = i
      · subst hji
        rw [h2 j (by omega)]
        simp [show j < xs.length by omega]
      · exact h1 j (by omega) hn'
    · rw [h2 j (by omega), List.getElem?_set_ne (by omega)]
theorem markLine_ev (xs : List S80) (hx : xs.length ≤ 1100000) : ∃ m ys, Ev (fun k => laws_markLineS.f k xs 1) (m, ys) ∧ 0 ≤ m := by
  obtain ⟨ys, he, hy, h1, h2⟩ := markLine_loop xs.length hx xs.length 0 xs rfl (by omega)
  refine ⟨1 + 4 * (xs.length : Int), ys, ?_, by omega⟩
  · unfold laws_markLineS.f
    simpa using he
def laws_FnExactLinesOf.Pure : Prop := ∀ (l0 : List (S82)) (a1 : Int), (l0.length ≤ maxLen ∧ ∀ y60 ∈ l0, ((Lit.int .i64 y60.f0).wf = true) ∧ ((Lit.int .i64 y60.f1).wf = true) ∧ ((Lit.int .i64 y60.f2).wf = true) ∧ ((Lit.int .i64 y60.f3).wf = true)) → ((Lit.int .i64 a1).wf = true) → ∃ k, laws_FnExactLinesOf.f k l0 a1 = some true
theorem lines_both (xs : List S80) (w : Int) (hx : xs.length ≤ 1048576) (d : Nat) : ∀ (i : Nat) (o : List Int), i + d = xs.length → o.length ≤ i →
    ∃ r : List Int, r.length ≤ xs.length ∧ Ev (fun k => spec_LinesOf.l0 k xs w o (i : Int)) r ∧ Ev (fun k => impl_LinesOf.l0 k w o xs (xs.length : Int) (i : Int)) r := by
  induction d with
  | zero =>
    intro i o hd ho
    refine ⟨o, by omega, ?_, ?_⟩
    · apply ev_succ
      simp only [spec_LinesOf.l0]
      exact ev_ifn (by omega) (Ev.now _)
    · apply ev_succ
      simp only [impl_LinesOf.l0]
      exact ev_ifn (by omega) (Ev.now _)
  | succ d ih =>
    intro i o hd ho
    have e1 : wrap64 ((i : Int) + 1) = ((i + 1 : Nat) : Int) := by rw [w64 (by omega) (by omega)]; simp
    by_cases h1 : (rd_T80 xs (i : Int)).f2 = w
    · obtain ⟨r, hr, hs, hi⟩ := ih (i + 1) (o ++ [(rd_T80 xs (i : Int)).f0]) (by omega) (by simp; omega)
      refine ⟨r, hr, ?_, ?_⟩
      · apply ev_succ
        simp only [spec_LinesOf.l0]
        rw [e1]
        exact ev_ifp (by omega) (ev_ifp (by omega) (ev_ifp h1 (ev_ifp (by omega) hs)))
      · apply ev_succ
        simp only [impl_LinesOf.l0]
        rw [e1]
        exact ev_ifp (by omega) (ev_ifp (by omega) (ev_ifp (by omega) (ev_ifp h1 (ev_ifp (by omega) hi))))
    · obtain ⟨r, hr, hs, hi⟩ := ih (i + 1) o (by omega) (by omega)
      refine ⟨r, hr, ?_, ?_⟩
      · apply ev_succ
        simp only [spec_LinesOf.l0]
        rw [e1]
        exact ev_ifp (by omega) (ev_ifp (by omega) (ev_ifn h1 hs))
      · apply ev_succ
        simp only [impl_LinesOf.l0]
        rw [e1]
        exact ev_ifp (by omega) (ev_ifp (by omega) (ev_ifp (by omega) (ev_ifn h1 hi)))
theorem FnExactLinesOf : laws_FnExactLinesOf.Pure := by
  intro l w hg _
  apply Ev.rounds
  unfold laws_FnExactLinesOf.f
  rw [szLine_eq l _ hg.1 (by omega) (by omega)]
  simp only [Option.bind_some]
  by_cases h : (l.length : Int) ≤ 1048576
  · rw [if_pos h]
    refine ev_ifn (by omega) ?_
    have ht := toLineS_ev l (by omega)
    have hlen : (l.map upLine).length = l.length := by simp
    have he := eqLineS_ev (l.map upLine) (by omega)
    obtain ⟨r, hr, hs, hi⟩ := lines_both (l.map upLine) w (by omega) (l.map upLine).length 0 [] (by omega) (by simp)
    have hq := eqIntS_ev r (by omega)
    obtain ⟨m, ys, hm, hm0, hh⟩ := markInt_ev r (by omega)
    obtain ⟨m2, ys2, hm2, hm20⟩ := markLine_ev (l.map upLine) (by omega)
    refine Ev.bind ht (Ev.bind hs (Ev.bind ht (Ev.bind hi (Ev.bind hq (ev_ifp rfl (Ev.bind ht (Ev.bind he (ev_ifp rfl (Ev.bind hm2 (ev_ifn (by simpa using hm20) (Ev.bind hq ?_)))))))))))
    apply ev_succ
    simp only [laws_FnExactLinesOf.j0, Bool.not_true, Bool.false_eq_true, if_false]
    exact Ev.bind hm (Ev.bind hh (ev_ifn (by omega) (ev_ifp rfl (Ev.bind ht (Ev.bind hi (Ev.bind hq (ev_ifp rfl (Ev.bind hh (ev_ifn (by omega) (ev_ifp rfl (Ev.now _)))))))))))
  · rw [if_neg h]
    exact ev_ifp (by omega) (Ev.now _)

end Go.Proofs.Ytfdalcklgfdadaa.Pure
