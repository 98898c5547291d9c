/- The program's Difference answers what the reference's answers, for all arguments, and its list is its own.
No condition: for every input. -/
import Derived.Test.YtfdalcklgfdadaaQFnExactDifferencex3
set_option linter.unusedVariables false
set_option linter.unusedSimpArgs false
set_option maxHeartbeats 1000000
namespace Go.Proofs.Ytfdalcklgfdadaa.Pure
open Go.RowKit Go.Proofs.Ytfdalcklgfdadaa.QFnExactDifference Go.Proofs.YtfdalcklgfdadaaW.PrintWords Go.Proofs.YtfdalcklgfdadaaW.PrintLast

theorem w64 {x : Int} (h1 : -9223372036854775808 ≤ x) (h2 : x ≤ 9223372036854775807) : wrap64 x = x := by unfold wrap64; omega
theorem wf64 {x : Int} (h : (Lit.int .i64 x).wf = true) : -9223372036854775808 ≤ x ∧ x ≤ 9223372036854775807 := by
  simp only [Lit.wf, Bool.and_eq_true, decide_eq_true_eq] at h
  have e1 : IntKind.min .i64 = -9223372036854775808 := by decide
  have e2 : IntKind.max .i64 = 9223372036854775807 := by decide
  omega
theorem wfu8 {x : Int} (h : (Lit.int .u8 x).wf = true) : 0 ≤ x ∧ x ≤ 255 := by
  simp only [Lit.wf, Bool.and_eq_true, decide_eq_true_eq] at h
  have e1 : IntKind.min .u8 = 0 := by decide
  have e2 : IntKind.max .u8 = 255 := by decide
  omega
theorem ev_succ {α : Type} {g : Nat → Option α} {r : α} (h : Ev (fun k => g (k + 1)) r) : Ev g r := Ev.step (fun _ => rfl) h
theorem ev_some {α : Type} {r s : α} (h : r = s) : Ev (fun _ => some r) s := by subst h; exact Ev.now r
theorem ev_fix {α : Type} {o : Option α} {r : α} (h : o = some r) : Ev (fun _ => o) r := ⟨0, fun _ _ => h⟩
theorem ev_at {α : Type} {g : Nat → Option α} {r : α} (n : Nat) (h : ∀ k, g (k + n) = some r) : Ev g r :=
  ⟨n, fun k hk => by obtain ⟨m, rfl⟩ : ∃ m, k = m + n := ⟨k - n, by omega⟩; exact h m⟩
theorem ev_bindc {α β : Type} {o : Option α} {f : Nat → α → Option β} {a : α} {r : β} (h : o = some a) (k : Ev (fun n => f n a) r) : Ev (fun n => o.bind (f n)) r := by
  subst h; exact k
theorem ev_ifp {α : Type} {c : Prop} [Decidable c] {a b : Nat → Option α} {r : α} (h : c) (k : Ev a r) : Ev (fun n => if c then a n else b n) r := by
  simpa only [if_pos h] using k
theorem ev_ifn {α : Type} {c : Prop} [Decidable c] {a b : Nat → Option α} {r : α} (h : ¬ c) (k : Ev b r) : Ev (fun n => if c then a n else b n) r := by
  simpa only [if_neg h] using k
theorem rd_nat (xs : List Int) (i : Nat) (h : i < xs.length) : rd xs (i : Int) = xs[i] := by
  unfold rd
  simp [List.getD_eq_getElem?_getD, h]
theorem toIntS_loop (xs : List Int) (hx : xs.length ≤ 17592186044416) (d : Nat) : ∀ (i : Nat) (ys : List Int), ys.length = xs.length → i + d = xs.length → ys.take i = xs.take i →
    Ev (fun k => laws_toIntS.l0 k xs ys (i : Int)) xs := by
  induction d with
  | zero =>
    intro i ys hl hd ht
    apply ev_succ
    simp only [laws_toIntS.l0]
    refine ev_ifn (by omega) ?_
    have e : ys = xs := by rw [← List.take_length (l := xs), ← show i = xs.length by omega, ← ht, List.take_of_length_le (by omega)]
    rw [e]
    exact Ev.now _
  | succ d ih =>
    intro i ys hl hd ht
    apply ev_succ
    simp only [laws_toIntS.l0]
    refine ev_ifp (by omega) (ev_ifp (by omega) (ev_ifp (by omega) ?_))
    rw [w64 (by omega) (by omega)]
    have hi : i < xs.length := by omega
    have := ih (i + 1) (ys.set i (rd xs (i : Int))) (by simpa using hl) (by omega) (by
      rw [List.take_succ_eq_append_getElem hi, List.take_succ_eq_append_getElem (by simpa using (by omega : i < ys.length)), List.getElem_set_self, rd_nat xs i hi, List.take_set_of_le (by omega), ht])
    simpa using this
theorem toIntS_ev (xs : List Int) (hx : xs.length ≤ 17592186044416) : Ev (fun k => laws_toIntS.f k xs) xs := by
  unfold laws_toIntS.f
  refine ev_ifp (by omega) (ev_ifp (by omega) ?_)
  exact toIntS_loop xs hx xs.length 0 _ (by simp) (by omega) (by simp)
theorem eqIntS_loop (xs : List Int) (hx : xs.length ≤ 17592186044416) (d : Nat) : ∀ (i : Nat), i + d = xs.length → Ev (fun k => laws_eqIntS.l0 k xs xs (i : Int)) true := by
  induction d with
  | zero =>
    intro i hd
    apply ev_succ
    simp only [laws_eqIntS.l0]
    refine ev_ifn (by omega) ?_
    exact Ev.now _
  | succ d ih =>
    intro i hd
    apply ev_succ
    simp only [laws_eqIntS.l0]
    refine ev_ifp (by omega) (ev_ifp (by omega) (ev_ifp (by omega) ?_))
    rw [w64 (by omega) (by omega)]
    simpa using ih (i + 1) (by omega)
theorem eqIntS_ev (xs : List Int) (hx : xs.length ≤ 17592186044416) : Ev (fun k => laws_eqIntS.f k xs xs) true := by
  unfold laws_eqIntS.f
  refine ev_ifp rfl ?_
  exact eqIntS_loop xs hx xs.length 0 (by omega)
theorem markInt_loop (n : Nat) (hn : n ≤ 1100000) (a : Int) (h0 : 0 ≤ a) (h1 : a ≤ 1000000000000) (d : Nat) : ∀ (i : Nat) (xs : List Int), xs.length = n → i + d = n → ∃ ys : List Int, Ev (fun k => laws_markIntS.l0 k xs (a + (i : Int)) (i : Int)) (a + (n : Int), ys) ∧ ys.length = n ∧ (∀ j : Nat, i ≤ j → j < n → ys[j]? = some (a + (j : Int))) ∧ (∀ j : Nat, j < i → ys[j]? = xs[j]?) := by
  induction d with
  | zero =>
    intro i xs hl hd
    refine ⟨xs, ?_, hl, fun j h1 h2 => by omega, fun j _ => rfl⟩
    apply ev_succ
    simp only [laws_markIntS.l0]
    refine ev_ifn (by omega) (ev_some ?_)
    rw [show (i : Int) = n by omega]
  | succ d ih =>
    intro i xs hl hd
    obtain ⟨ys, he, hy, h2, h3⟩ := ih (i + 1) (xs.set i (a + (i : Int))) (by simpa using hl) (by omega)
    refine ⟨ys, ?_, hy, fun j hj hn' => ?_, fun j hj => ?_⟩
    · apply ev_succ
      have w0 : wrap64 (a + (i : Int) + 1) = a + ((i + 1 : Nat) : Int) := by rw [w64 (by omega) (by omega)]; omega
      have w' : wrap64 ((i : Int) + 1) = ((i + 1 : Nat) : Int) := by rw [w64 (by omega) (by omega)]; simp
      simp only [laws_markIntS.l0, Int.toNat_natCast, w0, w']
      exact ev_ifp (by omega) (ev_ifp (by omega) he)
    · by_cases hji : j = i
      · subst hji
        rw [h3 j (by omega)]
        simp [show j < xs.length by omega]
      · exact h2 j (by omega) hn'
    · rw [h3 j (by omega), List.getElem?_set_ne (by omega)]
theorem markInt_at (xs : List Int) (hx : xs.length ≤ 1100000) (a : Int) (h0 : 0 ≤ a) (h1 : a ≤ 1000000000000) : ∃ ys, Ev (fun k => laws_markIntS.f k xs a) (a + (xs.length : Int), ys) ∧ ys.length = xs.length ∧ ∀ j : Nat, j < xs.length → ys[j]? = some (a + (j : Int)) := by
  obtain ⟨ys, he, hy, h2, h3⟩ := markInt_loop xs.length hx a h0 h1 xs.length 0 xs rfl (by omega)
  refine ⟨ys, ?_, hy, fun j hj => h2 j (by omega) hj⟩
  unfold laws_markIntS.f
  simpa using he
theorem heldInt_loop (ys : List Int) (n : Nat) (hn : n ≤ 1100000) (a : Int) (h0 : 0 ≤ a) (h1 : a ≤ 1000000000000) (hl : ys.length = n) (h : ∀ j : Nat, j < n → ys[j]? = some (a + (j : Int))) (d : Nat) : ∀ i : Nat, i + d = n → Ev (fun k => laws_heldIntS.l0 k ys (a + (i : Int)) (i : Int)) (a + (n : Int)) := by
  induction d with
  | zero =>
    intro i hd
    apply ev_succ
    simp only [laws_heldIntS.l0]
    refine ev_ifn (by omega) (ev_some ?_)
    rw [show (i : Int) = n by omega]
  | succ d ih =>
    intro i hd
    apply ev_succ
    have hr : rd ys (i : Int) = a + (i : Int) := by
      have := h i (by omega)
      simp [rd, List.getD_eq_getElem?_getD, this]
    have w0 : wrap64 (a + (i : Int) + 1) = a + ((i + 1 : Nat) : Int) := by rw [w64 (by omega) (by omega)]; omega
    have w' : wrap64 ((i : Int) + 1) = ((i + 1 : Nat) : Int) := by rw [w64 (by omega) (by omega)]; simp
    simp only [laws_heldIntS.l0, w0, w']
    exact ev_ifp (by omega) (ev_ifp (by omega) (ev_ifp hr (ih (i + 1) (by omega))))
theorem markInt_ev (xs : List Int) (hx : xs.length ≤ 1100000) : ∃ m ys, Ev (fun k => laws_markIntS.f k xs 1) (m, ys) ∧ 0 ≤ m ∧ Ev (fun k => laws_heldIntS.f k ys 1) m := by
  obtain ⟨ys, he, hy, h2⟩ := markInt_at xs hx 1 (by omega) (by omega)
  refine ⟨1 + (xs.length : Int), ys, he, by omega, ?_⟩
  unfold laws_heldIntS.f
  simpa using heldInt_loop ys xs.length hx 1 (by omega) (by omega) hy h2 xs.length 0 (by omega)
theorem Clone_eq (l : List Int) (hl : l.length ≤ 1100000) : slices_Clone_int_int.f l = some l := by
  unfold slices_Clone_int_int.f
  simp only [Option.bind_some, List.nil_append, List.length_nil]
  rw [if_pos (by omega)]
theorem eqAmend_ev (a b : Int) (l : List Int) (h : l.length ≤ 1048576) : Ev (fun k => laws_eqAmend.f k a b l a b l) true := by
  unfold laws_eqAmend.f
  exact ev_ifp rfl (ev_ifp rfl (Ev.bind (eqIntS_ev l (by omega)) (ev_ifp rfl (Ev.now _))))
theorem diff_l1 (a b : List Int) (ha : a.length ≤ 1048576) (hb : b.length ≤ 1048576) (i : Nat) (d : Nat) : ∀ e : Nat, i + e + d = a.length → i + e ≤ b.length →
    ∃ r : Int × Int × List Int, r.2.2.length ≤ b.length ∧ Ev (fun k => spec_Difference.l1 k a b (i : Int) (e : Int)) r ∧ Ev (fun k => impl_Difference.l1 k a b (i : Int) ((a.length : Int) - e) ((b.length : Int) - e)) r := by
  have fin : ∀ e : Nat, i + e ≤ a.length → i + e ≤ b.length → ((b.take ((b.length : Int) - e).toNat).drop i).length ≤ b.length := by
    intro e _ _
    rw [List.length_drop, List.length_take]
    omega
  have stop : ∀ e : Nat, i + e ≤ a.length → i + e ≤ b.length → (¬ ((e : Int) < (a.length : Int) - i) ∨ ¬ ((e : Int) < (b.length : Int) - i) ∨ ¬ rd a ((a.length : Int) - 1 - e) = rd b ((b.length : Int) - 1 - e)) →
      ∃ r : Int × Int × List Int, r.2.2.length ≤ b.length ∧ Ev (fun k => spec_Difference.l1 k a b (i : Int) (e : Int)) r ∧ Ev (fun k => impl_Difference.l1 k a b (i : Int) ((a.length : Int) - e) ((b.length : Int) - e)) r := by
    intro e h1 h2 hs
    have hf := fin e h1 h2
    have hc := Clone_eq ((b.take ((b.length : Int) - e).toNat).drop i) (by omega)
    have w1 : wrap64 ((a.length : Int) - i) = (a.length : Int) - i := w64 (by omega) (by omega)
    have w2 : wrap64 ((b.length : Int) - i) = (b.length : Int) - i := w64 (by omega) (by omega)
    have w3 : wrap64 ((a.length : Int) - 1) = (a.length : Int) - 1 := w64 (by omega) (by omega)
    have w4 : wrap64 ((b.length : Int) - 1) = (b.length : Int) - 1 := w64 (by omega) (by omega)
    have w5 : wrap64 ((a.length : Int) - 1 - e) = (a.length : Int) - 1 - e := w64 (by omega) (by omega)
    have w6 : wrap64 ((b.length : Int) - 1 - e) = (b.length : Int) - 1 - e := w64 (by omega) (by omega)
    have w7 : wrap64 ((b.length : Int) - e) = (b.length : Int) - e := w64 (by omega) (by omega)
    have w8 : wrap64 ((a.length : Int) - i - e) = (a.length : Int) - i - e := w64 (by omega) (by omega)
    have w9 : wrap64 ((a.length : Int) - e - 1) = (a.length : Int) - 1 - e := by rw [w64 (by omega) (by omega)]; omega
    have w10 : wrap64 ((b.length : Int) - e - 1) = (b.length : Int) - 1 - e := by rw [w64 (by omega) (by omega)]; omega
    have w11 : wrap64 ((a.length : Int) - e - i) = (a.length : Int) - i - e := by rw [w64 (by omega) (by omega)]; omega
    refine ⟨((i : Int), (a.length : Int) - i - e, (b.take ((b.length : Int) - e).toNat).drop i), hf, ?_, ?_⟩
    · apply ev_succ
      simp only [spec_Difference.l1, w1, w2, w3, w4, w5, w6, w7, w8, Option.bind_some, List.nil_append, List.length_nil, Int.toNat_natCast]
      by_cases c1 : (e : Int) < (a.length : Int) - i
      · refine ev_ifp c1 ?_
        by_cases c2 : (e : Int) < (b.length : Int) - i
        · have c3 : ¬ rd a ((a.length : Int) - 1 - e) = rd b ((b.length : Int) - 1 - e) := by
            rcases hs with h | h | h
            · exact absurd c1 h
            · exact absurd c2 h
            · exact h
          exact ev_ifp c2 (ev_ifp (by omega) (ev_ifp (by omega) (ev_ifp (by omega) (ev_ifp (by omega) (ev_ifn c3 (ev_ifp (by omega) (ev_ifp (by omega) (ev_ifp (by omega) (ev_ifp (by omega) (Ev.now _))))))))))
        · exact ev_ifn c2 (ev_ifp (by omega) (ev_ifp (by omega) (ev_ifp (by omega) (ev_ifp (by omega) (Ev.now _)))))
      · exact ev_ifn c1 (ev_ifp (by omega) (ev_ifp (by omega) (ev_ifp (by omega) (ev_ifp (by omega) (Ev.now _)))))
    · apply ev_succ
      simp only [impl_Difference.l1, w9, w10, w11, Int.toNat_natCast, hc, Option.bind_some]
      by_cases c1 : (e : Int) < (a.length : Int) - i
      · refine ev_ifp (by omega) ?_
        by_cases c2 : (e : Int) < (b.length : Int) - i
        · have c3 : ¬ rd a ((a.length : Int) - 1 - e) = rd b ((b.length : Int) - 1 - e) := by
            rcases hs with h | h | h
            · exact absurd c1 h
            · exact absurd c2 h
            · exact h
          exact ev_ifp (by omega) (ev_ifp (by omega) (ev_ifp (by omega) (ev_ifp (by omega) (ev_ifp (by omega) (ev_ifn c3 (ev_ifp (by omega) (ev_ifp (by omega) (ev_ifp (by omega) (Ev.now _)))))))))
        · exact ev_ifn (by omega) (ev_ifp (by omega) (ev_ifp (by omega) (ev_ifp (by omega) (Ev.now _))))
      · exact ev_ifn (by omega) (ev_ifp (by omega) (ev_ifp (by omega) (ev_ifp (by omega) (Ev.now _))))
  induction d with
  | zero =>
    intro e h1 h2
    exact stop e (by omega) h2 (.inl (by omega))
  | succ d ih =>
    intro e h1 h2
    by_cases c2 : (e : Int) < (b.length : Int) - i
    · by_cases c3 : rd a ((a.length : Int) - 1 - e) = rd b ((b.length : Int) - 1 - e)
      · obtain ⟨r, hr, hs, hi⟩ := ih (e + 1) (by omega) (by omega)
        have w1 : wrap64 ((a.length : Int) - i) = (a.length : Int) - i := w64 (by omega) (by omega)
        have w2 : wrap64 ((b.length : Int) - i) = (b.length : Int) - i := w64 (by omega) (by omega)
        have w3 : wrap64 ((a.length : Int) - 1) = (a.length : Int) - 1 := w64 (by omega) (by omega)
        have w4 : wrap64 ((b.length : Int) - 1) = (b.length : Int) - 1 := w64 (by omega) (by omega)
        have w5 : wrap64 ((a.length : Int) - 1 - e) = (a.length : Int) - 1 - e := w64 (by omega) (by omega)
        have w6 : wrap64 ((b.length : Int) - 1 - e) = (b.length : Int) - 1 - e := w64 (by omega) (by omega)
        have w9 : wrap64 ((a.length : Int) - e - 1) = (a.length : Int) - 1 - e := by rw [w64 (by omega) (by omega)]; omega
        have w10 : wrap64 ((b.length : Int) - e - 1) = (b.length : Int) - 1 - e := by rw [w64 (by omega) (by omega)]; omega
        have w12 : wrap64 ((e : Int) + 1) = ((e + 1 : Nat) : Int) := by rw [w64 (by omega) (by omega)]; simp
        refine ⟨r, hr, ?_, ?_⟩
        · apply ev_succ
          simp only [spec_Difference.l1, w1, w2, w3, w4, w5, w6, w12]
          clear w1 w2 w3 w4 w5 w6 w9 w10 w12 ih stop fin
          exact ev_ifp (by omega) (ev_ifp c2 (ev_ifp (by omega) (ev_ifp (by omega) (ev_ifp (by omega) (ev_ifp (by omega) (ev_ifp c3 hs))))))
        · apply ev_succ
          simp only [impl_Difference.l1, w9, w10]
          have e1 : (a.length : Int) - ((e + 1 : Nat) : Int) = (a.length : Int) - 1 - e := by omega
          have e2 : (b.length : Int) - ((e + 1 : Nat) : Int) = (b.length : Int) - 1 - e := by omega
          rw [e1, e2] at hi
          clear w1 w2 w3 w4 w5 w6 w9 w10 w12 ih stop fin
          exact ev_ifp (by omega) (ev_ifp (by omega) (ev_ifp (by omega) (ev_ifp (by omega) (ev_ifp (by omega) (ev_ifp (by omega) (ev_ifp c3 hi))))))
      · exact stop e (by omega) h2 (.inr (.inr c3))
    · exact stop e (by omega) h2 (.inr (.inl c2))
theorem diff_j1 (a b : List Int) (ha : a.length ≤ 1048576) (hb : b.length ≤ 1048576) (i : Nat) (h1 : i ≤ a.length) (h2 : i ≤ b.length) :
    ∃ r : Int × Int × List Int, r.2.2.length ≤ b.length ∧ Ev (fun k => spec_Difference.j1 k a b (i : Int)) r ∧ Ev (fun k => impl_Difference.j1 k a b (i : Int)) r := by
  obtain ⟨r, hr, hs, hi⟩ := diff_l1 a b ha hb i (a.length - i) 0 (by omega) (by omega)
  refine ⟨r, hr, ?_, ?_⟩
  · apply ev_succ
    simp only [spec_Difference.j1]
    simpa using hs
  · apply ev_succ
    simp only [impl_Difference.j1]
    simpa using hi
theorem diff_l0 (a b : List Int) (ha : a.length ≤ 1048576) (hb : b.length ≤ 1048576) (d : Nat) : ∀ i : Nat, i + d = a.length → i ≤ b.length →
    ∃ r : Int × Int × List Int, r.2.2.length ≤ b.length ∧ Ev (fun k => spec_Difference.l0 k a b (i : Int)) r ∧ Ev (fun k => impl_Difference.l0 k a b (i : Int)) r := by
  induction d with
  | zero =>
    intro i h1 h2
    obtain ⟨r, hr, hs, hi⟩ := diff_j1 a b ha hb i (by omega) h2
    refine ⟨r, hr, ?_, ?_⟩
    · apply ev_succ
      simp only [spec_Difference.l0]
      exact ev_ifn (by omega) hs
    · apply ev_succ
      simp only [impl_Difference.l0]
      exact ev_ifn (by omega) hi
  | succ d ih =>
    intro i h1 h2
    have w12 : wrap64 ((i : Int) + 1) = ((i + 1 : Nat) : Int) := (w64 (x := (i : Int) + 1) (by omega) (by omega)).trans (by omega)
    by_cases c2 : i < b.length
    · by_cases c3 : rd a (i : Int) = rd b (i : Int)
      · obtain ⟨r, hr, hs, hi⟩ := ih (i + 1) (by omega) (by omega)
        refine ⟨r, hr, ?_, ?_⟩
        · apply ev_succ
          simp only [spec_Difference.l0, w12]
          exact ev_ifp (by omega) (ev_ifp (by omega) (ev_ifp (by omega) (ev_ifp c3 hs)))
        · apply ev_succ
          simp only [impl_Difference.l0, w12]
          exact ev_ifp (by omega) (ev_ifp (by omega) (ev_ifp (by omega) (ev_ifp c3 hi)))
      · obtain ⟨r, hr, hs, hi⟩ := diff_j1 a b ha hb i (by omega) h2
        refine ⟨r, hr, ?_, ?_⟩
        · apply ev_succ
          simp only [spec_Difference.l0]
          exact ev_ifp (by omega) (ev_ifp (by omega) (ev_ifp (by omega) (ev_ifn c3 hs)))
        · apply ev_succ
          simp only [impl_Difference.l0]
          exact ev_ifp (by omega) (ev_ifp (by omega) (ev_ifp (by omega) (ev_ifn c3 hi)))
    · obtain ⟨r, hr, hs, hi⟩ := diff_j1 a b ha hb i (by omega) h2
      refine ⟨r, hr, ?_, ?_⟩
      · apply ev_succ
        simp only [spec_Difference.l0]
        exact ev_ifp (by omega) (ev_ifn (by omega) hs)
      · apply ev_succ
        simp only [impl_Difference.l0]
        exact ev_ifp (by omega) (ev_ifn (by omega) hi)
theorem FnExactDifference : laws_FnExactDifference.Pure := by
  intro a b _ _ _ _ _ _
  apply Ev.rounds
  unfold laws_FnExactDifference.f
  by_cases ha : (a.length : Int) > 1048576
  · exact ev_ifp ha (Ev.now _)
  by_cases hb : (b.length : Int) > 1048576
  · exact ev_ifn ha (ev_ifp hb (Ev.now _))
  have ta := toIntS_ev a (by omega)
  have tb := toIntS_ev b (by omega)
  have ea := eqIntS_ev a (by omega)
  have eb := eqIntS_ev b (by omega)
  obtain ⟨⟨x, y, l⟩, hr, hs, hi⟩ := diff_l0 a b (by omega) (by omega) a.length 0 (by omega) (by omega)
  have hs' : Ev (fun k => spec_Difference.f k a b) (x, y, l) := hs
  have hi' : Ev (fun k => impl_Difference.f k a b) (x, y, l) := hi
  have hl : l.length ≤ b.length := hr
  have hq := eqAmend_ev x y l (by omega)
  obtain ⟨ys, hm, _, _⟩ := markInt_at a (by omega) 1 (by omega) (by omega)
  obtain ⟨zs, hm2, _, _⟩ := markInt_at b (by omega) (1 + (a.length : Int)) (by omega) (by omega)
  obtain ⟨m, us, hu, hu0, hh⟩ := markInt_ev l (by omega)
  have hma : Ev (fun k => laws_markAmend.f k x y l 1) (m, us) := by
    unfold laws_markAmend.f
    exact Ev.bind hu (Ev.now _)
  have hha : Ev (fun k => laws_heldAmend.f k x y us 1) m := by
    unfold laws_heldAmend.f
    exact Ev.bind hh (ev_ifn (by omega) (Ev.now _))
  refine ev_ifn ha (ev_ifn hb (Ev.bind ta (Ev.bind tb (Ev.bind hs' (Ev.bind ta (Ev.bind tb (Ev.bind hi' (Ev.bind hq (ev_ifp rfl (Ev.bind ta (Ev.bind ea (ev_ifp rfl (Ev.bind tb (Ev.bind eb (ev_ifp rfl (Ev.bind hm (Ev.bind hm2 (ev_ifn (by simp only; omega) (Ev.bind hq ?_)))))))))))))))))))
  apply ev_succ
  simp only [laws_FnExactDifference.j0, Bool.not_true, Bool.false_eq_true, if_false]
  exact Ev.bind hma (Ev.bind hha (ev_ifn (by omega) (ev_ifp rfl (Ev.bind ta (Ev.bind tb (Ev.bind hi' (Ev.bind hq (ev_ifp rfl (Ev.bind hha (ev_ifn (by omega) (ev_ifp rfl (Ev.now _))))))))))))

end Go.Proofs.Ytfdalcklgfdadaa.Pure
