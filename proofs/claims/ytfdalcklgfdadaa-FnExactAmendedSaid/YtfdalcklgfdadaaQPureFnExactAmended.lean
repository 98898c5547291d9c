/- The program's Amended answers what the reference's answers, for all arguments, and its list is its own.
No condition: for every input. -/
import Derived.Test.YtfdalcklgfdadaaQFnExactAmendedx4
set_option linter.unusedVariables false
set_option linter.unusedSimpArgs false
set_option maxHeartbeats 1000000
namespace Go.Proofs.Ytfdalcklgfdadaa.Pure
open Go.RowKit Go.Proofs.Ytfdalcklgfdadaa.QFnExactAmended Go.Proofs.YtfdalcklgfdadaaW.PrintWords Go.Proofs.YtfdalcklgfdadaaW.PrintLast

theorem w64 {x : Int} (h1 : -9223372036854775808 ≤ x) (h2 : x ≤ 9223372036854775807) : wrap64 x = x := by unfold wrap64; omega
theorem wf64 {x : Int} (h : (Lit.int .i64 x).wf = true) : -9223372036854775808 ≤ x ∧ x ≤ 9223372036854775807 := by
  simp only [Lit.wf, Bool.and_eq_true, decide_eq_true_eq] at h
  have e1 : IntKind.min .i64 = -9223372036854775808 := by decide
  have e2 : IntKind.max .i64 = 9223372036854775807 := by decide
  omega
theorem wfu8 {x : Int} (h : (Lit.int .u8 x).wf = true) : 0 ≤ x ∧ x ≤ 255 := by
  simp only [Lit.wf, Bool.and_eq_true, decide_eq_true_eq] at h
  have e1 : IntKind.min .u8 = 0 := by decide
  have e2 : IntKind.max .u8 = 255 := by decide
  omega
theorem ev_succ {α : Type} {g : Nat → Option α} {r : α} (h : Ev (fun k => g (k + 1)) r) : Ev g r := Ev.step (fun _ => rfl) h
theorem ev_some {α : Type} {r s : α} (h : r = s) : Ev (fun _ => some r) s := by subst h; exact Ev.now r
theorem ev_fix {α : Type} {o : Option α} {r : α} (h : o = some r) : Ev (fun _ => o) r := ⟨0, fun _ _ => h⟩
theorem ev_at {α : Type} {g : Nat → Option α} {r : α} (n : Nat) (h : ∀ k, g (k + n) = some r) : Ev g r :=
  ⟨n, fun k hk => by obtain ⟨m, rfl⟩ : ∃ m, k = m + n := ⟨k - n, by omega⟩; exact h m⟩
theorem ev_bindc {α β : Type} {o : Option α} {f : Nat → α → Option β} {a : α} {r : β} (h : o = some a) (k : Ev (fun n => f n a) r) : Ev (fun n => o.bind (f n)) r := by
  subst h; exact k
theorem ev_ifp {α : Type} {c : Prop} [Decidable c] {a b : Nat → Option α} {r : α} (h : c) (k : Ev a r) : Ev (fun n => if c then a n else b n) r := by
  simpa only [if_pos h] using k
theorem ev_ifn {α : Type} {c : Prop} [Decidable c] {a b : Nat → Option α} {r : α} (h : ¬ c) (k : Ev b r) : Ev (fun n => if c then a n else b n) r := by
  simpa only [if_neg h] using k
theorem spec_l1In_eq (a b c : Int) : spec_l1In.f a b c = some (decide (b ≤ a ∧ a ≤ c)) := by
  unfold spec_l1In.f
  by_cases h : a ≥ b
  · have h' : b ≤ a := h
    simp [h']
  · have h' : ¬ b ≤ a := h
    simp [h']
theorem impl_InRange_eq (a b c : Int) : impl_InRange.f a b c = some (decide (b ≤ a ∧ a ≤ c)) := by
  unfold impl_InRange.f
  by_cases h : b ≤ a <;> simp [h]
theorem rd_nat (xs : List Int) (i : Nat) (h : i < xs.length) : rd xs (i : Int) = xs[i] := by
  unfold rd
  simp [List.getD_eq_getElem?_getD, h]
theorem toIntS_loop (xs : List Int) (hx : xs.length ≤ 17592186044416) (d : Nat) : ∀ (i : Nat) (ys : List Int), ys.length = xs.length → i + d = xs.length → ys.take i = xs.take i →
    Ev (fun k => laws_toIntS.l0 k xs ys (i : Int)) xs := by
  induction d with
  | zero =>
    intro i ys hl hd ht
    apply ev_succ
    simp only [laws_toIntS.l0]
    refine ev_ifn (by omega) ?_
    have e : ys = xs := by rw [← List.take_length (l := xs), ← show i = xs.length by omega, ← ht, List.take_of_length_le (by omega)]
    rw [e]
    exact Ev.now _
  | succ d ih =>
    intro i ys hl hd ht
    apply ev_succ
    simp only [laws_toIntS.l0]
    refine ev_ifp (by omega) (ev_ifp (by omega) (ev_ifp (by omega) ?_))
    rw [w64 (by omega) (by omega)]
    have hi : i < xs.length := by omega
    have := ih (i + 1) (ys.set i (rd xs (i : Int))) (by simpa using hl) (by omega) (by
      rw [List.take_succ_eq_append_getElem hi, List.take_succ_eq_append_getElem (by simpa using (by omega : i < ys.length)), List.getElem_set_self, rd_nat xs i hi, List.take_set_of_le (by omega), ht])
    simpa using this
theorem toIntS_ev (xs : List Int) (hx : xs.length ≤ 17592186044416) : Ev (fun k => laws_toIntS.f k xs) xs := by
  unfold laws_toIntS.f
  refine ev_ifp (by omega) (ev_ifp (by omega) ?_)
  exact toIntS_loop xs hx xs.length 0 _ (by simp) (by omega) (by simp)
theorem eqIntS_loop (xs : List Int) (hx : xs.length ≤ 17592186044416) (d : Nat) : ∀ (i : Nat), i + d = xs.length → Ev (fun k => laws_eqIntS.l0 k xs xs (i : Int)) true := by
  induction d with
  | zero =>
    intro i hd
    apply ev_succ
    simp only [laws_eqIntS.l0]
    refine ev_ifn (by omega) ?_
    exact Ev.now _
  | succ d ih =>
    intro i hd
    apply ev_succ
    simp only [laws_eqIntS.l0]
    refine ev_ifp (by omega) (ev_ifp (by omega) (ev_ifp (by omega) ?_))
    rw [w64 (by omega) (by omega)]
    simpa using ih (i + 1) (by omega)
theorem eqIntS_ev (xs : List Int) (hx : xs.length ≤ 17592186044416) : Ev (fun k => laws_eqIntS.f k xs xs) true := by
  unfold laws_eqIntS.f
  refine ev_ifp rfl ?_
  exact eqIntS_loop xs hx xs.length 0 (by omega)
theorem markInt_loop (n : Nat) (hn : n ≤ 1100000) (a : Int) (h0 : 0 ≤ a) (h1 : a ≤ 1000000000000) (d : Nat) : ∀ (i : Nat) (xs : List Int), xs.length = n → i + d = n → ∃ ys : List Int, Ev (fun k => laws_markIntS.l0 k xs (a + (i : Int)) (i : Int)) (a + (n : Int), ys) ∧ ys.length = n ∧ (∀ j : Nat, i ≤ j → j < n → ys[j]? = some (a + (j : Int))) ∧ (∀ j : Nat, j < i → ys[j]? = xs[j]?) := by
  induction d with
  | zero =>
    intro i xs hl hd
    refine ⟨xs, ?_, hl, fun j h1 h2 => by omega, fun j _ => rfl⟩
    apply ev_succ
    simp only [laws_markIntS.l0]
    refine ev_ifn (by omega) (ev_some ?_)
    rw [show (i : Int) = n by omega]
  | succ d ih =>
    intro i xs hl hd
    obtain ⟨ys, he, hy, h2, h3⟩ := ih (i + 1) (xs.set i (a + (i : Int))) (by simpa using hl) (by omega)
    refine ⟨ys, ?_, hy, fun j hj hn' => ?_, fun j hj => ?_⟩
    · apply ev_succ
      have w0 : wrap64 (a + (i : Int) + 1) = a + ((i + 1 : Nat) : Int) := by rw [w64 (by omega) (by omega)]; omega
      have w' : wrap64 ((i : Int) + 1) = ((i + 1 : Nat) : Int) := by rw [w64 (by omega) (by omega)]; simp
      simp only [laws_markIntS.l0, Int.toNat_natCast, w0, w']
      exact ev_ifp (by omega) (ev_ifp (by omega) he)
    · by_cases hji : j = i
      · subst hji
        rw [h3 j (by omega)]
        simp [show j < xs.length by omega]
      · exact h2 j (by omega) hn'
    · rw [h3 j (by omega), List.getElem?_set_ne (by omega)]
theorem markInt_at (xs : List Int) (hx : xs.length ≤ 1100000) (a : Int) (h0 : 0 ≤ a) (h1 : a ≤ 1000000000000) : ∃ ys, Ev (fun k => laws_markIntS.f k xs a) (a + (xs.length : Int), ys) ∧ ys.length = xs.length ∧ ∀ j : Nat, j < xs.length → ys[j]? = some (a + (j : Int)) := by
  obtain ⟨ys, he, hy, h2, h3⟩ := markInt_loop xs.length hx a h0 h1 xs.length 0 xs rfl (by omega)
  refine ⟨ys, ?_, hy, fun j hj => h2 j (by omega) hj⟩
  unfold laws_markIntS.f
  simpa using he
theorem heldInt_loop (ys : List Int) (n : Nat) (hn : n ≤ 1100000) (a : Int) (h0 : 0 ≤ a) (h1 : a ≤ 1000000000000) (hl : ys.length = n) (h : ∀ j : Nat, j < n → ys[j]? = some (a + (j : Int))) (d : Nat) : ∀ i : Nat, i + d = n → Ev (fun k => laws_heldIntS.l0 k ys (a + (i : Int)) (i : Int)) (a + (n : Int)) := by
  induction d with
  | zero =>
    intro i hd
    apply ev_succ
    simp only [laws_heldIntS.l0]
    refine ev_ifn (by omega) (ev_some ?_)
    rw [show (i : Int) = n by omega]
  | succ d ih =>
    intro i hd
    apply ev_succ
    have hr : rd ys (i : Int) = a + (i : Int) := by
      have := h i (by omega)
      simp [rd, List.getD_eq_getElem?_getD, this]
    have w0 : wrap64 (a + (i : Int) + 1) = a + ((i + 1 : Nat) : Int) := by rw [w64 (by omega) (by omega)]; omega
    have w' : wrap64 ((i : Int) + 1) = ((i + 1 : Nat) : Int) := by rw [w64 (by omega) (by omega)]; simp
    simp only [laws_heldIntS.l0, w0, w']
    exact ev_ifp (by omega) (ev_ifp (by omega) (ev_ifp hr (ih (i + 1) (by omega))))
theorem markInt_ev (xs : List Int) (hx : xs.length ≤ 1100000) : ∃ m ys, Ev (fun k => laws_markIntS.f k xs 1) (m, ys) ∧ 0 ≤ m ∧ Ev (fun k => laws_heldIntS.f k ys 1) m := by
  obtain ⟨ys, he, hy, h2⟩ := markInt_at xs hx 1 (by omega) (by omega)
  refine ⟨1 + (xs.length : Int), ys, he, by omega, ?_⟩
  unfold laws_heldIntS.f
  simpa using heldInt_loop ys xs.length hx 1 (by omega) (by omega) hy h2 xs.length 0 (by omega)
theorem szAmend_eq (a b : Int) (l : List Int) (c : Int) (hm : l.length ≤ maxLen) (h0 : 0 ≤ c) (h1 : c ≤ 1048576) : laws_szAmend.f a b l c = some (if (l.length : Int) ≤ c then c - (l.length : Int) else (-1 : Int)) := by
  unfold maxLen at hm
  unfold laws_szAmend.f laws_szIntS.f
  rw [w64 (by omega) (by omega)]
  by_cases h : (l.length : Int) ≤ c
  · rw [if_neg (by omega), if_pos h]
    simp only [Option.bind_some]
    rw [if_neg (by omega)]
  · rw [if_pos (by omega), if_neg h]
    simp
theorem toAmend_ev (a b : Int) (l : List Int) (h : l.length ≤ 1048576) : Ev (fun k => laws_toAmend.f k a b l) (a, b, l) := by
  unfold laws_toAmend.f
  exact Ev.bind (toIntS_ev l (by omega)) (Ev.now _)
theorem eqAmend_ev (a b : Int) (l : List Int) (h : l.length ≤ 1048576) : Ev (fun k => laws_eqAmend.f k a b l a b l) true := by
  unfold laws_eqAmend.f
  exact ev_ifp rfl (ev_ifp rfl (Ev.bind (eqIntS_ev l (by omega)) (ev_ifp rfl (Ev.now _))))
theorem Clone_eq (l : List Int) (hl : l.length ≤ 1100000) : slices_Clone_int_int.f l = some l := by
  unfold slices_Clone_int_int.f
  simp only [Option.bind_some, List.nil_append, List.length_nil]
  rw [if_pos (by omega)]
def mayG (l : List Int) (a b : Int) (m : List Int) : Bool := decide (0 ≤ a ∧ a ≤ (l.length : Int)) && (decide (0 ≤ b ∧ b ≤ (l.length : Int) - a) && decide ((l.length : Int) - b + (m.length : Int) ≤ 60))
def amendG (l : List Int) (a b : Int) (m : List Int) : List Int × Bool := if mayG l a b m = true then (l.take a.toNat ++ m ++ l.drop (a + b).toNat, true) else (l, false)
theorem mayG_iff (l : List Int) (a b : Int) (m : List Int) : mayG l a b m = true ↔ (0 ≤ a ∧ a ≤ (l.length : Int)) ∧ (0 ≤ b ∧ b ≤ (l.length : Int) - a) ∧ (l.length : Int) - b + (m.length : Int) ≤ 60 := by
  simp [mayG]
theorem amendG_len (l : List Int) (a b : Int) (m : List Int) : (amendG l a b m).1.length ≤ l.length + 60 := by
  unfold amendG
  by_cases h : mayG l a b m = true
  · rw [if_pos h]
    rw [mayG_iff] at h
    simp only [List.length_append, List.length_take, List.length_drop]
    omega
  · rw [if_neg h]
    show l.length ≤ l.length + 60
    omega
theorem amendG_short (l : List Int) (a b : Int) (m : List Int) (h : l.length ≤ 1048576) : (amendG l a b m).1.length ≤ 1048576 := by
  unfold amendG
  by_cases h2 : mayG l a b m = true
  · rw [if_pos h2]
    rw [mayG_iff] at h2
    simp only [List.length_append, List.length_take, List.length_drop]
    omega
  · rw [if_neg h2]
    exact h
theorem spec_May (l : List Int) (a b : Int) (m : List Int) (hl : l.length ≤ 1100000) (hm : m.length ≤ 1100000) : spec_MayAmend.f l a b m = some (mayG l a b m) := by
  simp only [spec_MayAmend.f, spec_l1In_eq, Option.bind_some]
  by_cases h1 : 0 ≤ a ∧ a ≤ (l.length : Int)
  · rw [w64 (x := (l.length : Int) - a) (by omega) (by omega), decide_eq_true h1, if_pos rfl]
    by_cases h2 : 0 ≤ b ∧ b ≤ (l.length : Int) - a
    · rw [decide_eq_true h2, if_pos rfl, w64 (x := (l.length : Int) - b) (by omega) (by omega), w64 (by omega) (by omega)]
      simp [mayG, h1, h2]
    · rw [decide_eq_false h2, if_neg (by simp)]
      simp [mayG, h2]
  · rw [decide_eq_false h1, if_neg (by simp)]
    simp [mayG, h1]
theorem spec_Amended_eq (l : List Int) (a b : Int) (m : List Int) (hl : l.length ≤ 1100000) (hm : m.length ≤ 1100000) : spec_Amended.f l a b m = some (amendG l a b m) := by
  unfold spec_Amended.f amendG
  rw [spec_May l a b m hl hm]
  simp only [Option.bind_some]
  by_cases h : mayG l a b m = true
  · rw [if_pos h, if_pos h]
    have h' := (mayG_iff l a b m).mp h
    have w2 : wrap64 (a + b) = a + b := w64 (by omega) (by omega)
    simp only [Option.bind_some, w2, List.nil_append, List.length_nil, List.length_append, List.length_take, List.length_drop]
    rw [if_pos (by omega), if_pos (by omega), if_pos (by omega), if_pos (by omega), if_pos (by omega), if_pos (by omega), if_pos (by omega)]
  · rw [if_neg h, if_neg h]
    simp only [Option.bind_some, List.nil_append, List.length_nil]
    rw [if_pos (by omega)]
theorem impl_May (l : List Int) (a b : Int) (m : List Int) (hl : l.length ≤ 1100000) (hm : m.length ≤ 1100000) : impl_MayAmend.f l a b m = some (mayG l a b m) := by
  simp only [impl_MayAmend.f, impl_InRange_eq, Option.bind_some]
  by_cases h1 : 0 ≤ a ∧ a ≤ (l.length : Int)
  · rw [w64 (x := (l.length : Int) - a) (by omega) (by omega), decide_eq_true h1, if_pos rfl]
    by_cases h2 : 0 ≤ b ∧ b ≤ (l.length : Int) - a
    · rw [decide_eq_true h2, if_pos rfl, w64 (x := (l.length : Int) - b) (by omega) (by omega), w64 (by omega) (by omega)]
      simp [mayG, h1, h2]
    · rw [decide_eq_false h2, if_neg (by simp)]
      simp [mayG, h2]
  · rw [decide_eq_false h1, if_neg (by simp)]
    simp [mayG, h1]
theorem concat3_ev (x y z : List Int) (h : x.length + y.length + z.length ≤ 5000000) : Ev (fun k => slices_Concat_int_int.f k [x, y, z]) (x ++ y ++ z) := by
  unfold slices_Concat_int_int.f
  have w0 : wrap64 (0 + 1) = 1 := w64 (by omega) (by omega)
  have w1 : wrap64 (1 + 1) = 2 := w64 (by omega) (by omega)
  have w2 : wrap64 (2 + 1) = 3 := w64 (by omega) (by omega)
  have r0 : rd_L1 [x, y, z] 0 = x := rfl
  have r1 : rd_L1 [x, y, z] 1 = y := rfl
  have r2 : rd_L1 [x, y, z] 2 = z := rfl
  have l0 : (([x, y, z] : List (List Int)).length : Int) = 3 := rfl
  rw [l0]
  apply ev_succ
  simp only [slices_Concat_int_int.l0, w0, r0, l0, List.nil_append]
  refine ev_ifp (by omega) (ev_ifp (by omega) (ev_ifp (by omega) (ev_ifp (by simp; omega) ?_)))
  apply ev_succ
  simp only [slices_Concat_int_int.l0, w1, r1, l0]
  refine ev_ifp (by omega) (ev_ifp (by omega) (ev_ifp (by omega) (ev_ifp (by omega) ?_)))
  apply ev_succ
  simp only [slices_Concat_int_int.l0, w2, r2, l0]
  refine ev_ifp (by omega) (ev_ifp (by omega) (ev_ifp (by omega) (ev_ifp (by rw [List.length_append]; omega) ?_)))
  apply ev_succ
  simp only [slices_Concat_int_int.l0]
  exact ev_ifn (by omega) (Ev.now _)
theorem impl_Amended_ev (l : List Int) (a b : Int) (m : List Int) (hl : l.length ≤ 1100000) (hm : m.length ≤ 1100000) : Ev (fun k => impl_Amended.f k l a b m) (amendG l a b m) := by
  unfold impl_Amended.f amendG
  rw [impl_May l a b m hl hm]
  simp only [Option.bind_some]
  by_cases h : mayG l a b m = true
  · have h' := (mayG_iff l a b m).mp h
    have w2 : wrap64 (a + b) = a + b := w64 (by omega) (by omega)
    rw [w2, if_pos h]
    refine ev_ifp h (ev_ifp (by omega) (ev_ifp (by omega) (ev_ifp (by omega) (ev_ifp (by omega) (Ev.bind (concat3_ev _ _ _ ?_) (Ev.now _))))))
    simp only [List.length_take, List.length_drop]
    omega
  · rw [if_neg h, Clone_eq l (by omega)]
    exact ev_ifn h (Ev.now _)
def laws_FnExactAmended.Pure : Prop := ∀ (l0 : List (Int)) (a1_0 : Int) (a1_1 : Int) (l1_2 : List (Int)), (l0.length ≤ maxLen ∧ ∀ y22 ∈ l0, (Lit.int .i64 y22).wf = true) → ((Lit.int .i64 a1_0).wf = true) → ((Lit.int .i64 a1_1).wf = true) → (l1_2.length ≤ maxLen ∧ ∀ y22 ∈ l1_2, (Lit.int .i64 y22).wf = true) → ∃ k, laws_FnExactAmended.f k l0 a1_0 a1_1 l1_2 = some true

theorem FnExactAmended : laws_FnExactAmended.Pure := by
  intro l a b m hl ha hb hm
  apply Ev.rounds
  unfold laws_FnExactAmended.f
  by_cases h : (l.length : Int) > 1048576
  · exact ev_ifp h (Ev.now _)
  refine ev_ifn h ?_
  rw [szAmend_eq a b m _ hm.1 (by omega) (by omega)]
  simp only [Option.bind_some]
  by_cases h' : (m.length : Int) ≤ 1048576
  · rw [if_pos h']
    refine ev_ifn (by omega) ?_
    have tl := toIntS_ev l (by omega)
    have el := eqIntS_ev l (by omega)
    have ta := toAmend_ev a b m (by omega)
    have ea := eqAmend_ev a b m (by omega)
    have hs := spec_Amended_eq l a b m (by omega) (by omega)
    have hi := impl_Amended_ev l a b m (by omega) (by omega)
    have hp := amendG_short l a b m (by omega)
    generalize amendG l a b m = g at hs hi hp
    obtain ⟨p, ok⟩ := g
    have hp' : p.length ≤ 1048576 := hp
    clear hp
    have eq1 := eqIntS_ev p (by omega)
    obtain ⟨ys, hm1, _, _⟩ := markInt_at l (by omega) 1 (by omega) (by omega)
    obtain ⟨zs, hm2, _, _⟩ := markInt_at m (by omega) (1 + (l.length : Int)) (by omega) (by omega)
    obtain ⟨mm, us, hu, hu0, hh⟩ := markInt_ev p (by omega)
    have hma : Ev (fun k => laws_markAmend.f k a b m (1 + (l.length : Int))) (1 + (l.length : Int) + (m.length : Int), zs) := by
      unfold laws_markAmend.f
      exact Ev.bind hm2 (Ev.now _)
    refine Ev.bind tl (Ev.bind ta (ev_bindc hs (Ev.bind tl (Ev.bind ta (Ev.bind hi (Ev.bind eq1 (ev_ifp rfl ?_)))))))
    apply ev_succ
    simp only [laws_FnExactAmended.j0]
    refine ev_ifn (by simp) (Ev.bind tl (Ev.bind el (ev_ifp rfl (Ev.bind ta (Ev.bind ea (ev_ifp rfl (Ev.bind hm1 (Ev.bind hma (ev_ifn (by simp only; omega) (Ev.bind eq1 (ev_ifp rfl ?_)))))))))))
    apply ev_succ
    simp only [laws_FnExactAmended.j1]
    refine ev_ifn (by simp) (Ev.bind hu (Ev.bind hh (ev_ifn (by omega) (ev_ifp rfl (Ev.bind tl (Ev.bind ta (Ev.bind hi (Ev.bind eq1 (ev_ifp rfl ?_)))))))))
    apply ev_succ
    simp only [laws_FnExactAmended.j2]
    exact ev_ifn (by simp) (Ev.bind hh (ev_ifn (by omega) (ev_ifp rfl (Ev.now _))))
  · rw [if_neg h']
    exact ev_ifp (by omega) (Ev.now _)

end Go.Proofs.Ytfdalcklgfdadaa.Pure
