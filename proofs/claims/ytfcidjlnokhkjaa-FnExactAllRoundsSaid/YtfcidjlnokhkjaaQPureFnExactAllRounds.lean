/- The program's AllRounds answers what the reference's answers, for all arguments, and its rows are its own.
No condition: for every input. -/
import Derived.Test.YtfcidjlnokhkjaaQFnExactAllRoundsx4
set_option linter.unusedVariables false
set_option linter.unusedSimpArgs false
set_option maxHeartbeats 1000000
namespace Go.Proofs.Ytfcidjlnokhkjaa.Pure
open Go.RowKit Go.Proofs.Ytfcidjlnokhkjaa.QFnExactAllRounds Go.Proofs.YtfcidjlnokhkjaaW.PrintWords Go.Proofs.YtfcidjlnokhkjaaW.PrintLast

theorem w64 {x : Int} (h1 : -9223372036854775808 ≤ x) (h2 : x ≤ 9223372036854775807) : wrap64 x = x := by unfold wrap64; omega
theorem wf64 {x : Int} (h : (Lit.int .i64 x).wf = true) : -9223372036854775808 ≤ x ∧ x ≤ 9223372036854775807 := by
  simp only [Lit.wf, Bool.and_eq_true, decide_eq_true_eq] at h
  have e1 : IntKind.min .i64 = -9223372036854775808 := by decide
  have e2 : IntKind.max .i64 = 9223372036854775807 := by decide
  omega
theorem wfu8 {x : Int} (h : (Lit.int .u8 x).wf = true) : 0 ≤ x ∧ x ≤ 255 := by
  simp only [Lit.wf, Bool.and_eq_true, decide_eq_true_eq] at h
  have e1 : IntKind.min .u8 = 0 := by decide
  have e2 : IntKind.max .u8 = 255 := by decide
  omega
theorem ev_succ {α : Type} {g : Nat → Option α} {r : α} (h : Ev (fun k => g (k + 1)) r) : Ev g r := Ev.step (fun _ => rfl) h
theorem ev_some {α : Type} {r s : α} (h : r = s) : Ev (fun _ => some r) s := by subst h; exact Ev.now r
theorem ev_fix {α : Type} {o : Option α} {r : α} (h : o = some r) : Ev (fun _ => o) r := ⟨0, fun _ _ => h⟩
theorem ev_at {α : Type} {g : Nat → Option α} {r : α} (n : Nat) (h : ∀ k, g (k + n) = some r) : Ev g r :=
  ⟨n, fun k hk => by obtain ⟨m, rfl⟩ : ∃ m, k = m + n := ⟨k - n, by omega⟩; exact h m⟩
theorem ev_bindc {α β : Type} {o : Option α} {f : Nat → α → Option β} {a : α} {r : β} (h : o = some a) (k : Ev (fun n => f n a) r) : Ev (fun n => o.bind (f n)) r := by
  subst h; exact k
theorem ev_ifp {α : Type} {c : Prop} [Decidable c] {a b : Nat → Option α} {r : α} (h : c) (k : Ev a r) : Ev (fun n => if c then a n else b n) r := by
  simpa only [if_pos h] using k
theorem ev_ifn {α : Type} {c : Prop} [Decidable c] {a b : Nat → Option α} {r : α} (h : ¬ c) (k : Ev b r) : Ev (fun n => if c then a n else b n) r := by
  simpa only [if_neg h] using k
theorem spec_l1In_eq (a b c : Int) : spec_l1In.f a b c = some (decide (b ≤ a ∧ a ≤ c)) := by
  unfold spec_l1In.f
  by_cases h : a ≥ b
  · have h' : b ≤ a := h
    simp [h']
  · have h' : ¬ b ≤ a := h
    simp [h']
theorem impl_InRange_eq (a b c : Int) : impl_InRange.f a b c = some (decide (b ≤ a ∧ a ≤ c)) := by
  unfold impl_InRange.f
  by_cases h : b ≤ a <;> simp [h]
theorem eqIntS_loop (xs : List Int) (hx : xs.length ≤ 17592186044416) (d : Nat) : ∀ (i : Nat), i + d = xs.length → Ev (fun k => laws_eqIntS.l0 k xs xs (i : Int)) true := by
  induction d with
  | zero =>
    intro i hd
    apply ev_succ
    simp only [laws_eqIntS.l0]
    refine ev_ifn (by omega) ?_
    exact Ev.now _
  | succ d ih =>
    intro i hd
    apply ev_succ
    simp only [laws_eqIntS.l0]
    refine ev_ifp (by omega) (ev_ifp (by omega) (ev_ifp (by omega) ?_))
    rw [w64 (by omega) (by omega)]
    simpa using ih (i + 1) (by omega)
theorem eqIntS_ev (xs : List Int) (hx : xs.length ≤ 17592186044416) : Ev (fun k => laws_eqIntS.f k xs xs) true := by
  unfold laws_eqIntS.f
  refine ev_ifp rfl ?_
  exact eqIntS_loop xs hx xs.length 0 (by omega)
theorem markInt_loop (n : Nat) (hn : n ≤ 1100000) (a : Int) (h0 : 0 ≤ a) (h1 : a ≤ 1000000000000) (d : Nat) : ∀ (i : Nat) (xs : List Int), xs.length = n → i + d = n → ∃ ys : List Int, Ev (fun k => laws_markIntS.l0 k xs (a + (i : Int)) (i : Int)) (a + (n : Int), ys) ∧ ys.length = n ∧ (∀ j : Nat, i ≤ j → j < n → ys[j]? = some (a + (j : Int))) ∧ (∀ j : Nat, j < i → ys[j]? = xs[j]?) := by
  induction d with
  | zero =>
    intro i xs hl hd
    refine ⟨xs, ?_, hl, fun j h1 h2 => by omega, fun j _ => rfl⟩
    apply ev_succ
    simp only [laws_markIntS.l0]
    refine ev_ifn (by omega) (ev_some ?_)
    rw [show (i : Int) = n by omega]
  | succ d ih =>
    intro i xs hl hd
    obtain ⟨ys, he, hy, h2, h3⟩ := ih (i + 1) (xs.set i (a + (i : Int))) (by simpa using hl) (by omega)
    refine ⟨ys, ?_, hy, fun j hj hn' => ?_, fun j hj => ?_⟩
    · apply ev_succ
      have w0 : wrap64 (a + (i : Int) + 1) = a + ((i + 1 : Nat) : Int) := by rw [w64 (by omega) (by omega)]; omega
      have w' : wrap64 ((i : Int) + 1) = ((i + 1 : Nat) : Int) := by rw [w64 (by omega) (by omega)]; simp
      simp only [laws_markIntS.l0, Int.toNat_natCast, w0, w']
      exact ev_ifp (by omega) (ev_ifp (by omega) he)
    · by_cases hji : j = i
      · subst hji
        rw [h3 j (by omega)]
        simp [show j < xs.length by omega]
      · exact h2 j (by omega) hn'
    · rw [h3 j (by omega), List.getElem?_set_ne (by omega)]
theorem markInt_at (xs : List Int) (hx : xs.length ≤ 1100000) (a : Int) (h0 : 0 ≤ a) (h1 : a ≤ 1000000000000) : ∃ ys, Ev (fun k => laws_markIntS.f k xs a) (a + (xs.length : Int), ys) ∧ ys.length = xs.length ∧ ∀ j : Nat, j < xs.length → ys[j]? = some (a + (j : Int)) := by
  obtain ⟨ys, he, hy, h2, h3⟩ := markInt_loop xs.length hx a h0 h1 xs.length 0 xs rfl (by omega)
  refine ⟨ys, ?_, hy, fun j hj => h2 j (by omega) hj⟩
  unfold laws_markIntS.f
  simpa using he
theorem heldInt_loop (ys : List Int) (n : Nat) (hn : n ≤ 1100000) (a : Int) (h0 : 0 ≤ a) (h1 : a ≤ 1000000000000) (hl : ys.length = n) (h : ∀ j : Nat, j < n → ys[j]? = some (a + (j : Int))) (d : Nat) : ∀ i : Nat, i + d = n → Ev (fun k => laws_heldIntS.l0 k ys (a + (i : Int)) (i : Int)) (a + (n : Int)) := by
  induction d with
  | zero =>
    intro i hd
    apply ev_succ
    simp only [laws_heldIntS.l0]
    refine ev_ifn (by omega) (ev_some ?_)
    rw [show (i : Int) = n by omega]
  | succ d ih =>
    intro i hd
    apply ev_succ
    have hr : rd ys (i : Int) = a + (i : Int) := by
      have := h i (by omega)
      simp [rd, List.getD_eq_getElem?_getD, this]
    have w0 : wrap64 (a + (i : Int) + 1) = a + ((i + 1 : Nat) : Int) := by rw [w64 (by omega) (by omega)]; omega
    have w' : wrap64 ((i : Int) + 1) = ((i + 1 : Nat) : Int) := by rw [w64 (by omega) (by omega)]; simp
    simp only [laws_heldIntS.l0, w0, w']
    exact ev_ifp (by omega) (ev_ifp (by omega) (ev_ifp hr (ih (i + 1) (by omega))))
theorem markInt_ev (xs : List Int) (hx : xs.length ≤ 1100000) : ∃ m ys, Ev (fun k => laws_markIntS.f k xs 1) (m, ys) ∧ 0 ≤ m ∧ Ev (fun k => laws_heldIntS.f k ys 1) m := by
  obtain ⟨ys, he, hy, h2⟩ := markInt_at xs hx 1 (by omega) (by omega)
  refine ⟨1 + (xs.length : Int), ys, he, by omega, ?_⟩
  unfold laws_heldIntS.f
  simpa using heldInt_loop ys xs.length hx 1 (by omega) (by omega) hy h2 xs.length 0 (by omega)
theorem drop_L1 (xs : List (List Int)) (i : Nat) (h : i < xs.length) : xs.drop i = rd_L1 xs (i : Int) :: xs.drop (i + 1) := by
  rw [List.drop_eq_getElem_cons h]
  simp [rd_L1, List.getD_eq_getElem?_getD, h]
def tot (xs : List (List Int)) : Nat := (xs.map List.length).sum
theorem tot_drop (xs : List (List Int)) (i : Nat) (h : i < xs.length) : tot (xs.drop i) = (rd_L1 xs (i : Int)).length + tot (xs.drop (i + 1)) := by
  rw [drop_L1 xs i h]
  simp [tot]
theorem eqSS_loop (xs : List (List Int)) (hx : xs.length ≤ 1100000) (d : Nat) : ∀ i : Nat, i + d = xs.length → tot (xs.drop i) ≤ 1100000 → Ev (fun k => laws_eqIntSS.l0 k xs xs (i : Int)) true := by
  induction d with
  | zero =>
    intro i hd _
    apply ev_succ
    simp only [laws_eqIntSS.l0]
    exact ev_ifn (by omega) (Ev.now _)
  | succ d ih =>
    intro i hd ht
    have e1 : wrap64 ((i : Int) + 1) = ((i + 1 : Nat) : Int) := by rw [w64 (by omega) (by omega)]; simp
    rw [tot_drop xs i (by omega)] at ht
    apply ev_succ
    simp only [laws_eqIntSS.l0, e1]
    exact ev_ifp (by omega) (ev_ifp (by omega) (ev_ifp (by omega) (Ev.bind (eqIntS_ev (rd_L1 xs (i : Int)) (by omega)) (ev_ifp rfl (ih (i + 1) (by omega) (by omega))))))
theorem eqSS_ev (xs : List (List Int)) (hx : xs.length ≤ 1100000) (ht : tot xs ≤ 1100000) : Ev (fun k => laws_eqIntSS.f k xs xs) true := by
  unfold laws_eqIntSS.f
  exact ev_ifp rfl (eqSS_loop xs hx xs.length 0 (by omega) ht)
/-- Each row is marked on from where the one before it ended. -/
def Marked : List (List Int) → Int → Int → Prop
  | [], a, b => a = b
  | y :: ys, a, b => (∀ j : Nat, j < y.length → y[j]? = some (a + (j : Int))) ∧ y.length ≤ 1100000 ∧ 0 ≤ a ∧ a ≤ 1000000000000 ∧ Marked ys (a + (y.length : Int)) b
theorem markSS_loop (n : Nat) (hn : n ≤ 1100000) (d : Nat) : ∀ (i : Nat) (xs : List (List Int)) (a : Int), xs.length = n → i + d = n → 1 ≤ a → tot (xs.drop i) ≤ 1100000 → a + (tot (xs.drop i) : Int) ≤ 4000000 →
    ∃ ys, Ev (fun k => laws_markIntSS.l0 k xs a (i : Int)) (a + (tot (xs.drop i) : Int), ys) ∧ ys.length = n ∧ ys.take i = xs.take i ∧ Marked (ys.drop i) a (a + (tot (xs.drop i) : Int)) := by
  induction d with
  | zero =>
    intro i xs a hl hd h0 ht0 ht
    have e : xs.drop i = [] := List.drop_eq_nil_of_le (by omega)
    rw [e]
    refine ⟨xs, ?_, hl, rfl, ?_⟩
    · apply ev_succ
      simp only [laws_markIntSS.l0]
      exact ev_ifn (by omega) (ev_some (by simp [tot]))
    · rw [e]
      simp [Marked, tot]
  | succ d ih =>
    intro i xs a hl hd h0 ht0 ht
    have hi : i < xs.length := by omega
    have e1 : wrap64 ((i : Int) + 1) = ((i + 1 : Nat) : Int) := by rw [w64 (by omega) (by omega)]; simp
    rw [tot_drop xs i hi] at ht0 ht ⊢
    obtain ⟨y, hy, hyl, hyc⟩ := markInt_at (rd_L1 xs (i : Int)) (by omega) a (by omega) (by omega)
    have hdr : (xs.set i y).drop (i + 1) = xs.drop (i + 1) := by rw [List.drop_set_of_lt (by omega)]
    obtain ⟨ys, h1, h2, h3, h4⟩ := ih (i + 1) (xs.set i y) (a + ((rd_L1 xs (i : Int)).length : Int)) (by simpa using hl) (by omega) (by omega) (by rw [hdr]; omega) (by rw [hdr]; omega)
    rw [hdr] at h1 h4
    have ea : a + ((rd_L1 xs (i : Int)).length : Int) + (tot (xs.drop (i + 1)) : Int) = a + (((rd_L1 xs (i : Int)).length + tot (xs.drop (i + 1)) : Nat) : Int) := by omega
    rw [ea] at h1 h4
    refine ⟨ys, ?_, h2, ?_, ?_⟩
    · apply ev_succ
      simp only [laws_markIntSS.l0, e1, Int.toNat_natCast]
      exact ev_ifp (by omega) (ev_ifp (by omega) (Ev.bind hy h1))
    · have := congrArg (List.take i) h3
      rw [List.take_take, List.take_take, Nat.min_eq_left (by omega), List.take_set_of_le (by omega)] at this
      exact this
    · have hyi : ys.drop i = y :: ys.drop (i + 1) := by
        have hil : i < ys.length := by omega
        rw [List.drop_eq_getElem_cons hil]
        have h5 := congrArg (fun l => l[i]?) h3
        simp only [List.getElem?_take] at h5
        rw [if_pos (by omega), if_pos (by omega), List.getElem?_set_self hi, List.getElem?_eq_getElem hil] at h5
        rw [Option.some.inj h5]
      rw [hyi]
      unfold Marked
      refine ⟨fun j hj => hyc j (by omega), by omega, by omega, by omega, ?_⟩
      rw [hyl]
      exact h4
theorem heldSS_loop (ys : List (List Int)) (hn : ys.length ≤ 1100000) (b : Int) (d : Nat) : ∀ (i : Nat) (a : Int), i + d = ys.length → Marked (ys.drop i) a b → Ev (fun k => laws_heldIntSS.l0 k ys a (i : Int)) b := by
  induction d with
  | zero =>
    intro i a hd hm
    rw [List.drop_eq_nil_of_le (by omega)] at hm
    apply ev_succ
    simp only [laws_heldIntSS.l0]
    exact ev_ifn (by omega) (ev_some hm)
  | succ d ih =>
    intro i a hd hm
    have e1 : wrap64 ((i : Int) + 1) = ((i + 1 : Nat) : Int) := by rw [w64 (by omega) (by omega)]; simp
    rw [drop_L1 ys i (by omega)] at hm
    unfold Marked at hm
    obtain ⟨h1, h2, h3, h4, h5⟩ := hm
    have hh : Ev (fun k => laws_heldIntS.f k (rd_L1 ys (i : Int)) a) (a + ((rd_L1 ys (i : Int)).length : Int)) := by
      have := heldInt_loop (rd_L1 ys (i : Int)) (rd_L1 ys (i : Int)).length h2 a h3 h4 rfl h1 (rd_L1 ys (i : Int)).length 0 (by omega)
      unfold laws_heldIntS.f
      simpa using this
    apply ev_succ
    simp only [laws_heldIntSS.l0, e1]
    exact ev_ifp (by omega) (ev_ifp (by omega) (Ev.bind hh (ev_ifn (by omega) (ih (i + 1) _ (by omega) h5))))
theorem drop_L2 (xs : List (List (List Int))) (i : Nat) (h : i < xs.length) : xs.drop i = rd_L2 xs (i : Int) :: xs.drop (i + 1) := by
  rw [List.drop_eq_getElem_cons h]
  simp [rd_L2, List.getD_eq_getElem?_getD, h]
def tot3 (xs : List (List (List Int))) : Nat := (xs.map tot).sum
def len3 (xs : List (List (List Int))) : Nat := (xs.map List.length).sum
theorem tot3_drop (xs : List (List (List Int))) (i : Nat) (h : i < xs.length) : tot3 (xs.drop i) = tot (rd_L2 xs (i : Int)) + tot3 (xs.drop (i + 1)) := by
  rw [drop_L2 xs i h]
  simp [tot3]
theorem len3_drop (xs : List (List (List Int))) (i : Nat) (h : i < xs.length) : len3 (xs.drop i) = (rd_L2 xs (i : Int)).length + len3 (xs.drop (i + 1)) := by
  rw [drop_L2 xs i h]
  simp [len3]
theorem eqSSS_loop (xs : List (List (List Int))) (hx : xs.length ≤ 1100000) (d : Nat) : ∀ i : Nat, i + d = xs.length → tot3 (xs.drop i) ≤ 1100000 → len3 (xs.drop i) ≤ 1100000 → Ev (fun k => laws_eqIntSSS.l0 k xs xs (i : Int)) true := by
  induction d with
  | zero =>
    intro i hd _ _
    apply ev_succ
    simp only [laws_eqIntSSS.l0]
    exact ev_ifn (by omega) (Ev.now _)
  | succ d ih =>
    intro i hd ht hl
    have e1 : wrap64 ((i : Int) + 1) = ((i + 1 : Nat) : Int) := by rw [w64 (by omega) (by omega)]; simp
    rw [tot3_drop xs i (by omega)] at ht
    rw [len3_drop xs i (by omega)] at hl
    apply ev_succ
    simp only [laws_eqIntSSS.l0, e1]
    exact ev_ifp (by omega) (ev_ifp (by omega) (ev_ifp (by omega) (Ev.bind (eqSS_ev (rd_L2 xs (i : Int)) (by omega) (by omega)) (ev_ifp rfl (ih (i + 1) (by omega) (by omega) (by omega))))))
theorem eqSSS_ev (xs : List (List (List Int))) (hx : xs.length ≤ 1100000) (ht : tot3 xs ≤ 1100000) (hl : len3 xs ≤ 1100000) : Ev (fun k => laws_eqIntSSS.f k xs xs) true := by
  unfold laws_eqIntSSS.f
  exact ev_ifp rfl (eqSSS_loop xs hx xs.length 0 (by omega) ht hl)
def Marked3 : List (List (List Int)) → Int → Int → Prop
  | [], a, b => a = b
  | y :: ys, a, b => ∃ c, Marked y a c ∧ y.length ≤ 1100000 ∧ 0 ≤ c ∧ Marked3 ys c b
theorem markSSS_loop (n : Nat) (hn : n ≤ 1100000) (d : Nat) : ∀ (i : Nat) (xs : List (List (List Int))) (a : Int), xs.length = n → i + d = n → 1 ≤ a → a + (tot3 (xs.drop i) : Int) ≤ 1100001 → len3 (xs.drop i) ≤ 1100000 →
    ∃ ys, Ev (fun k => laws_markIntSSS.l0 k xs a (i : Int)) (a + (tot3 (xs.drop i) : Int), ys) ∧ ys.length = n ∧ ys.take i = xs.take i ∧ Marked3 (ys.drop i) a (a + (tot3 (xs.drop i) : Int)) := by
  induction d with
  | zero =>
    intro i xs a hl hd h0 ht _
    have e : xs.drop i = [] := List.drop_eq_nil_of_le (by omega)
    rw [e]
    refine ⟨xs, ?_, hl, rfl, ?_⟩
    · apply ev_succ
      simp only [laws_markIntSSS.l0]
      exact ev_ifn (by omega) (ev_some (by simp [tot3]))
    · rw [e]
      simp [Marked3, tot3]
  | succ d ih =>
    intro i xs a hl hd h0 ht hm
    have hi : i < xs.length := by omega
    have e1 : wrap64 ((i : Int) + 1) = ((i + 1 : Nat) : Int) := by rw [w64 (by omega) (by omega)]; simp
    rw [tot3_drop xs i hi] at ht ⊢
    rw [len3_drop xs i hi] at hm
    obtain ⟨y, hy, hyl, _, hyc⟩ := markSS_loop (rd_L2 xs (i : Int)).length (by omega) (rd_L2 xs (i : Int)).length 0 (rd_L2 xs (i : Int)) a rfl (by omega) (by omega) (by simp only [List.drop_zero]; omega) (by simp only [List.drop_zero]; omega)
    simp only [List.drop_zero] at hy hyc
    have hdr : (xs.set i y).drop (i + 1) = xs.drop (i + 1) := by rw [List.drop_set_of_lt (by omega)]
    obtain ⟨ys, h1, h2, h3, h4⟩ := ih (i + 1) (xs.set i y) (a + (tot (rd_L2 xs (i : Int)) : Int)) (by simpa using hl) (by omega) (by omega) (by rw [hdr]; omega) (by rw [hdr]; omega)
    rw [hdr] at h1 h4
    have ea : a + (tot (rd_L2 xs (i : Int)) : Int) + (tot3 (xs.drop (i + 1)) : Int) = a + ((tot (rd_L2 xs (i : Int)) + tot3 (xs.drop (i + 1)) : Nat) : Int) := by omega
    rw [ea] at h1 h4
    refine ⟨ys, ?_, h2, ?_, ?_⟩
    · apply ev_succ
      simp only [laws_markIntSSS.l0, e1, Int.toNat_natCast]
      exact ev_ifp (by omega) (ev_ifp (by omega) (Ev.bind hy h1))
    · have := congrArg (List.take i) h3
      rw [List.take_take, List.take_take, Nat.min_eq_left (by omega), List.take_set_of_le (by omega)] at this
      exact this
    · have hyi : ys.drop i = y :: ys.drop (i + 1) := by
        have hil : i < ys.length := by omega
        rw [List.drop_eq_getElem_cons hil]
        have h5 := congrArg (fun l => l[i]?) h3
        simp only [List.getElem?_take] at h5
        rw [if_pos (by omega), if_pos (by omega), List.getElem?_set_self hi, List.getElem?_eq_getElem hil] at h5
        rw [Option.some.inj h5]
      rw [hyi]
      unfold Marked3
      exact ⟨_, hyc, by omega, by omega, h4⟩
theorem heldSSS_loop (ys : List (List (List Int))) (hn : ys.length ≤ 1100000) (b : Int) (d : Nat) : ∀ (i : Nat) (a : Int), i + d = ys.length → Marked3 (ys.drop i) a b → Ev (fun k => laws_heldIntSSS.l0 k ys a (i : Int)) b := by
  induction d with
  | zero =>
    intro i a hd hm
    rw [List.drop_eq_nil_of_le (by omega)] at hm
    apply ev_succ
    simp only [laws_heldIntSSS.l0]
    exact ev_ifn (by omega) (ev_some hm)
  | succ d ih =>
    intro i a hd hm
    have e1 : wrap64 ((i : Int) + 1) = ((i + 1 : Nat) : Int) := by rw [w64 (by omega) (by omega)]; simp
    rw [drop_L2 ys i (by omega)] at hm
    unfold Marked3 at hm
    obtain ⟨c, h1, h2, h3, h4⟩ := hm
    have hh : Ev (fun k => laws_heldIntSS.f k (rd_L2 ys (i : Int)) a) c := heldSS_loop (rd_L2 ys (i : Int)) h2 c (rd_L2 ys (i : Int)).length 0 a (by omega) (by simpa using h1)
    apply ev_succ
    simp only [laws_heldIntSSS.l0, e1]
    exact ev_ifp (by omega) (ev_ifp (by omega) (Ev.bind hh (ev_ifn (by omega) (ih (i + 1) _ (by omega) h4))))
theorem markSSS_ev (xs : List (List (List Int))) (hx : xs.length ≤ 1100000) (ht : tot3 xs ≤ 1100000) (hl : len3 xs ≤ 1100000) : ∃ m ys, Ev (fun k => laws_markIntSSS.f k xs 1) (m, ys) ∧ 0 ≤ m ∧ Ev (fun k => laws_heldIntSSS.f k ys 1) m := by
  obtain ⟨ys, h1, h2, h3, h4⟩ := markSSS_loop xs.length hx xs.length 0 xs 1 rfl (by omega) (by omega) (by simp only [List.drop_zero]; omega) (by simpa using hl)
  simp only [List.drop_zero] at h1 h4
  exact ⟨_, ys, h1, by omega, heldSSS_loop ys (by omega) _ ys.length 0 1 (by omega) h4⟩
def roundR (n k : Int) : List (List Int) := (impl_SeasonRound.f 60 n k).getD []
def pairOk (p : List Int) : Bool := match p with
  | [x, y] => decide (x ≤ y)
  | _ => false
def roundOk (n k : Int) : Bool := match spec_SeasonRound.f 60 n k, impl_SeasonRound.f 60 n k with
  | some r, some r' => r == r' && r.all pairOk && decide (r.length ≤ 20)
  | _, _ => false
theorem all_rounds : ((List.range 19).all fun j => (List.range 21).all fun n => decide (n < 2) || decide (n % 2 = 1) || decide (n ≤ j + 1) || roundOk (n : Int) (j : Int)) = true := by decide +kernel
theorem round_at (n : Int) (h : 2 ≤ n ∧ n ≤ 20) (he : n % 2 = 0) (j : Nat) (hj : (j : Int) < n - 1) : roundOk n j = true := by
  have h1 := List.all_eq_true.mp all_rounds j (by rw [List.mem_range]; omega)
  have h2 := List.all_eq_true.mp h1 n.toNat (by rw [List.mem_range]; omega)
  simp only [Bool.or_eq_true, decide_eq_true_eq] at h2
  rw [show ((n.toNat : Nat) : Int) = n by omega] at h2
  rcases h2 with ((h2 | h2) | h2) | h2
  · omega
  · omega
  · omega
  · exact h2
theorem round_ev (n : Int) (h : 2 ≤ n ∧ n ≤ 20) (he : n % 2 = 0) (j : Nat) (hj : (j : Int) < n - 1) : Ev (fun k => spec_SeasonRound.f k n j) (roundR n j) ∧ Ev (fun k => impl_SeasonRound.f k n j) (roundR n j) ∧ (roundR n j).all pairOk = true ∧ (roundR n j).length ≤ 20 := by
  have ho := round_at n h he j hj
  unfold roundOk at ho
  split at ho
  · next r r' e1 e2 =>
    simp only [Bool.and_eq_true, beq_iff_eq, decide_eq_true_eq] at ho
    obtain ⟨⟨rfl, h2⟩, h3⟩ := ho
    have e : roundR n j = r := by unfold roundR; rw [e2]; rfl
    rw [e]
    exact ⟨Ev.of (fun k => spec_SeasonRound.mono n j k) e1, Ev.of (fun k => impl_SeasonRound.mono n j k) e2, h2, h3⟩
  · cases ho
def roundsG (n : Int) (m : Nat) : List (List (List Int)) := (List.range m).map fun (j : Nat) => roundR n (j : Int)
theorem roundsG_len (n : Int) (m : Nat) : (roundsG n m).length = m := by simp [roundsG]
theorem roundsG_succ (n : Int) (m : Nat) : roundsG n (m + 1) = roundsG n m ++ [roundR n (m : Int)] := by
  simp [roundsG, List.range_succ]
theorem roundsG_rd (n : Int) (m j : Nat) (hj : j < m) : rd_L2 (roundsG n m) (j : Int) = roundR n (j : Int) := by
  simp [rd_L2, roundsG, List.getD_eq_getElem?_getD, hj]
theorem all_loop (n : Int) (h : 2 ≤ n ∧ n ≤ 20) (he : n % 2 = 0) (d : Nat) : ∀ j : Nat, (j : Int) + d = n - 1 → Ev (fun k => impl_AllRounds.l0 k n (roundsG n j) (n - 1) (j : Int)) (roundsG n (n - 1).toNat) := by
  induction d with
  | zero =>
    intro j hj
    apply ev_succ
    simp only [impl_AllRounds.l0]
    refine ev_ifn (by omega) (ev_some ?_)
    rw [show j = (n - 1).toNat by omega]
  | succ d ih =>
    intro j hj
    have e1 : wrap64 ((j : Int) + 1) = ((j + 1 : Nat) : Int) := by rw [w64 (by omega) (by omega)]; simp
    obtain ⟨_, h2, _, _⟩ := round_ev n h he j (by omega)
    have hl := roundsG_len n j
    have ih' := ih (j + 1) (by omega)
    rw [roundsG_succ] at ih'
    apply ev_succ
    simp only [impl_AllRounds.l0, e1]
    exact ev_ifp (by omega) (Ev.bind h2 (ev_ifp (by omega) ih'))
theorem tot_pairs : ∀ r : List (List Int), r.all pairOk = true → tot r = 2 * r.length
  | [], _ => rfl
  | p :: r, h => by
    rw [List.all_cons, Bool.and_eq_true] at h
    have ih := tot_pairs r h.2
    have hp : p.length = 2 := by
      have := h.1
      unfold pairOk at this
      split at this
      · rfl
      · cases this
    unfold tot at ih ⊢
    rw [List.map_cons, List.sum_cons, List.length_cons, ih, hp]
    omega
def laws_FnExactAllRounds.Pure : Prop := ∀ (a0 : Int), ((Lit.int .i64 a0).wf = true) → ∃ k, laws_FnExactAllRounds.f k a0 = some true
theorem spec_all_loop (n : Int) (h : 2 ≤ n ∧ n ≤ 20) (he : n % 2 = 0) (d : Nat) : ∀ j : Nat, (j : Int) + d = n - 1 → Ev (fun k => spec_AllRounds.l0 k n (roundsG n j) (j : Int)) (roundsG n (n - 1).toNat) := by
  have w0 : wrap64 (n - 1) = n - 1 := w64 (by omega) (by omega)
  induction d with
  | zero =>
    intro j hj
    apply ev_succ
    simp only [spec_AllRounds.l0, w0]
    refine ev_ifn (by omega) (ev_some ?_)
    rw [show j = (n - 1).toNat by omega]
  | succ d ih =>
    intro j hj
    have e1 : wrap64 ((j : Int) + 1) = ((j + 1 : Nat) : Int) := by rw [w64 (by omega) (by omega)]; simp
    obtain ⟨h1, _, _, _⟩ := round_ev n h he j (by omega)
    have hl := roundsG_len n j
    have ih' := ih (j + 1) (by omega)
    rw [roundsG_succ] at ih'
    apply ev_succ
    simp only [spec_AllRounds.l0, e1, w0]
    exact ev_ifp (by omega) (Ev.bind h1 (ev_ifp (by omega) ih'))
theorem rounds_size (n : Int) (h : 2 ≤ n ∧ n ≤ 20) (he : n % 2 = 0) (m : Nat) (hm : (m : Int) ≤ n - 1) : tot3 (roundsG n m) ≤ 40 * m ∧ len3 (roundsG n m) ≤ 20 * m := by
  induction m with
  | zero => simp [roundsG, tot3, len3]
  | succ m ih =>
    obtain ⟨_, _, c, d⟩ := round_ev n h he m (by omega)
    have hp := tot_pairs _ c
    obtain ⟨i1, i2⟩ := ih (by omega)
    rw [roundsG_succ]
    unfold tot3 len3 at *
    rw [List.map_append, List.map_append, List.sum_append, List.sum_append, List.map_singleton, List.map_singleton, List.sum_singleton, List.sum_singleton]
    omega
theorem all_both (n : Int) : ∃ R, Ev (fun k => spec_AllRounds.f k n) R ∧ Ev (fun k => impl_AllRounds.f k n) R ∧ R.length ≤ 20 ∧ tot3 R ≤ 1000 ∧ len3 R ≤ 1000 := by
  by_cases h1 : (2 ≤ n ∧ n ≤ 20) ∧ Int.tmod n 2 = 0
  · have hw : wrap64 (n - 1) = n - 1 := w64 (by omega) (by omega)
    have he : n % 2 = 0 := by
      have := Int.tmod_eq_emod_of_nonneg (a := n) (b := 2) (by omega)
      omega
    have hsz := rounds_size n h1.1 he (n - 1).toNat (by omega)
    refine ⟨roundsG n (n - 1).toNat, ?_, ?_, by rw [roundsG_len]; omega, by omega, by omega⟩
    · have e : spec_l31Ok.f n = some true := by
        unfold spec_l31Ok.f
        rw [spec_l1In_eq, decide_eq_true h1.1]
        simp [h1.2]
      simp only [spec_AllRounds.f, e, Option.bind_some]
      exact ev_ifp trivial (spec_all_loop n h1.1 he (n - 1).toNat 0 (by omega))
    · have e : impl_isSeason.f n = some true := by
        unfold impl_isSeason.f
        rw [impl_InRange_eq, decide_eq_true h1.1]
        simp [h1.2]
      simp only [impl_AllRounds.f, e, Option.bind_some, hw]
      exact ev_ifp trivial (all_loop n h1.1 he (n - 1).toNat 0 (by omega))
  · refine ⟨[], ?_, ?_, by simp, by simp [tot3], by simp [len3]⟩
    · have e : spec_l31Ok.f n = some false := by
        unfold spec_l31Ok.f
        rw [spec_l1In_eq]
        by_cases h3 : 2 ≤ n ∧ n ≤ 20
        · have h4 : ¬ Int.tmod n 2 = 0 := fun e => h1 ⟨h3, e⟩
          simp [h3, h4]
        · simp [h3]
      simp only [spec_AllRounds.f, e, Option.bind_some]
      exact ev_ifn (by simp) (Ev.now _)
    · have e : impl_isSeason.f n = some false := by
        unfold impl_isSeason.f
        rw [impl_InRange_eq]
        by_cases h3 : 2 ≤ n ∧ n ≤ 20
        · have h4 : ¬ Int.tmod n 2 = 0 := fun e => h1 ⟨h3, e⟩
          simp [h3, h4]
        · simp [h3]
      simp only [impl_AllRounds.f, e, Option.bind_some]
      exact ev_ifn (by simp) (Ev.now _)
theorem FnExactAllRounds : laws_FnExactAllRounds.Pure := by
  intro n _
  apply Ev.rounds
  unfold laws_FnExactAllRounds.f
  obtain ⟨R, hs, hi, hl, ht, hn⟩ := all_both n
  have hq := eqSSS_ev R (by omega) (by omega) (by omega)
  obtain ⟨m, ys, hm, hm0, hh⟩ := markSSS_ev R (by omega) (by omega) (by omega)
  exact Ev.bind hs (Ev.bind hi (Ev.bind hq (ev_ifp rfl (Ev.bind hm (Ev.bind hh (ev_ifn (by omega) (ev_ifp rfl (Ev.bind hi (Ev.bind hq (ev_ifp rfl (Ev.bind hh (ev_ifn (by omega) (ev_ifp rfl (Ev.now _))))))))))))))

end Go.Proofs.Ytfcidjlnokhkjaa.Pure
