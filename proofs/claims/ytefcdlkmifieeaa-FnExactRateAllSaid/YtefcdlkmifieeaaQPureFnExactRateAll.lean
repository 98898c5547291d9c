/- The program's RateAll answers what the reference's answers, for all arguments, and its list is its own.
No condition: for every input. -/
import Derived.Test.YtefcdlkmifieeaaQFnExactRateAllx6
set_option linter.unusedVariables false
set_option linter.unusedSimpArgs false
set_option maxHeartbeats 1000000
namespace Go.Proofs.Ytefcdlkmifieeaa.Pure
open Go.RowKit Go.Proofs.Ytefcdlkmifieeaa.QFnExactRateAll Go.Proofs.YtefcdlkmifieeaaW.PrintWords Go.Proofs.YtefcdlkmifieeaaW.PrintLast

theorem w64 {x : Int} (h1 : -9223372036854775808 ≤ x) (h2 : x ≤ 9223372036854775807) : wrap64 x = x := by unfold wrap64; omega
theorem wf64 {x : Int} (h : (Lit.int .i64 x).wf = true) : -9223372036854775808 ≤ x ∧ x ≤ 9223372036854775807 := by
  simp only [Lit.wf, Bool.and_eq_true, decide_eq_true_eq] at h
  have e1 : IntKind.min .i64 = -9223372036854775808 := by decide
  have e2 : IntKind.max .i64 = 9223372036854775807 := by decide
  omega
theorem wfu8 {x : Int} (h : (Lit.int .u8 x).wf = true) : 0 ≤ x ∧ x ≤ 255 := by
  simp only [Lit.wf, Bool.and_eq_true, decide_eq_true_eq] at h
  have e1 : IntKind.min .u8 = 0 := by decide
  have e2 : IntKind.max .u8 = 255 := by decide
  omega
theorem ev_succ {α : Type} {g : Nat → Option α} {r : α} (h : Ev (fun k => g (k + 1)) r) : Ev g r := Ev.step (fun _ => rfl) h
theorem ev_some {α : Type} {r s : α} (h : r = s) : Ev (fun _ => some r) s := by subst h; exact Ev.now r
theorem ev_fix {α : Type} {o : Option α} {r : α} (h : o = some r) : Ev (fun _ => o) r := ⟨0, fun _ _ => h⟩
theorem ev_at {α : Type} {g : Nat → Option α} {r : α} (n : Nat) (h : ∀ k, g (k + n) = some r) : Ev g r :=
  ⟨n, fun k hk => by obtain ⟨m, rfl⟩ : ∃ m, k = m + n := ⟨k - n, by omega⟩; exact h m⟩
theorem ev_bindc {α β : Type} {o : Option α} {f : Nat → α → Option β} {a : α} {r : β} (h : o = some a) (k : Ev (fun n => f n a) r) : Ev (fun n => o.bind (f n)) r := by
  subst h; exact k
theorem ev_ifp {α : Type} {c : Prop} [Decidable c] {a b : Nat → Option α} {r : α} (h : c) (k : Ev a r) : Ev (fun n => if c then a n else b n) r := by
  simpa only [if_pos h] using k
theorem ev_ifn {α : Type} {c : Prop} [Decidable c] {a b : Nat → Option α} {r : α} (h : ¬ c) (k : Ev b r) : Ev (fun n => if c then a n else b n) r := by
  simpa only [if_neg h] using k
theorem spec_l1In_eq (a b c : Int) : spec_l1In.f a b c = some (decide (b ≤ a ∧ a ≤ c)) := by
  unfold spec_l1In.f
  by_cases h : a ≥ b
  · have h' : b ≤ a := h
    simp [h']
  · have h' : ¬ b ≤ a := h
    simp [h']
theorem impl_InRange_eq (a b c : Int) : impl_InRange.f a b c = some (decide (b ≤ a ∧ a ≤ c)) := by
  unfold impl_InRange.f
  by_cases h : b ≤ a <;> simp [h]
theorem spec_Max_eq (a b : Int) : spec_Max.f a b = some (max a b) := by
  unfold spec_Max.f
  split <;> congr 1 <;> omega
theorem spec_Min_eq (a b : Int) : spec_Min.f a b = some (min a b) := by
  unfold spec_Min.f
  split <;> congr 1 <;> omega
theorem mx_eq (a b : Int) : mx a b = max a b := by unfold mx; omega
theorem mn_eq (a b : Int) : mn a b = min a b := by unfold mn; omega
def ratG (a : Int) : Prop := 0 ≤ a ∧ a ≤ 3000
instance (a : Int) : Decidable (ratG a) := by unfold ratG; infer_instance
def expG (a b : Int) : Int := if ratG a ∧ ratG b then max 50 (min 950 (500 + Int.tdiv (a - b) 2)) else -1
theorem expG_no {a b : Int} (h : ¬ (ratG a ∧ ratG b)) : expG a b = -1 := if_neg h
theorem expG_yes {a b : Int} (h : ratG a ∧ ratG b) : 50 ≤ expG a b ∧ expG a b ≤ 950 := by
  unfold expG; rw [if_pos h]; omega
def excG (a b : Int) (won : Bool) : Int :=
  if ratG a ∧ ratG b then
    (if won = true then max (min (Int.tdiv (32 * (1000 - expG a b)) 1000) (min (3000 - a) b)) (max (-a) (b - 3000))
     else max (min (Int.tdiv (32 * (- expG a b)) 1000) (min (3000 - a) b)) (max (-a) (b - 3000)))
  else 0
theorem tdiv_le {x n : Int} (hn : 0 < n) (h0 : 0 ≤ x) : 0 ≤ Int.tdiv x n ∧ Int.tdiv x n ≤ x := by
  rw [Int.tdiv_eq_ediv_of_nonneg h0]
  exact ⟨Int.ediv_nonneg h0 (by omega), Int.ediv_le_self _ h0⟩
theorem tdiv_bd {x n : Int} (hn : 0 < n) (m : Int) (h0 : -m ≤ x) (h1 : x ≤ m) : -m ≤ Int.tdiv x n ∧ Int.tdiv x n ≤ m := by
  rcases Int.le_total 0 x with h | h
  · have := tdiv_le hn h; omega
  · have := tdiv_le hn (x := -x) (by omega)
    rw [Int.neg_tdiv] at this
    omega
theorem spec_Expected_eq (k : Nat) (a b : Int) : spec_Expected.f (k + 1) a b = some (expG a b) := by
  simp only [spec_Expected.f, spec_Expected.j0, spec_l1In_eq, spec_Max_eq, spec_Min_eq, Option.bind_some]
  by_cases h1 : 0 ≤ a ∧ a ≤ 3000
  · by_cases h2 : 0 ≤ b ∧ b ≤ 3000
    · have e1 : wrap64 (a - b) = a - b := w64 (by omega) (by omega)
      have hd := tdiv_bd (x := a - b) (n := 2) (by omega) 3000 (by omega) (by omega)
      have e2 : wrap64 (Int.tdiv (a - b) 2) = Int.tdiv (a - b) 2 := w64 (by omega) (by omega)
      have e3 : wrap64 (500 + Int.tdiv (a - b) 2) = 500 + Int.tdiv (a - b) 2 := w64 (by omega) (by omega)
      have hr : ratG a ∧ ratG b := ⟨h1, h2⟩
      simp [h1, h2, e1, e2, e3, expG, hr]
    · have hr : ¬ (ratG a ∧ ratG b) := fun h => h2 h.2
      simp [h1, h2, expG, hr]
  · have hr : ¬ (ratG a ∧ ratG b) := fun h => h1 h.1
    simp [h1, expG, hr]
theorem impl_Expected_eq (a b : Int) : impl_Expected.f a b = some (expG a b) := by
  simp only [impl_Expected.f, impl_isRating.f, impl_InRange_eq, mx_eq, mn_eq, Option.bind_some]
  by_cases h1 : 0 ≤ a ∧ a ≤ 3000
  · by_cases h2 : 0 ≤ b ∧ b ≤ 3000
    · have e1 : wrap64 (a - b) = a - b := w64 (by omega) (by omega)
      have hd := tdiv_bd (x := a - b) (n := 2) (by omega) 3000 (by omega) (by omega)
      have e2 : wrap64 (Int.tdiv (a - b) 2) = Int.tdiv (a - b) 2 := w64 (by omega) (by omega)
      have e3 : wrap64 (500 + Int.tdiv (a - b) 2) = 500 + Int.tdiv (a - b) 2 := w64 (by omega) (by omega)
      have hr : ratG a ∧ ratG b := ⟨h1, h2⟩
      simp [h1, h2, e1, e2, e3, expG, hr, Int.min_comm]
    · have hr : ¬ (ratG a ∧ ratG b) := fun h => h2 h.2
      simp [h1, h2, expG, hr]
  · have hr : ¬ (ratG a ∧ ratG b) := fun h => h1 h.1
    simp [h1, expG, hr]
theorem spec_Exchange_eq (k : Nat) (a b : Int) (won : Bool) : spec_Exchange.f (k + 1) a b won = some (excG a b won) := by
  simp only [spec_Exchange.f, spec_Exchange.j0, spec_Expected_eq, spec_Max_eq, spec_Min_eq, Option.bind_some]
  by_cases hr : ratG a ∧ ratG b
  · have hE := expG_yes hr
    have ha : 0 ≤ a ∧ a ≤ 3000 := hr.1
    have hb : 0 ≤ b ∧ b ≤ 3000 := hr.2
    rw [if_neg (by omega), w64 (x := 1000 - expG a b) (by omega) (by omega), w64 (x := - expG a b) (by omega) (by omega), w64 (x := 3000 - a) (by omega) (by omega), w64 (x := -a) (by omega) (by omega), w64 (x := b - 3000) (by omega) (by omega),
      w64 (x := 32 * (1000 - expG a b)) (by omega) (by omega), w64 (x := 32 * (- expG a b)) (by omega) (by omega)]
    have t1 := tdiv_bd (x := 32 * (1000 - expG a b)) (n := 1000) (by omega) 40000 (by omega) (by omega)
    have t2 := tdiv_bd (x := 32 * (- expG a b)) (n := 1000) (by omega) 40000 (by omega) (by omega)
    rw [w64 (x := Int.tdiv (32 * (1000 - expG a b)) 1000) (by omega) (by omega), w64 (x := Int.tdiv (32 * (- expG a b)) 1000) (by omega) (by omega)]
    unfold excG
    rw [if_pos hr]
    cases won <;> simp
  · rw [expG_no hr, if_pos (by omega)]
    unfold excG
    rw [if_neg hr]
theorem impl_Exchange_eq (a b : Int) (won : Bool) : impl_Exchange.f a b won = some (excG a b won) := by
  simp only [impl_Exchange.f, impl_Expected_eq, mx_eq, mn_eq, Option.bind_some]
  by_cases hr : ratG a ∧ ratG b
  · have hE := expG_yes hr
    have ha : 0 ≤ a ∧ a ≤ 3000 := hr.1
    have hb : 0 ≤ b ∧ b ≤ 3000 := hr.2
    rw [if_neg (by omega), w64 (x := 3000 - b) (by omega) (by omega), w64 (x := -(min a (3000 - b))) (by omega) (by omega), w64 (x := 1000 - expG a b) (by omega) (by omega), w64 (x := 3000 - a) (by omega) (by omega),
      w64 (x := 32 * (1000 - expG a b)) (by omega) (by omega), w64 (x := (-32) * expG a b) (by omega) (by omega)]
    have t1 := tdiv_bd (x := 32 * (1000 - expG a b)) (n := 1000) (by omega) 40000 (by omega) (by omega)
    have t2 := tdiv_bd (x := (-32) * expG a b) (n := 1000) (by omega) 40000 (by omega) (by omega)
    rw [w64 (x := Int.tdiv (32 * (1000 - expG a b)) 1000) (by omega) (by omega), w64 (x := Int.tdiv ((-32) * expG a b) 1000) (by omega) (by omega)]
    unfold excG
    rw [if_pos hr, show 32 * (- expG a b) = (-32) * expG a b by omega]
    generalize Int.tdiv (32 * (1000 - expG a b)) 1000 = u at *
    generalize Int.tdiv ((-32) * expG a b) 1000 = v at *
    cases won
    · simp only [Bool.false_eq_true, if_false]
      congr 1; omega
    · simp only [if_true]
      congr 1; omega
  · rw [expG_no hr, if_pos rfl]
    unfold excG
    rw [if_neg hr]
theorem rd_nat (xs : List Int) (i : Nat) (h : i < xs.length) : rd xs (i : Int) = xs[i] := by
  unfold rd
  simp [List.getD_eq_getElem?_getD, h]
theorem toIntS_loop (xs : List Int) (hx : xs.length ≤ 17592186044416) (d : Nat) : ∀ (i : Nat) (ys : List Int), ys.length = xs.length → i + d = xs.length → ys.take i = xs.take i →
    Ev (fun k => laws_toIntS.l0 k xs ys (i : Int)) xs := by
  induction d with
  | zero =>
    intro i ys hl hd ht
    apply ev_succ
    simp only [laws_toIntS.l0]
    refine ev_ifn (by omega) ?_
    have e : ys = xs := by rw [← List.take_length (l := xs), ← show i = xs.length by omega, ← ht, List.take_of_length_le (by omega)]
    rw [e]
    exact Ev.now _
  | succ d ih =>
    intro i ys hl hd ht
    apply ev_succ
    simp only [laws_toIntS.l0]
    refine ev_ifp (by omega) (ev_ifp (by omega) (ev_ifp (by omega) ?_))
    rw [w64 (by omega) (by omega)]
    have hi : i < xs.length := by omega
    have := ih (i + 1) (ys.set i (rd xs (i : Int))) (by simpa using hl) (by omega) (by
      rw [List.take_succ_eq_append_getElem hi, List.take_succ_eq_append_getElem (by simpa using (by omega : i < ys.length)), List.getElem_set_self, rd_nat xs i hi, List.take_set_of_le (by omega), ht])
    simpa using this
theorem toIntS_ev (xs : List Int) (hx : xs.length ≤ 17592186044416) : Ev (fun k => laws_toIntS.f k xs) xs := by
  unfold laws_toIntS.f
  refine ev_ifp (by omega) (ev_ifp (by omega) ?_)
  exact toIntS_loop xs hx xs.length 0 _ (by simp) (by omega) (by simp)
theorem eqIntS_loop (xs : List Int) (hx : xs.length ≤ 17592186044416) (d : Nat) : ∀ (i : Nat), i + d = xs.length → Ev (fun k => laws_eqIntS.l0 k xs xs (i : Int)) true := by
  induction d with
  | zero =>
    intro i hd
    apply ev_succ
    simp only [laws_eqIntS.l0]
    refine ev_ifn (by omega) ?_
    exact Ev.now _
  | succ d ih =>
    intro i hd
    apply ev_succ
    simp only [laws_eqIntS.l0]
    refine ev_ifp (by omega) (ev_ifp (by omega) (ev_ifp (by omega) ?_))
    rw [w64 (by omega) (by omega)]
    simpa using ih (i + 1) (by omega)
theorem eqIntS_ev (xs : List Int) (hx : xs.length ≤ 17592186044416) : Ev (fun k => laws_eqIntS.f k xs xs) true := by
  unfold laws_eqIntS.f
  refine ev_ifp rfl ?_
  exact eqIntS_loop xs hx xs.length 0 (by omega)
theorem markInt_loop (n : Nat) (hn : n ≤ 1100000) (a : Int) (h0 : 0 ≤ a) (h1 : a ≤ 1000000000000) (d : Nat) : ∀ (i : Nat) (xs : List Int), xs.length = n → i + d = n → ∃ ys : List Int, Ev (fun k => laws_markIntS.l0 k xs (a + (i : Int)) (i : Int)) (a + (n : Int), ys) ∧ ys.length = n ∧ (∀ j : Nat, i ≤ j → j < n → ys[j]? = some (a + (j : Int))) ∧ (∀ j : Nat, j < i → ys[j]? = xs[j]?) := by
  induction d with
  | zero =>
    intro i xs hl hd
    refine ⟨xs, ?_, hl, fun j h1 h2 => by omega, fun j _ => rfl⟩
    apply ev_succ
    simp only [laws_markIntS.l0]
    refine ev_ifn (by omega) (ev_some ?_)
    rw [show (i : Int) = n by omega]
  | succ d ih =>
    intro i xs hl hd
    obtain ⟨ys, he, hy, h2, h3⟩ := ih (i + 1) (xs.set i (a + (i : Int))) (by simpa using hl) (by omega)
    refine ⟨ys, ?_, hy, fun j hj hn' => ?_, fun j hj => ?_⟩
    · apply ev_succ
      have w0 : wrap64 (a + (i : Int) + 1) = a + ((i + 1 : Nat) : Int) := by rw [w64 (by omega) (by omega)]; omega
      have w' : wrap64 ((i : Int) + 1) = ((i + 1 : Nat) : Int) := by rw [w64 (by omega) (by omega)]; simp
      simp only [laws_markIntS.l0, Int.toNat_natCast, w0, w']
      exact ev_ifp (by omega) (ev_ifp (by omega) he)
    · by_cases hji : j = i
      · subst hji
        rw [h3 j (by omega)]
        simp [show j < xs.length by omega]
      · exact h2 j (by omega) hn'
    · rw [h3 j (by omega), List.getElem?_set_ne (by omega)]
theorem markInt_at (xs : List Int) (hx : xs.length ≤ 1100000) (a : Int) (h0 : 0 ≤ a) (h1 : a ≤ 1000000000000) : ∃ ys, Ev (fun k => laws_markIntS.f k xs a) (a + (xs.length : Int), ys) ∧ ys.length = xs.length ∧ ∀ j : Nat, j < xs.length → ys[j]? = some (a + (j : Int)) := by
  obtain ⟨ys, he, hy, h2, h3⟩ := markInt_loop xs.length hx a h0 h1 xs.length 0 xs rfl (by omega)
  refine ⟨ys, ?_, hy, fun j hj => h2 j (by omega) hj⟩
  unfold laws_markIntS.f
  simpa using he
theorem heldInt_loop (ys : List Int) (n : Nat) (hn : n ≤ 1100000) (a : Int) (h0 : 0 ≤ a) (h1 : a ≤ 1000000000000) (hl : ys.length = n) (h : ∀ j : Nat, j < n → ys[j]? = some (a + (j : Int))) (d : Nat) : ∀ i : Nat, i + d = n → Ev (fun k => laws_heldIntS.l0 k ys (a + (i : Int)) (i : Int)) (a + (n : Int)) := by
  induction d with
  | zero =>
    intro i hd
    apply ev_succ
    simp only [laws_heldIntS.l0]
    refine ev_ifn (by omega) (ev_some ?_)
    rw [show (i : Int) = n by omega]
  | succ d ih =>
    intro i hd
    apply ev_succ
    have hr : rd ys (i : Int) = a + (i : Int) := by
      have := h i (by omega)
      simp [rd, List.getD_eq_getElem?_getD, this]
    have w0 : wrap64 (a + (i : Int) + 1) = a + ((i + 1 : Nat) : Int) := by rw [w64 (by omega) (by omega)]; omega
    have w' : wrap64 ((i : Int) + 1) = ((i + 1 : Nat) : Int) := by rw [w64 (by omega) (by omega)]; simp
    simp only [laws_heldIntS.l0, w0, w']
    exact ev_ifp (by omega) (ev_ifp (by omega) (ev_ifp hr (ih (i + 1) (by omega))))
theorem markInt_ev (xs : List Int) (hx : xs.length ≤ 1100000) : ∃ m ys, Ev (fun k => laws_markIntS.f k xs 1) (m, ys) ∧ 0 ≤ m ∧ Ev (fun k => laws_heldIntS.f k ys 1) m := by
  obtain ⟨ys, he, hy, h2⟩ := markInt_at xs hx 1 (by omega) (by omega)
  refine ⟨1 + (xs.length : Int), ys, he, by omega, ?_⟩
  unfold laws_heldIntS.f
  simpa using heldInt_loop ys xs.length hx 1 (by omega) (by omega) hy h2 xs.length 0 (by omega)
theorem Clone_eq (l : List Int) (hl : l.length ≤ 1100000) : slices_Clone_int_int.f l = some l := by
  unfold slices_Clone_int_int.f
  simp only [Option.bind_some, List.nil_append, List.length_nil]
  rw [if_pos (by omega)]
theorem drop_L1 (xs : List (List Int)) (i : Nat) (h : i < xs.length) : xs.drop i = rd_L1 xs (i : Int) :: xs.drop (i + 1) := by
  rw [List.drop_eq_getElem_cons h]
  simp [rd_L1, List.getD_eq_getElem?_getD, h]
def tot (xs : List (List Int)) : Nat := (xs.map List.length).sum
theorem tot_drop (xs : List (List Int)) (i : Nat) (h : i < xs.length) : tot (xs.drop i) = (rd_L1 xs (i : Int)).length + tot (xs.drop (i + 1)) := by
  rw [drop_L1 xs i h]
  simp [tot]
theorem eqSS_loop (xs : List (List Int)) (hx : xs.length ≤ 1100000) (d : Nat) : ∀ i : Nat, i + d = xs.length → tot (xs.drop i) ≤ 1100000 → Ev (fun k => laws_eqIntSS.l0 k xs xs (i : Int)) true := by
  induction d with
  | zero =>
    intro i hd _
    apply ev_succ
    simp only [laws_eqIntSS.l0]
    exact ev_ifn (by omega) (Ev.now _)
  | succ d ih =>
    intro i hd ht
    have e1 : wrap64 ((i : Int) + 1) = ((i + 1 : Nat) : Int) := by rw [w64 (by omega) (by omega)]; simp
    rw [tot_drop xs i (by omega)] at ht
    apply ev_succ
    simp only [laws_eqIntSS.l0, e1]
    exact ev_ifp (by omega) (ev_ifp (by omega) (ev_ifp (by omega) (Ev.bind (eqIntS_ev (rd_L1 xs (i : Int)) (by omega)) (ev_ifp rfl (ih (i + 1) (by omega) (by omega))))))
theorem eqSS_ev (xs : List (List Int)) (hx : xs.length ≤ 1100000) (ht : tot xs ≤ 1100000) : Ev (fun k => laws_eqIntSS.f k xs xs) true := by
  unfold laws_eqIntSS.f
  exact ev_ifp rfl (eqSS_loop xs hx xs.length 0 (by omega) ht)
/-- Each row is marked on from where the one before it ended. -/
def Marked : List (List Int) → Int → Int → Prop
  | [], a, b => a = b
  | y :: ys, a, b => (∀ j : Nat, j < y.length → y[j]? = some (a + (j : Int))) ∧ y.length ≤ 1100000 ∧ 0 ≤ a ∧ a ≤ 1000000000000 ∧ Marked ys (a + (y.length : Int)) b
theorem markSS_loop (n : Nat) (hn : n ≤ 1100000) (d : Nat) : ∀ (i : Nat) (xs : List (List Int)) (a : Int), xs.length = n → i + d = n → 1 ≤ a → tot (xs.drop i) ≤ 1100000 → a + (tot (xs.drop i) : Int) ≤ 4000000 →
    ∃ ys, Ev (fun k => laws_markIntSS.l0 k xs a (i : Int)) (a + (tot (xs.drop i) : Int), ys) ∧ ys.length = n ∧ ys.take i = xs.take i ∧ Marked (ys.drop i) a (a + (tot (xs.drop i) : Int)) := by
  induction d with
  | zero =>
    intro i xs a hl hd h0 ht0 ht
    have e : xs.drop i = [] := List.drop_eq_nil_of_le (by omega)
    rw [e]
    refine ⟨xs, ?_, hl, rfl, ?_⟩
    · apply ev_succ
      simp only [laws_markIntSS.l0]
      exact ev_ifn (by omega) (ev_some (by simp [tot]))
    · rw [e]
      simp [Marked, tot]
  | succ d ih =>
    intro i xs a hl hd h0 ht0 ht
    have hi : i < xs.length := by omega
    have e1 : wrap64 ((i : Int) + 1) = ((i + 1 : Nat) : Int) := by rw [w64 (by omega) (by omega)]; simp
    rw [tot_drop xs i hi] at ht0 ht ⊢
    obtain ⟨y, hy, hyl, hyc⟩ := markInt_at (rd_L1 xs (i : Int)) (by omega) a (by omega) (by omega)
    have hdr : (xs.set i y).drop (i + 1) = xs.drop (i + 1) := by rw [List.drop_set_of_lt (by omega)]
    obtain ⟨ys, h1, h2, h3, h4⟩ := ih (i + 1) (xs.set i y) (a + ((rd_L1 xs (i : Int)).length : Int)) (by simpa using hl) (by omega) (by omega) (by rw [hdr]; omega) (by rw [hdr]; omega)
    rw [hdr] at h1 h4
    have ea : a + ((rd_L1 xs (i : Int)).length : Int) + (tot (xs.drop (i + 1)) : Int) = a + (((rd_L1 xs (i : Int)).length + tot (xs.drop (i + 1)) : Nat) : Int) := by omega
    rw [ea] at h1 h4
    refine ⟨ys, ?_, h2, ?_, ?_⟩
    · apply ev_succ
      simp only [laws_markIntSS.l0, e1, Int.toNat_natCast]
      exact ev_ifp (by omega) (ev_ifp (by omega) (Ev.bind hy h1))
    · have := congrArg (List.take i) h3
      rw [List.take_take, List.take_take, Nat.min_eq_left (by omega), List.take_set_of_le (by omega)] at this
      exact this
    · have hyi : ys.drop i = y :: ys.drop (i + 1) := by
        have hil : i < ys.length := by omega
        rw [List.drop_eq_getElem_cons hil]
        have h5 := congrArg (fun l => l[i]?) h3
        simp only [List.getElem?_take] at h5
        rw [if_pos (by omega), if_pos (by omega), List.getElem?_set_self hi, List.getElem?_eq_getElem hil] at h5
        rw [Option.some.inj h5]
      rw [hyi]
      unfold Marked
      refine ⟨fun j hj => hyc j (by omega), by omega, by omega, by omega, ?_⟩
      rw [hyl]
      exact h4
theorem rdL1 (xs : List (List Int)) (i : Nat) (h : i < xs.length) : rd_L1 xs (i : Int) = xs[i] := by simp [rd_L1, List.getD_eq_getElem?_getD, h]
theorem szS_eq (l : List Int) (c : Int) (hm : l.length ≤ maxLen) (h0 : 0 ≤ c) (h1 : c ≤ 1048576) : laws_szIntS.f l c = some (if (l.length : Int) ≤ c then c - (l.length : Int) else (-1 : Int)) := by
  unfold maxLen at hm
  unfold laws_szIntS.f
  rw [w64 (by omega) (by omega)]
  by_cases h : (l.length : Int) ≤ c
  · rw [if_neg (by omega), if_pos h]
  · rw [if_pos (by omega), if_neg h]
def OkSS (xs : List (List Int)) : Prop := xs.length ≤ 1048576 ∧ ∀ x, x ∈ xs → x.length ≤ 1048576
theorem tot_mem {xs : List (List Int)} {x : List Int} (h : x ∈ xs) : x.length ≤ tot xs := by
  induction xs with
  | nil => cases h
  | cons y ys ih =>
    unfold tot at *
    rw [List.map_cons, List.sum_cons]
    rcases List.mem_cons.mp h with rfl | h
    · omega
    · have := ih h; omega
theorem szSS_loop (xs : List (List Int)) (hl : xs.length ≤ 1048576) (hm : ∀ x, x ∈ xs → x.length ≤ maxLen) (d : Nat) : ∀ (i : Nat) (c : Int), 0 ≤ c → c ≤ 1048576 → i + d = xs.length →
    ∃ v, Ev (fun k => laws_szIntSS.l0 k xs c (i : Int)) v ∧ (v < 0 ∨ (0 ≤ v ∧ v + (tot (xs.drop i) : Int) = c)) := by
  induction d with
  | zero =>
    intro i c h0 h1 hd
    refine ⟨c, ?_, .inr ⟨h0, ?_⟩⟩
    · apply ev_succ
      simp only [laws_szIntSS.l0]
      exact ev_ifn (by omega) (Ev.now _)
    · rw [List.drop_eq_nil_of_le (by omega)]
      simp [tot]
  | succ d ih =>
    intro i c h0 h1 hd
    have hi : i < xs.length := by omega
    have e1 : wrap64 ((i : Int) + 1) = ((i + 1 : Nat) : Int) := by rw [w64 (by omega) (by omega)]; simp
    have hs := szS_eq xs[i] c (hm _ (List.getElem_mem hi)) h0 h1
    rw [tot_drop xs i hi, rdL1 xs i hi]
    by_cases h : ((xs[i]).length : Int) ≤ c
    · rw [if_pos h] at hs
      obtain ⟨v, hv, hv2⟩ := ih (i + 1) (c - ((xs[i]).length : Int)) (by omega) (by omega) (by omega)
      refine ⟨v, ev_succ ?_, ?_⟩
      · simp only [laws_szIntSS.l0, e1]
        rw [rdL1 xs i hi, hs]
        exact ev_ifp (by omega) (ev_ifp (by omega) (ev_ifn (by omega) hv))
      · rcases hv2 with hv2 | hv2
        · exact .inl hv2
        · exact .inr ⟨hv2.1, by omega⟩
    · rw [if_neg h] at hs
      refine ⟨-1, ev_succ ?_, .inl (by omega)⟩
      simp only [laws_szIntSS.l0, e1]
      rw [rdL1 xs i hi, hs]
      exact ev_ifp (by omega) (ev_ifp (by omega) (ev_bindc rfl (ev_ifp (by omega) (Ev.now _))))
theorem szSS_ev (xs : List (List Int)) (hg : xs.length ≤ maxLen) (hm : ∀ x, x ∈ xs → x.length ≤ maxLen) : ∃ v, Ev (fun k => laws_szIntSS.f k xs 1048576) v ∧ (v < 0 ∨ (0 ≤ v ∧ OkSS xs ∧ tot xs ≤ 1048576)) := by
  unfold maxLen at hg
  unfold laws_szIntSS.f
  rw [w64 (by omega) (by omega)]
  by_cases h : 1048576 - (xs.length : Int) < 0
  · exact ⟨-1, ev_ifp h (Ev.now _), .inl (by omega)⟩
  · obtain ⟨v, hv, hv2⟩ := szSS_loop xs (by omega) hm xs.length 0 (1048576 - (xs.length : Int)) (by omega) (by omega) (by omega)
    rw [List.drop_zero] at hv2
    refine ⟨v, ev_ifn h hv, ?_⟩
    rcases hv2 with hv2 | hv2
    · exact .inl hv2
    · have ht : tot xs ≤ 1048576 := by omega
      exact .inr ⟨hv2.1, ⟨by omega, fun x hx => by have := tot_mem hx; omega⟩, ht⟩
theorem toSS_loop (xs : List (List Int)) (ho : OkSS xs) (d : Nat) : ∀ (i : Nat) (ys : List (List Int)), ys.length = xs.length → i + d = xs.length → ys.take i = xs.take i → Ev (fun k => laws_toIntSS.l0 k xs ys (i : Int)) xs := by
  obtain ⟨hx, hin⟩ := ho
  induction d with
  | zero =>
    intro i ys hl hd ht
    apply ev_succ
    simp only [laws_toIntSS.l0]
    refine ev_ifn (by omega) ?_
    have e : ys = xs := by rw [← List.take_length (l := xs), ← show i = xs.length by omega, ← ht, List.take_of_length_le (by omega)]
    rw [e]
    exact Ev.now _
  | succ d ih =>
    intro i ys hl hd ht
    have hi : i < xs.length := by omega
    have hb := hin _ (List.getElem_mem hi)
    have e1 : wrap64 ((i : Int) + 1) = ((i + 1 : Nat) : Int) := by rw [w64 (by omega) (by omega)]; simp
    have := ih (i + 1) (ys.set i xs[i]) (by simpa using hl) (by omega) (by
      rw [List.take_succ_eq_append_getElem hi, List.take_succ_eq_append_getElem (by simpa using (by omega : i < ys.length)), List.getElem_set_self, List.take_set_of_le (by omega), ht])
    apply ev_succ
    simp only [laws_toIntSS.l0, e1]
    rw [rdL1 xs i hi]
    exact ev_ifp (by omega) (ev_ifp (by omega) (Ev.bind (toIntS_ev xs[i] (by omega)) (ev_ifp (by omega) (by simpa using this))))
theorem toSS_ev (xs : List (List Int)) (ho : OkSS xs) : Ev (fun k => laws_toIntSS.f k xs) xs := by
  have hx := ho.1
  unfold laws_toIntSS.f
  refine ev_ifp (by omega) (ev_ifp (by omega) ?_)
  exact toSS_loop xs ho xs.length 0 _ (by simp) (by omega) (by simp)
def laws_FnExactRateAll.Pure : Prop := ∀ (l0 : List (Int)) (l1 : List (List (Int))), (l0.length ≤ maxLen ∧ ∀ y27 ∈ l0, (Lit.int .i64 y27).wf = true) → (l1.length ≤ maxLen ∧ ∀ y45 ∈ l1, y45.length ≤ maxLen ∧ ∀ y27 ∈ y45, (Lit.int .i64 y27).wf = true) → ∃ k, laws_FnExactRateAll.f k l0 l1 = some true

theorem spec_After_ev (a b : Int) : Ev (fun k => spec_AfterDebate.f k a b true) (wrap64 (a + excG a b true), wrap64 (b - excG a b true)) :=
  ev_at 1 (fun k => by simp only [spec_AfterDebate.f, spec_Exchange_eq, Option.bind_some])
theorem impl_After_eq (a b : Int) : impl_AfterDebate.f a b true = some (wrap64 (a + excG a b true), wrap64 (b - excG a b true)) := by
  simp only [impl_AfterDebate.f, impl_Exchange_eq, Option.bind_some]
theorem rate_loop (rs : List (List Int)) (hr : rs.length ≤ 1048576) (d : Nat) : ∀ (i : Nat) (out : List Int), out.length ≤ 1048576 → i + d = rs.length →
    ∃ res, Ev (fun k => spec_RateAll.l0 k rs out (i : Int)) res ∧ Ev (fun k => impl_RateAll.l0 k out rs (rs.length : Int) (i : Int)) res ∧ res.length = out.length := by
  induction d with
  | zero =>
    intro i out ho hd
    refine ⟨out, ?_, ?_, rfl⟩
    · apply ev_succ
      simp only [spec_RateAll.l0]
      exact ev_ifn (by omega) (Ev.now _)
    · apply ev_succ
      simp only [impl_RateAll.l0]
      exact ev_ifn (by omega) (Ev.now _)
  | succ d ih =>
    intro i out ho hd
    have e1 : wrap64 ((i : Int) + 1) = ((i + 1 : Nat) : Int) := by rw [w64 (by omega) (by omega)]; simp
    have e2 : wrap64 ((out.length : Int) - 1) = (out.length : Int) - 1 := w64 (by omega) (by omega)
    obtain ⟨res0, s0, i0, l0⟩ := ih (i + 1) out ho (by omega)
    by_cases h2 : ((rd_L1 rs (i : Int)).length : Int) = 2
    · generalize hx : rd (rd_L1 rs (i : Int)) 0 = x
      generalize hy : rd (rd_L1 rs (i : Int)) 1 = y
      by_cases hok : (0 ≤ x ∧ x ≤ (out.length : Int) - 1) ∧ (0 ≤ y ∧ y ≤ (out.length : Int) - 1) ∧ x ≠ y
      · obtain ⟨hX, hY, hne⟩ := hok
        obtain ⟨res1, s1, i1, l1⟩ := ih (i + 1) ((out.set x.toNat (wrap64 (rd out x + excG (rd out x) (rd out y) true))).set y.toNat (wrap64 (rd out y - excG (rd out x) (rd out y) true))) (by simpa using ho) (by omega)
        refine ⟨res1, ?_, ?_, by simpa using l1⟩
        · apply ev_succ
          simp only [spec_RateAll.l0, e1, e2, hx, hy, spec_l1In_eq, Option.bind_some, decide_eq_true hX, decide_eq_true hY]
          exact ev_ifp (by omega) (ev_ifp (by omega) (ev_ifp h2 (ev_ifp (by omega) (ev_ifp trivial (ev_ifp (by omega) (ev_ifp trivial (ev_ifn hne (ev_ifp hX.1 (ev_ifp (by omega) (ev_ifp hY.1 (ev_ifp (by omega) (Ev.bind (spec_After_ev _ _) s1))))))))))))
        · apply ev_succ
          simp only [impl_RateAll.l0, e1, e2, hx, hy, impl_InRange_eq, Option.bind_some, decide_eq_true hX, decide_eq_true hY, impl_After_eq]
          exact ev_ifp (by omega) (ev_ifp (by omega) (ev_ifp (by omega) (ev_ifp h2 (ev_ifp (by omega) (ev_ifp (by omega) (ev_ifn hne (ev_ifp trivial (ev_ifp trivial (ev_ifp hX.1 (ev_ifp (by omega) (ev_ifp hY.1 (ev_ifp (by omega) i1))))))))))))
      · refine ⟨res0, ?_, ?_, l0⟩
        · apply ev_succ
          simp only [spec_RateAll.l0, e1, e2, hx, hy, spec_l1In_eq, Option.bind_some]
          refine ev_ifp (by omega) (ev_ifp (by omega) (ev_ifp h2 (ev_ifp (by omega) ?_)))
          by_cases hX : 0 ≤ x ∧ x ≤ (out.length : Int) - 1
          · simp only [decide_eq_true hX]
            refine ev_ifp trivial (ev_ifp (by omega) ?_)
            by_cases hY : 0 ≤ y ∧ y ≤ (out.length : Int) - 1
            · simp only [decide_eq_true hY]
              exact ev_ifp trivial (ev_ifp (Classical.byContradiction fun e => hok ⟨hX, hY, e⟩) s0)
            · simp only [decide_eq_false hY]
              exact ev_ifn (by simp) s0
          · simp only [decide_eq_false hX]
            exact ev_ifn (by simp) s0
        · apply ev_succ
          simp only [impl_RateAll.l0, e1, e2, hx, hy, impl_InRange_eq, Option.bind_some]
          refine ev_ifp (by omega) (ev_ifp (by omega) (ev_ifp (by omega) (ev_ifp h2 (ev_ifp (by omega) (ev_ifp (by omega) ?_)))))
          by_cases hE : x = y
          · exact ev_ifp hE i0
          · refine ev_ifn hE ?_
            by_cases hX : 0 ≤ x ∧ x ≤ (out.length : Int) - 1
            · simp only [decide_eq_true hX]
              refine ev_ifp trivial ?_
              have hY : ¬ (0 ≤ y ∧ y ≤ (out.length : Int) - 1) := fun h => hok ⟨hX, h, hE⟩
              simp only [decide_eq_false hY]
              exact ev_ifn (by simp) i0
            · simp only [decide_eq_false hX]
              exact ev_ifn (by simp) i0
    · refine ⟨res0, ?_, ?_, l0⟩
      · apply ev_succ
        simp only [spec_RateAll.l0, e1]
        exact ev_ifp (by omega) (ev_ifp (by omega) (ev_ifn h2 s0))
      · apply ev_succ
        simp only [impl_RateAll.l0, e1]
        exact ev_ifp (by omega) (ev_ifp (by omega) (ev_ifp (by omega) (ev_ifn h2 i0)))
theorem rate_both (l : List Int) (rs : List (List Int)) (hl : l.length ≤ 1048576) (hr : rs.length ≤ 1048576) : ∃ res, Ev (fun k => spec_RateAll.f k l rs) res ∧ Ev (fun k => impl_RateAll.f k l rs) res ∧ res.length = l.length := by
  obtain ⟨res, h1, h2, h3⟩ := rate_loop rs hr rs.length 0 l hl (by omega)
  refine ⟨res, ?_, ?_, h3⟩
  · unfold spec_RateAll.f
    simp only [Option.bind_some, List.nil_append, List.length_nil]
    exact ev_ifp (by omega) h1
  · unfold impl_RateAll.f
    rw [Clone_eq l (by omega)]
    exact h2
theorem FnExactRateAll : laws_FnExactRateAll.Pure := by
  intro l rs hl hrs
  apply Ev.rounds
  unfold laws_FnExactRateAll.f
  by_cases h : (l.length : Int) > 1048576
  · exact ev_ifp h (Ev.now _)
  refine ev_ifn h ?_
  obtain ⟨v, hv, hv2⟩ := szSS_ev rs hrs.1 (fun x hx => (hrs.2 x hx).1)
  refine Ev.bind hv ?_
  by_cases h' : v < 0
  · exact ev_ifp h' (Ev.now _)
  refine ev_ifn h' ?_
  obtain ⟨_, ho, ht⟩ := hv2.resolve_left h'
  have hlr := ho.1
  obtain ⟨res, hs, hi, hlen⟩ := rate_both l rs (by omega) ho.1
  have tl := toIntS_ev l (by omega)
  have ts := toSS_ev rs ho
  have el := eqIntS_ev l (by omega)
  have es := eqSS_ev rs (by omega) (by omega)
  have er := eqIntS_ev res (by omega)
  obtain ⟨ys, hm1, _, _⟩ := markInt_at l (by omega) 1 (by omega) (by omega)
  obtain ⟨zs, hm2, _, _, _⟩ := markSS_loop rs.length (by omega) rs.length 0 rs (1 + (l.length : Int)) rfl (by omega) (by omega) (by rw [List.drop_zero]; omega) (by rw [List.drop_zero]; omega)
  have hm2' : Ev (fun k => laws_markIntSS.f k rs (1 + (l.length : Int))) _ := hm2
  obtain ⟨mm, us, hu, hu0, hh⟩ := markInt_ev res (by omega)
  refine Ev.bind tl (Ev.bind ts (Ev.bind hs (Ev.bind tl (Ev.bind ts (Ev.bind hi (Ev.bind er (ev_ifp rfl ?_)))))))
  refine Ev.bind tl (Ev.bind el (ev_ifp rfl (Ev.bind ts (Ev.bind es (ev_ifp rfl (Ev.bind hm1 (Ev.bind hm2' (Ev.bind er (ev_ifn ?_ (ev_ifp rfl ?_))))))))))
  · simp only
    omega
  exact Ev.bind hu (Ev.bind hh (ev_ifn (by omega) (ev_ifp rfl (Ev.bind tl (Ev.bind ts (Ev.bind hi (Ev.bind er (ev_ifp rfl (Ev.bind hh (ev_ifn (by omega) (ev_ifp rfl (Ev.now _))))))))))))

end Go.Proofs.Ytefcdlkmifieeaa.Pure
