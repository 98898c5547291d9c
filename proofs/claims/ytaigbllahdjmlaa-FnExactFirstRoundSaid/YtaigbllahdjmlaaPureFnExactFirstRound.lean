/- The program's FirstRound answers what the reference's answers, for all arguments, and its list is its own.
No condition: for every input. -/
import Derived.Test.YtaigbllahdjmlaaPFnExactFirstRoundx5
set_option linter.unusedVariables false
set_option linter.unusedSimpArgs false
set_option maxHeartbeats 1000000
namespace Go.Proofs.Ytaigbllahdjmlaa.Pure
open Go.RowKit Go.Proofs.Ytaigbllahdjmlaa.PFnExactFirstRound Go.Proofs.YtaigbllahdjmlaaW.PrintWords Go.Proofs.YtaigbllahdjmlaaW.PrintLast

theorem w64 {x : Int} (h1 : -9223372036854775808 ≤ x) (h2 : x ≤ 9223372036854775807) : wrap64 x = x := by unfold wrap64; omega
theorem wf64 {x : Int} (h : (Lit.int .i64 x).wf = true) : -9223372036854775808 ≤ x ∧ x ≤ 9223372036854775807 := by
  simp only [Lit.wf, Bool.and_eq_true, decide_eq_true_eq] at h
  have e1 : IntKind.min .i64 = -9223372036854775808 := by decide
  have e2 : IntKind.max .i64 = 9223372036854775807 := by decide
  omega
theorem wfu8 {x : Int} (h : (Lit.int .u8 x).wf = true) : 0 ≤ x ∧ x ≤ 255 := by
  simp only [Lit.wf, Bool.and_eq_true, decide_eq_true_eq] at h
  have e1 : IntKind.min .u8 = 0 := by decide
  have e2 : IntKind.max .u8 = 255 := by decide
  omega
theorem ev_succ {α : Type} {g : Nat → Option α} {r : α} (h : Ev (fun k => g (k + 1)) r) : Ev g r := Ev.step (fun _ => rfl) h
theorem ev_some {α : Type} {r s : α} (h : r = s) : Ev (fun _ => some r) s := by subst h; exact Ev.now r
theorem ev_fix {α : Type} {o : Option α} {r : α} (h : o = some r) : Ev (fun _ => o) r := ⟨0, fun _ _ => h⟩
theorem ev_at {α : Type} {g : Nat → Option α} {r : α} (n : Nat) (h : ∀ k, g (k + n) = some r) : Ev g r :=
  ⟨n, fun k hk => by obtain ⟨m, rfl⟩ : ∃ m, k = m + n := ⟨k - n, by omega⟩; exact h m⟩
theorem ev_bindc {α β : Type} {o : Option α} {f : Nat → α → Option β} {a : α} {r : β} (h : o = some a) (k : Ev (fun n => f n a) r) : Ev (fun n => o.bind (f n)) r := by
  subst h; exact k
theorem ev_ifp {α : Type} {c : Prop} [Decidable c] {a b : Nat → Option α} {r : α} (h : c) (k : Ev a r) : Ev (fun n => if c then a n else b n) r := by
  simpa only [if_pos h] using k
theorem ev_ifn {α : Type} {c : Prop} [Decidable c] {a b : Nat → Option α} {r : α} (h : ¬ c) (k : Ev b r) : Ev (fun n => if c then a n else b n) r := by
  simpa only [if_neg h] using k
theorem rd_nat (xs : List Int) (i : Nat) (h : i < xs.length) : rd xs (i : Int) = xs[i] := by
  unfold rd
  simp [List.getD_eq_getElem?_getD, h]
theorem toIntS_loop (xs : List Int) (hx : xs.length ≤ 17592186044416) (d : Nat) : ∀ (i : Nat) (ys : List Int), ys.length = xs.length → i + d = xs.length → ys.take i = xs.take i →
    Ev (fun k => laws_toIntS.l0 k xs ys (i : Int)) xs := by
  induction d with
  | zero =>
    intro i ys hl hd ht
    apply ev_succ
    simp only [laws_toIntS.l0]
    refine ev_ifn (by omega) ?_
    have e : ys = xs := by rw [← List.take_length (l := xs), ← show i = xs.length by omega, ← ht, List.take_of_length_le (by omega)]
    rw [e]
    exact Ev.now _
  | succ d ih =>
    intro i ys hl hd ht
    apply ev_succ
    simp only [laws_toIntS.l0]
    refine ev_ifp (by omega) (ev_ifp (by omega) (ev_ifp (by omega) ?_))
    rw [w64 (by omega) (by omega)]
    have hi : i < xs.length := by omega
    have := ih (i + 1) (ys.set i (rd xs (i : Int))) (by simpa using hl) (by omega) (by
      rw [List.take_succ_eq_append_getElem hi, List.take_succ_eq_append_getElem (by simpa using (by omega : i < ys.length)), List.getElem_set_self, rd_nat xs i hi, List.take_set_of_le (by omega), ht])
    simpa using this
theorem toIntS_ev (xs : List Int) (hx : xs.length ≤ 17592186044416) : Ev (fun k => laws_toIntS.f k xs) xs := by
  unfold laws_toIntS.f
  refine ev_ifp (by omega) (ev_ifp (by omega) ?_)
  exact toIntS_loop xs hx xs.length 0 _ (by simp) (by omega) (by simp)
theorem eqIntS_loop (xs : List Int) (hx : xs.length ≤ 17592186044416) (d : Nat) : ∀ (i : Nat), i + d = xs.length → Ev (fun k => laws_eqIntS.l0 k xs xs (i : Int)) true := by
  induction d with
  | zero =>
    intro i hd
    apply ev_succ
    simp only [laws_eqIntS.l0]
    refine ev_ifn (by omega) ?_
    exact Ev.now _
  | succ d ih =>
    intro i hd
    apply ev_succ
    simp only [laws_eqIntS.l0]
    refine ev_ifp (by omega) (ev_ifp (by omega) (ev_ifp (by omega) ?_))
    rw [w64 (by omega) (by omega)]
    simpa using ih (i + 1) (by omega)
theorem eqIntS_ev (xs : List Int) (hx : xs.length ≤ 17592186044416) : Ev (fun k => laws_eqIntS.f k xs xs) true := by
  unfold laws_eqIntS.f
  refine ev_ifp rfl ?_
  exact eqIntS_loop xs hx xs.length 0 (by omega)
theorem markInt_loop (n : Nat) (hn : n ≤ 1100000) (a : Int) (h0 : 0 ≤ a) (h1 : a ≤ 1000000000000) (d : Nat) : ∀ (i : Nat) (xs : List Int), xs.length = n → i + d = n → ∃ ys : List Int, Ev (fun k => laws_markIntS.l0 k xs (a + (i : Int)) (i : Int)) (a + (n : Int), ys) ∧ ys.length = n ∧ (∀ j : Nat, i ≤ j → j < n → ys[j]? = some (a + (j : Int))) ∧ (∀ j : Nat, j < i → ys[j]? = xs[j]?) := by
  induction d with
  | zero =>
    intro i xs hl hd
    refine ⟨xs, ?_, hl, fun j h1 h2 => by omega, fun j _ => rfl⟩
    apply ev_succ
    simp only [laws_markIntS.l0]
    refine ev_ifn (by omega) (ev_some ?_)
    rw [show (i : Int) = n by omega]
  | succ d ih =>
    intro i xs hl hd
    obtain ⟨ys, he, hy, h2, h3⟩ := ih (i + 1) (xs.set i (a + (i : Int))) (by simpa using hl) (by omega)
    refine ⟨ys, ?_, hy, fun j hj hn' => ?_, fun j hj => ?_⟩
    · apply ev_succ
      have w0 : wrap64 (a + (i : Int) + 1) = a + ((i + 1 : Nat) : Int) := by rw [w64 (by omega) (by omega)]; omega
      have w' : wrap64 ((i : Int) + 1) = ((i + 1 : Nat) : Int) := by rw [w64 (by omega) (by omega)]; simp
      simp only [laws_markIntS.l0, Int.toNat_natCast, w0, w']
      exact ev_ifp (by omega) (ev_ifp (by omega) he)
    · by_cases hji : j = i
      · subst hji
        rw [h3 j (by omega)]
        simp [show j < xs.length by omega]
      · exact h2 j (by omega) hn'
    · rw [h3 j (by omega), List.getElem?_set_ne (by omega)]
theorem markInt_at (xs : List Int) (hx : xs.length ≤ 1100000) (a : Int) (h0 : 0 ≤ a) (h1 : a ≤ 1000000000000) : ∃ ys, Ev (fun k => laws_markIntS.f k xs a) (a + (xs.length : Int), ys) ∧ ys.length = xs.length ∧ ∀ j : Nat, j < xs.length → ys[j]? = some (a + (j : Int)) := by
  obtain ⟨ys, he, hy, h2, h3⟩ := markInt_loop xs.length hx a h0 h1 xs.length 0 xs rfl (by omega)
  refine ⟨ys, ?_, hy, fun j hj => h2 j (by omega) hj⟩
  unfold laws_markIntS.f
  simpa using he
theorem drop_rd (xs : List Int) (i : Nat) (h : i < xs.length) : xs.drop i = rd xs (i : Int) :: xs.drop (i + 1) := by
  rw [List.drop_eq_getElem_cons h]
  simp [rd, List.getD_eq_getElem?_getD, h]
theorem l4Has_loop (xs : List Int) (n : Int) (hx : xs.length ≤ 17592186044416) (d : Nat) : ∀ i : Nat, i + d = xs.length → Ev (fun k => spec_l4Has.l0 k xs n (i : Int)) (decide (n ∈ xs.drop i)) := by
  induction d with
  | zero =>
    intro i hd
    apply ev_succ
    simp only [spec_l4Has.l0]
    refine ev_ifn (by omega) (ev_some ?_)
    rw [List.drop_eq_nil_of_le (by omega)]
    simp
  | succ d ih =>
    intro i hd
    apply ev_succ
    simp only [spec_l4Has.l0]
    refine ev_ifp (by omega) (ev_ifp (by omega) ?_)
    rw [w64 (by omega) (by omega), drop_rd xs i (by omega)]
    by_cases h : rd xs (i : Int) = n
    · exact ev_ifp h (ev_some (by simp [h]))
    · refine ev_ifn h ?_
      have := ih (i + 1) (by omega)
      have h' : ¬ n = rd xs (i : Int) := fun e => h e.symm
      simpa [h'] using this
theorem l4Has_ev (xs : List Int) (n : Int) (hx : xs.length ≤ 17592186044416) : Ev (fun k => spec_l4Has.f k xs n) (decide (n ∈ xs)) := by
  unfold spec_l4Has.f
  simpa using l4Has_loop xs n hx xs.length 0 (by omega)
def idxG : List Int → Int → Int
  | [], _ => -1
  | x :: xs, v => if v = x then 0 else if idxG xs v < 0 then -1 else idxG xs v + 1
theorem idxG_range (xs : List Int) (v : Int) : -1 ≤ idxG xs v ∧ idxG xs v < xs.length := by
  induction xs with
  | nil => simp [idxG]
  | cons x xs ih =>
    unfold idxG
    simp only [List.length_cons]
    split
    · omega
    · split <;> omega
theorem idxG_neg (xs : List Int) (v : Int) : idxG xs v < 0 ↔ v ∉ xs := by
  induction xs with
  | nil => simp [idxG]
  | cons x xs ih =>
    unfold idxG
    by_cases h : v = x
    · simp [h]
    · rw [if_neg h]
      by_cases h2 : idxG xs v < 0
      · rw [if_pos h2]
        simp [h, ih.1 h2]
      · rw [if_neg h2]
        have h3 : v ∈ xs := by
          rcases Decidable.em (v ∈ xs) with h4 | h4
          · exact h4
          · exact absurd (ih.2 h4) h2
        simp [h, h3]
        omega
theorem idxG_at (xs : List Int) (v : Int) (h : 0 ≤ idxG xs v) : rd xs (idxG xs v) = v ∧ v ∉ xs.take (idxG xs v).toNat := by
  induction xs with
  | nil => simp [idxG] at h
  | cons x xs ih =>
    unfold idxG at h ⊢
    by_cases h1 : v = x
    · subst h1
      simp [rd]
    · rw [if_neg h1] at h ⊢
      by_cases h2 : idxG xs v < 0
      · rw [if_pos h2] at h
        omega
      · rw [if_neg h2] at h ⊢
        obtain ⟨m, hm⟩ : ∃ m : Nat, idxG xs v = m := ⟨(idxG xs v).toNat, by omega⟩
        obtain ⟨e1, e2⟩ := ih (by omega)
        rw [hm] at e1 e2 ⊢
        have e3 : ((m : Int) + 1).toNat = m + 1 := by omega
        rw [rd, e3]
        rw [rd, Int.toNat_natCast] at e1
        rw [Int.toNat_natCast] at e2
        exact ⟨by simpa using e1, by simpa [h1] using e2⟩
theorem Index_loop (xs : List Int) (v : Int) (hx : xs.length ≤ 17592186044416) (d : Nat) : ∀ i : Nat, i + d = xs.length →
    Ev (fun k => slices_Index_int_int.l0 k xs v (xs.length : Int) (i : Int)) (if idxG (xs.drop i) v < 0 then -1 else idxG (xs.drop i) v + i) := by
  induction d with
  | zero =>
    intro i hd
    apply ev_succ
    simp only [slices_Index_int_int.l0]
    refine ev_ifn (by omega) (ev_some ?_)
    rw [List.drop_eq_nil_of_le (by omega)]
    simp [idxG]
  | succ d ih =>
    intro i hd
    apply ev_succ
    simp only [slices_Index_int_int.l0]
    refine ev_ifp (by omega) (ev_ifp (by omega) (ev_ifp (by omega) ?_))
    rw [w64 (by omega) (by omega), drop_rd xs i (by omega)]
    unfold idxG
    by_cases h : v = rd xs (i : Int)
    · refine ev_ifp h (ev_some ?_)
      rw [if_pos h]
      simp
    · refine ev_ifn h ?_
      have := ih (i + 1) (by omega)
      rw [if_neg h]
      have hr := idxG_range (xs.drop (i + 1)) v
      have e : (if (if idxG (xs.drop (i + 1)) v < 0 then -1 else idxG (xs.drop (i + 1)) v + 1) < 0 then (-1 : Int) else (if idxG (xs.drop (i + 1)) v < 0 then -1 else idxG (xs.drop (i + 1)) v + 1) + (i : Int)) = if idxG (xs.drop (i + 1)) v < 0 then -1 else idxG (xs.drop (i + 1)) v + ((i + 1 : Nat) : Int) := by
        split
        · simp
        · rw [if_neg (by omega)]
          omega
      rw [e]
      simpa using this
theorem Index_ev (xs : List Int) (v : Int) (hx : xs.length ≤ 17592186044416) : Ev (fun k => slices_Index_int_int.f k xs v) (idxG xs v) := by
  unfold slices_Index_int_int.f
  have := Index_loop xs v hx xs.length 0 (by omega)
  have hr := idxG_range xs v
  simp only [List.drop_zero] at this
  have e : (if idxG xs v < 0 then -1 else idxG xs v + ((0 : Nat) : Int)) = idxG xs v := by split <;> omega
  rw [e] at this
  exact this
theorem Contains_ev (xs : List Int) (v : Int) (hx : xs.length ≤ 17592186044416) : Ev (fun k => slices_Contains_int_int.f k xs v) (decide (v ∈ xs)) := by
  unfold slices_Contains_int_int.f
  refine Ev.bind (Index_ev xs v hx) (ev_some ?_)
  have := idxG_neg xs v
  by_cases h : v ∈ xs
  · have h2 : ¬ idxG xs v < 0 := fun h3 => this.1 h3 h
    simp [h]
    omega
  · have h2 := this.2 h
    simp [h]
    omega
theorem rd63 (xs : List S63) (i : Nat) (h : i < xs.length) : rd_T63 xs (i : Int) = xs[i] := by simp [rd_T63, List.getD_eq_getElem?_getD, h]
theorem drop63 (xs : List S63) (i : Nat) (h : i < xs.length) : xs.drop i = rd_T63 xs (i : Int) :: xs.drop (i + 1) := by
  rw [List.drop_eq_getElem_cons h, rd63 xs i h]
theorem eqPairS_loop (xs : List S63) (hx : xs.length ≤ 17592186044416) (d : Nat) : ∀ (i : Nat), i + d = xs.length → Ev (fun k => laws_eqPairS.l0 k xs xs (i : Int)) true := by
  induction d with
  | zero =>
    intro i hd
    apply ev_succ
    simp only [laws_eqPairS.l0]
    exact ev_ifn (by omega) (Ev.now _)
  | succ d ih =>
    intro i hd
    apply ev_succ
    simp only [laws_eqPairS.l0]
    refine ev_ifp (by omega) (ev_ifp (by omega) (ev_ifp (by omega) ?_))
    rw [w64 (by omega) (by omega)]
    simpa [laws_eqPair.f] using ih (i + 1) (by omega)
theorem eqPairS_ev (xs : List S63) (hx : xs.length ≤ 17592186044416) : Ev (fun k => laws_eqPairS.f k xs xs) true := by
  unfold laws_eqPairS.f
  refine ev_ifp rfl ?_
  exact eqPairS_loop xs hx xs.length 0 (by omega)
def elPair (a : Int) : S63 := ⟨a, a + 1⟩
theorem rdset63 (xs : List S63) (i : Nat) (v : S63) (h : i < xs.length) : rd_T63 (xs.set i v) (i : Int) = v := by
  rw [rd63 _ _ (by simpa using h)]
  simp
theorem markPair_loop (n : Nat) (hn : n ≤ 1100000) (d : Nat) : ∀ (i : Nat) (xs : List S63), xs.length = n → i + d = n → ∃ ys, Ev (fun k => laws_markPairS.l0 k xs (1 + 2 * (i : Int)) (i : Int)) (1 + 2 * (n : Int), ys) ∧ ys.length = n ∧ (∀ j : Nat, i ≤ j → j < n → ys[j]? = some (elPair (1 + 2 * (j : Int)))) ∧ (∀ j : Nat, j < i → ys[j]? = xs[j]?) := by
  induction d with
  | zero =>
    intro i xs hl hd
    refine ⟨xs, ?_, hl, fun j h1 h2 => by omega, fun j _ => rfl⟩
    apply ev_succ
    simp only [laws_markPairS.l0]
    refine ev_ifn (by omega) (ev_some ?_)
    rw [show (i : Int) = n by omega]
  | succ d ih =>
    intro i xs hl hd
    obtain ⟨ys, he, hy, h1, h2⟩ := ih (i + 1) (xs.set i (elPair (1 + 2 * (i : Int)))) (by simpa using hl) (by omega)
    refine ⟨ys, ?_, hy, fun j hj hn' => ?_, fun j hj => ?_⟩
    · apply ev_succ
      have hi : i < xs.length := by omega
      have w0 : wrap64 (1 + 2 * (i : Int) + 1) = 1 + 2 * (i : Int) + 1 := by rw [w64 (by omega) (by omega)] <;> omega
      have w1 : wrap64 (1 + 2 * (i : Int) + 1 + 1) = 1 + 2 * (i : Int) + 2 := by rw [w64 (by omega) (by omega)] <;> omega
      simp only [laws_markPairS.l0, Option.bind_some, Int.toNat_natCast, rdset63 _ _ _ hi, List.set_set, List.length_set, w0, w1]
      have w' : wrap64 ((i : Int) + 1) = ((i + 1 : Nat) : Int) := by rw [w64 (by omega) (by omega)]; simp
      rw [w']
      refine ev_ifp (by omega) (ev_ifp (by omega) ?_)
      have e : 1 + 2 * ((i + 1 : Nat) : Int) = 1 + 2 * (i : Int) + 2 := by omega
      rw [e] at he
      simpa [elPair, Int.add_assoc, Int.mul_comm] using he
    · by_cases hji : j = i
      · subst hji
        rw [h2 j (by omega)]
        simp [show j < xs.length by omega]
      · exact h1 j (by omega) hn'
    · rw [h2 j (by omega), List.getElem?_set_ne (by omega)]
theorem heldPair_loop (ys : List S63) (n : Nat) (hn : n ≤ 1100000) (hl : ys.length = n) (h : ∀ j : Nat, j < n → ys[j]? = some (elPair (1 + 2 * (j : Int)))) (d : Nat) : ∀ i : Nat, i + d = n → Ev (fun k => laws_heldPairS.l0 k ys (1 + 2 * (i : Int)) (i : Int)) (1 + 2 * (n : Int)) := by
  induction d with
  | zero =>
    intro i hd
    apply ev_succ
    simp only [laws_heldPairS.l0]
    refine ev_ifn (by omega) (ev_some ?_)
    rw [show (i : Int) = n by omega]
  | succ d ih =>
    intro i hd
    apply ev_succ
    have hr : rd_T63 ys (i : Int) = elPair (1 + 2 * (i : Int)) := by
      rw [rd63 ys i (by omega)]
      have := h i (by omega)
      rw [List.getElem?_eq_getElem (by omega)] at this
      exact Option.some.inj this
    have w0 : wrap64 (1 + 2 * (i : Int) + 1) = 1 + 2 * (i : Int) + 1 := by rw [w64 (by omega) (by omega)] <;> omega
    have w1 : wrap64 (1 + 2 * (i : Int) + 1 + 1) = 1 + 2 * (i : Int) + 2 := by rw [w64 (by omega) (by omega)] <;> omega
    have he := ih (i + 1) (by omega)
    have e : 1 + 2 * ((i + 1 : Nat) : Int) = 1 + 2 * (i : Int) + 2 := by omega
    rw [e] at he
    have w' : wrap64 ((i : Int) + 1) = ((i + 1 : Nat) : Int) := by rw [w64 (by omega) (by omega)]; simp
    simp only [laws_heldPairS.l0, hr, elPair, w0, w1, w']
    refine ev_ifp (by omega) (ev_ifp (by omega) ?_)
    simpa [Int.add_assoc] using he
theorem markPair_ev (xs : List S63) (hx : xs.length ≤ 1100000) : ∃ m ys, Ev (fun k => laws_markPairS.f k xs 1) (m, ys) ∧ 0 ≤ m ∧ Ev (fun k => laws_heldPairS.f k ys 1) m := by
  obtain ⟨ys, he, hy, h1, h2⟩ := markPair_loop xs.length hx xs.length 0 xs rfl (by omega)
  refine ⟨1 + 2 * (xs.length : Int), ys, ?_, by omega, ?_⟩
  · unfold laws_markPairS.f
    simpa using he
  · unfold laws_heldPairS.f
    simpa using heldPair_loop ys xs.length hx hy (fun j hj => h1 j (by omega) hj) xs.length 0 (by omega)
def seedG (n : Int) : List Int :=
  if n = 2 then [1, 2] else if n = 4 then [1, 4, 2, 3] else if n = 8 then [1, 8, 4, 5, 2, 7, 3, 6] else if n = 16 then [1, 16, 8, 9, 4, 13, 5, 12, 2, 15, 7, 10, 3, 14, 6, 11] else []
theorem spec_SeedOrder_ev (n : Int) : Ev (fun k => spec_SeedOrder.f k n) (seedG n) := by
  by_cases h2 : n = 2
  · subst h2
    exact Ev.of (fun k => spec_SeedOrder.mono 2 k) (k := 80) (by decide +kernel)
  by_cases h4 : n = 4
  · subst h4
    exact Ev.of (fun k => spec_SeedOrder.mono 4 k) (k := 80) (by decide +kernel)
  by_cases h8 : n = 8
  · subst h8
    exact Ev.of (fun k => spec_SeedOrder.mono 8 k) (k := 80) (by decide +kernel)
  by_cases h16 : n = 16
  · subst h16
    exact Ev.of (fun k => spec_SeedOrder.mono 16 k) (k := 80) (by decide +kernel)
  have e : seedG n = [] := by simp [seedG, h2, h4, h8, h16]
  rw [e]
  apply ev_succ
  simp only [spec_SeedOrder.f, Option.bind_some]
  refine ev_ifn h2 (ev_ifn h4 (ev_ifn h8 ?_))
  apply ev_succ
  have hb : (n != 16) = true := by simpa using h16
  simp only [spec_SeedOrder.j0, hb, if_true]
  exact Ev.now _
theorem impl_RoundsOf_eq (n : Int) : impl_RoundsOf.f n = some (if n = 2 then 1 else if n = 4 then 2 else if n = 8 then 3 else if n = 16 then 4 else 0) := by
  unfold impl_RoundsOf.f
  repeat' split
  all_goals rfl
theorem impl_SeedOrder_ev (n : Int) : Ev (fun k => impl_SeedOrder.f k n) (seedG n) := by
  by_cases h2 : n = 2
  · subst h2
    exact Ev.of (fun k => impl_SeedOrder.mono 2 k) (k := 80) (by decide +kernel)
  by_cases h4 : n = 4
  · subst h4
    exact Ev.of (fun k => impl_SeedOrder.mono 4 k) (k := 80) (by decide +kernel)
  by_cases h8 : n = 8
  · subst h8
    exact Ev.of (fun k => impl_SeedOrder.mono 8 k) (k := 80) (by decide +kernel)
  by_cases h16 : n = 16
  · subst h16
    exact Ev.of (fun k => impl_SeedOrder.mono 16 k) (k := 80) (by decide +kernel)
  have e : seedG n = [] := by simp [seedG, h2, h4, h8, h16]
  rw [e]
  unfold impl_SeedOrder.f
  rw [impl_RoundsOf_eq]
  simp only [h2, h4, h8, h16, if_false, Option.bind_some, if_true]
  exact Ev.now _
def seedsOk (s : List Int) (n : Int) : Bool := decide (s.length % 2 = 0) && decide (s.length ≤ 16) && s.all (fun x => decide (1 ≤ x ∧ x ≤ n))
theorem seedG_ok (n : Int) : seedsOk (seedG n) n = true := by
  unfold seedG
  by_cases h2 : n = 2
  · subst h2; decide +kernel
  by_cases h4 : n = 4
  · subst h4; decide +kernel
  by_cases h8 : n = 8
  · subst h8; decide +kernel
  by_cases h16 : n = 16
  · subst h16; decide +kernel
  simp [h2, h4, h8, h16, seedsOk]
theorem seed_rd {s : List Int} {n : Int} (h : seedsOk s n = true) (i : Nat) (hi : i < s.length) : 1 ≤ rd s (i : Int) ∧ rd s (i : Int) ≤ n := by
  simp only [seedsOk, Bool.and_eq_true, List.all_eq_true, decide_eq_true_eq] at h
  have : rd s (i : Int) = s[i] := by simp [rd, List.getD_eq_getElem?_getD, hi]
  rw [this]
  exact h.2 _ (List.getElem_mem _)
theorem first_l1_same (a s : List Int) : ∀ (k : Nat) (o : List S63) (i : Int), spec_FirstRound.l1 k a o s i = impl_FirstRound.l1 k a o s i
  | 0, _, _ => rfl
  | k + 1, o, i => by
    simp only [spec_FirstRound.l1, impl_FirstRound.l1, first_l1_same a s k]
theorem first_l1 (a s : List Int) (n : Int) (hn : n = a.length) (ha : a.length ≤ 1048576) (hs : seedsOk s n = true) (d : Nat) : ∀ (j : Nat) (o : List S63), 2 * (j + d) = s.length → o.length = j →
    ∃ r : List S63, r.length ≤ 16 ∧ Ev (fun k => impl_FirstRound.l1 k a o s (2 * (j : Int))) r := by
  have hl : s.length ≤ 16 := by
    simp only [seedsOk, Bool.and_eq_true, decide_eq_true_eq] at hs
    exact hs.1.2
  induction d with
  | zero =>
    intro j o hd ho
    refine ⟨o, by omega, ?_⟩
    apply ev_succ
    simp only [impl_FirstRound.l1]
    rw [w64 (x := 2 * (j : Int) + 1) (by omega) (by omega)]
    exact ev_ifn (by omega) (Ev.now _)
  | succ d ih =>
    intro j o hd ho
    have r1 := seed_rd hs (2 * j) (by omega)
    have r2 := seed_rd hs (2 * j + 1) (by omega)
    have c1 : ((2 * j : Nat) : Int) = 2 * (j : Int) := by omega
    have c2 : ((2 * j + 1 : Nat) : Int) = 2 * (j : Int) + 1 := by omega
    rw [c1] at r1
    rw [c2] at r2
    have w1 : wrap64 (2 * (j : Int) + 1) = 2 * (j : Int) + 1 := w64 (by omega) (by omega)
    have w2 : wrap64 (2 * (j : Int) + 2) = 2 * ((j + 1 : Nat) : Int) := by rw [w64 (by omega) (by omega)]; omega
    have w3 : wrap64 (rd s (2 * (j : Int)) - 1) = rd s (2 * (j : Int)) - 1 := w64 (by omega) (by omega)
    have w4 : wrap64 (rd s (2 * (j : Int) + 1) - 1) = rd s (2 * (j : Int) + 1) - 1 := w64 (by omega) (by omega)
    obtain ⟨r, hr, he⟩ := ih (j + 1) (o ++ [⟨rd a (rd s (2 * (j : Int)) - 1), rd a (rd s (2 * (j : Int) + 1) - 1)⟩]) (by omega) (by simp [ho])
    refine ⟨r, hr, ?_⟩
    apply ev_succ
    simp only [impl_FirstRound.l1, w1, w2, w3, w4]
    exact ev_ifp (by omega) (ev_ifp (by omega) (ev_ifp (by omega) (ev_ifp (by omega) (ev_ifp (by omega) (ev_ifp (by omega) (ev_ifp (by omega) (ev_ifp (by omega) (ev_ifp (by omega) he))))))))
theorem first_both (a : List Int) (ha : a.length ≤ 1048576) (d : Nat) : ∀ i : Nat, i + d = a.length →
    ∃ r : List S63, r.length ≤ 16 ∧ Ev (fun k => spec_FirstRound.l0 k a [] (seedG a.length) (i : Int)) r ∧ Ev (fun k => impl_FirstRound.l0 k a [] a (a.length : Int) (i : Int)) r := by
  induction d with
  | zero =>
    intro i hd
    have hs := seedG_ok (a.length : Int)
    have he : (seedG (a.length : Int)).length % 2 = 0 := by
      simp only [seedsOk, Bool.and_eq_true, decide_eq_true_eq] at hs
      exact hs.1.1
    obtain ⟨r, hr, h1⟩ := first_l1 a (seedG a.length) _ rfl ha hs ((seedG (a.length : Int)).length / 2) 0 [] (by omega) rfl
    refine ⟨r, hr, ?_, ?_⟩
    · apply ev_succ
      simp only [spec_FirstRound.l0, first_l1_same]
      exact ev_ifn (by omega) (by simpa using h1)
    · apply ev_succ
      simp only [impl_FirstRound.l0]
      exact ev_ifn (by omega) (Ev.bind (impl_SeedOrder_ev _) (by simpa using h1))
  | succ d ih =>
    intro i hd
    have e1 : wrap64 ((i : Int) + 1) = ((i + 1 : Nat) : Int) := by rw [w64 (by omega) (by omega)]; simp
    by_cases h : rd a (i : Int) ∈ a.take i
    · refine ⟨[], by simp, ?_, ?_⟩
      · apply ev_succ
        simp only [spec_FirstRound.l0, Int.toNat_natCast]
        exact ev_ifp (by omega) (ev_ifp (by omega) (ev_ifp (by omega) (Ev.bind (l4Has_ev (a.take i) _ (by simp; omega)) (ev_ifp (by simpa using h) (Ev.now _)))))
      · apply ev_succ
        simp only [impl_FirstRound.l0, Int.toNat_natCast]
        exact ev_ifp (by omega) (ev_ifp (by omega) (ev_ifp (by omega) (ev_ifp (by omega) (Ev.bind (Contains_ev (a.take i) _ (by simp; omega)) (ev_ifp (by simpa using h) (Ev.now _))))))
    · obtain ⟨r, hr, hs, hi⟩ := ih (i + 1) (by omega)
      refine ⟨r, hr, ?_, ?_⟩
      · apply ev_succ
        simp only [spec_FirstRound.l0, Int.toNat_natCast, e1]
        exact ev_ifp (by omega) (ev_ifp (by omega) (ev_ifp (by omega) (Ev.bind (l4Has_ev (a.take i) _ (by simp; omega)) (ev_ifn (by simpa using h) hs))))
      · apply ev_succ
        simp only [impl_FirstRound.l0, Int.toNat_natCast, e1]
        exact ev_ifp (by omega) (ev_ifp (by omega) (ev_ifp (by omega) (ev_ifp (by omega) (Ev.bind (Contains_ev (a.take i) _ (by simp; omega)) (ev_ifn (by simpa using h) hi)))))
theorem FnExactFirstRound : laws_FnExactFirstRound.Pure := by
  intro a _ _ _
  apply Ev.rounds
  unfold laws_FnExactFirstRound.f
  by_cases ha : (a.length : Int) > 1048576
  · exact ev_ifp ha (Ev.now _)
  have ta := toIntS_ev a (by omega)
  have ea := eqIntS_ev a (by omega)
  obtain ⟨o, ho, hs0, hi0⟩ := first_both a (by omega) a.length 0 (by omega)
  have hs : Ev (fun k => spec_FirstRound.f k a) o := by
    unfold spec_FirstRound.f
    exact Ev.bind (spec_SeedOrder_ev _) (by simpa using hs0)
  have hi : Ev (fun k => impl_FirstRound.f k a) o := by
    unfold impl_FirstRound.f
    simpa using hi0
  have hq := eqPairS_ev o (by omega)
  obtain ⟨m, ys, hm, hm0, hh⟩ := markPair_ev o (by omega)
  obtain ⟨ys3, hm3, _, _⟩ := markInt_at a (by omega) 1 (by omega) (by omega)
  refine ev_ifn ha (Ev.bind ta (Ev.bind hs (Ev.bind ta (Ev.bind hi (Ev.bind hq (ev_ifp rfl (Ev.bind ta (Ev.bind ea (ev_ifp rfl (Ev.bind hm3 (ev_ifn (by simp only; omega) (Ev.bind hq ?_))))))))))))
  apply ev_succ
  simp only [laws_FnExactFirstRound.j0, Bool.not_true, Bool.false_eq_true, if_false]
  exact Ev.bind hm (Ev.bind hh (ev_ifn (by omega) (ev_ifp rfl (Ev.bind ta (Ev.bind hi (Ev.bind hq (ev_ifp rfl (Ev.bind hh (ev_ifn (by omega) (ev_ifp rfl (Ev.now _)))))))))))

end Go.Proofs.Ytaigbllahdjmlaa.Pure
