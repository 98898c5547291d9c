/- The program's NextRound answers what the reference's answers, for all arguments, and its list is its own.
No condition: for every input. -/
import Derived.Test.YtaigbllahdjmlaaPFnExactNextRoundx6
set_option linter.unusedVariables false
set_option linter.unusedSimpArgs false
set_option maxHeartbeats 1000000
namespace Go.Proofs.Ytaigbllahdjmlaa.Pure
open Go.RowKit Go.Proofs.Ytaigbllahdjmlaa.PFnExactNextRound Go.Proofs.YtaigbllahdjmlaaW.PrintWords Go.Proofs.YtaigbllahdjmlaaW.PrintLast

theorem w64 {x : Int} (h1 : -9223372036854775808 ≤ x) (h2 : x ≤ 9223372036854775807) : wrap64 x = x := by unfold wrap64; omega
theorem wf64 {x : Int} (h : (Lit.int .i64 x).wf = true) : -9223372036854775808 ≤ x ∧ x ≤ 9223372036854775807 := by
  simp only [Lit.wf, Bool.and_eq_true, decide_eq_true_eq] at h
  have e1 : IntKind.min .i64 = -9223372036854775808 := by decide
  have e2 : IntKind.max .i64 = 9223372036854775807 := by decide
  omega
theorem wfu8 {x : Int} (h : (Lit.int .u8 x).wf = true) : 0 ≤ x ∧ x ≤ 255 := by
  simp only [Lit.wf, Bool.and_eq_true, decide_eq_true_eq] at h
  have e1 : IntKind.min .u8 = 0 := by decide
  have e2 : IntKind.max .u8 = 255 := by decide
  omega
theorem ev_succ {α : Type} {g : Nat → Option α} {r : α} (h : Ev (fun k => g (k + 1)) r) : Ev g r := Ev.step (fun _ => rfl) h
theorem ev_some {α : Type} {r s : α} (h : r = s) : Ev (fun _ => some r) s := by subst h; exact Ev.now r
theorem ev_fix {α : Type} {o : Option α} {r : α} (h : o = some r) : Ev (fun _ => o) r := ⟨0, fun _ _ => h⟩
theorem ev_at {α : Type} {g : Nat → Option α} {r : α} (n : Nat) (h : ∀ k, g (k + n) = some r) : Ev g r :=
  ⟨n, fun k hk => by obtain ⟨m, rfl⟩ : ∃ m, k = m + n := ⟨k - n, by omega⟩; exact h m⟩
theorem ev_bindc {α β : Type} {o : Option α} {f : Nat → α → Option β} {a : α} {r : β} (h : o = some a) (k : Ev (fun n => f n a) r) : Ev (fun n => o.bind (f n)) r := by
  subst h; exact k
theorem ev_ifp {α : Type} {c : Prop} [Decidable c] {a b : Nat → Option α} {r : α} (h : c) (k : Ev a r) : Ev (fun n => if c then a n else b n) r := by
  simpa only [if_pos h] using k
theorem ev_ifn {α : Type} {c : Prop} [Decidable c] {a b : Nat → Option α} {r : α} (h : ¬ c) (k : Ev b r) : Ev (fun n => if c then a n else b n) r := by
  simpa only [if_neg h] using k
theorem rd_nat (xs : List Int) (i : Nat) (h : i < xs.length) : rd xs (i : Int) = xs[i] := by
  unfold rd
  simp [List.getD_eq_getElem?_getD, h]
theorem toIntS_loop (xs : List Int) (hx : xs.length ≤ 17592186044416) (d : Nat) : ∀ (i : Nat) (ys : List Int), ys.length = xs.length → i + d = xs.length → ys.take i = xs.take i →
    Ev (fun k => laws_toIntS.l0 k xs ys (i : Int)) xs := by
  induction d with
  | zero =>
    intro i ys hl hd ht
    apply ev_succ
    simp only [laws_toIntS.l0]
    refine ev_ifn (by omega) ?_
    have e : ys = xs := by rw [← List.take_length (l := xs), ← show i = xs.length by omega, ← ht, List.take_of_length_le (by omega)]
    rw [e]
    exact Ev.now _
  | succ d ih =>
    intro i ys hl hd ht
    apply ev_succ
    simp only [laws_toIntS.l0]
    refine ev_ifp (by omega) (ev_ifp (by omega) (ev_ifp (by omega) ?_))
    rw [w64 (by omega) (by omega)]
    have hi : i < xs.length := by omega
    have := ih (i + 1) (ys.set i (rd xs (i : Int))) (by simpa using hl) (by omega) (by
      rw [List.take_succ_eq_append_getElem hi, List.take_succ_eq_append_getElem (by simpa using (by omega : i < ys.length)), List.getElem_set_self, rd_nat xs i hi, List.take_set_of_le (by omega), ht])
    simpa using this
theorem toIntS_ev (xs : List Int) (hx : xs.length ≤ 17592186044416) : Ev (fun k => laws_toIntS.f k xs) xs := by
  unfold laws_toIntS.f
  refine ev_ifp (by omega) (ev_ifp (by omega) ?_)
  exact toIntS_loop xs hx xs.length 0 _ (by simp) (by omega) (by simp)
theorem eqIntS_loop (xs : List Int) (hx : xs.length ≤ 17592186044416) (d : Nat) : ∀ (i : Nat), i + d = xs.length → Ev (fun k => laws_eqIntS.l0 k xs xs (i : Int)) true := by
  induction d with
  | zero =>
    intro i hd
    apply ev_succ
    simp only [laws_eqIntS.l0]
    refine ev_ifn (by omega) ?_
    exact Ev.now _
  | succ d ih =>
    intro i hd
    apply ev_succ
    simp only [laws_eqIntS.l0]
    refine ev_ifp (by omega) (ev_ifp (by omega) (ev_ifp (by omega) ?_))
    rw [w64 (by omega) (by omega)]
    simpa using ih (i + 1) (by omega)
theorem eqIntS_ev (xs : List Int) (hx : xs.length ≤ 17592186044416) : Ev (fun k => laws_eqIntS.f k xs xs) true := by
  unfold laws_eqIntS.f
  refine ev_ifp rfl ?_
  exact eqIntS_loop xs hx xs.length 0 (by omega)
theorem markInt_loop (n : Nat) (hn : n ≤ 1100000) (a : Int) (h0 : 0 ≤ a) (h1 : a ≤ 1000000000000) (d : Nat) : ∀ (i : Nat) (xs : List Int), xs.length = n → i + d = n → ∃ ys : List Int, Ev (fun k => laws_markIntS.l0 k xs (a + (i : Int)) (i : Int)) (a + (n : Int), ys) ∧ ys.length = n ∧ (∀ j : Nat, i ≤ j → j < n → ys[j]? = some (a + (j : Int))) ∧ (∀ j : Nat, j < i → ys[j]? = xs[j]?) := by
  induction d with
  | zero =>
    intro i xs hl hd
    refine ⟨xs, ?_, hl, fun j h1 h2 => by omega, fun j _ => rfl⟩
    apply ev_succ
    simp only [laws_markIntS.l0]
    refine ev_ifn (by omega) (ev_some ?_)
    rw [show (i : Int) = n by omega]
  | succ d ih =>
    intro i xs hl hd
    obtain ⟨ys, he, hy, h2, h3⟩ := ih (i + 1) (xs.set i (a + (i : Int))) (by simpa using hl) (by omega)
    refine ⟨ys, ?_, hy, fun j hj hn' => ?_, fun j hj => ?_⟩
    · apply ev_succ
      have w0 : wrap64 (a + (i : Int) + 1) = a + ((i + 1 : Nat) : Int) := by rw [w64 (by omega) (by omega)]; omega
      have w' : wrap64 ((i : Int) + 1) = ((i + 1 : Nat) : Int) := by rw [w64 (by omega) (by omega)]; simp
      simp only [laws_markIntS.l0, Int.toNat_natCast, w0, w']
      exact ev_ifp (by omega) (ev_ifp (by omega) he)
    · by_cases hji : j = i
      · subst hji
        rw [h3 j (by omega)]
        simp [show j < xs.length by omega]
      · exact h2 j (by omega) hn'
    · rw [h3 j (by omega), List.getElem?_set_ne (by omega)]
theorem markInt_at (xs : List Int) (hx : xs.length ≤ 1100000) (a : Int) (h0 : 0 ≤ a) (h1 : a ≤ 1000000000000) : ∃ ys, Ev (fun k => laws_markIntS.f k xs a) (a + (xs.length : Int), ys) ∧ ys.length = xs.length ∧ ∀ j : Nat, j < xs.length → ys[j]? = some (a + (j : Int)) := by
  obtain ⟨ys, he, hy, h2, h3⟩ := markInt_loop xs.length hx a h0 h1 xs.length 0 xs rfl (by omega)
  refine ⟨ys, ?_, hy, fun j hj => h2 j (by omega) hj⟩
  unfold laws_markIntS.f
  simpa using he
theorem rd63 (xs : List S63) (i : Nat) (h : i < xs.length) : rd_T63 xs (i : Int) = xs[i] := by simp [rd_T63, List.getD_eq_getElem?_getD, h]
theorem drop63 (xs : List S63) (i : Nat) (h : i < xs.length) : xs.drop i = rd_T63 xs (i : Int) :: xs.drop (i + 1) := by
  rw [List.drop_eq_getElem_cons h, rd63 xs i h]
def upPair (x : S79) : S63 := ⟨x.f0, x.f1⟩
theorem szPair_eq (l : List S79) (c : Int) (hm : l.length ≤ maxLen) (h0 : 0 ≤ c) (h1 : c ≤ 1048576) : laws_szPairS.f l c = some (if (l.length : Int) ≤ c then c - (l.length : Int) else (-1 : Int)) := by
  unfold maxLen at hm
  unfold laws_szPairS.f
  rw [w64 (by omega) (by omega)]
  by_cases h : (l.length : Int) ≤ c
  · rw [if_neg (by omega), if_pos h]
  · rw [if_pos (by omega), if_neg h]
theorem rd79 (xs : List S79) (i : Nat) (h : i < xs.length) : rd_T79 xs (i : Int) = xs[i] := by simp [rd_T79, List.getD_eq_getElem?_getD, h]
theorem toPairS_loop (xs : List S79) (hx : xs.length ≤ 1048576) (d : Nat) : ∀ (i : Nat) (ys : List S63), ys.length = xs.length → i + d = xs.length → ys.take i = (xs.map upPair).take i →
    Ev (fun k => laws_toPairS.l0 k xs ys (i : Int)) (xs.map upPair) := by
  induction d with
  | zero =>
    intro i ys hl hd ht
    apply ev_succ
    simp only [laws_toPairS.l0]
    refine ev_ifn (by omega) (ev_some ?_)
    have h1 : ys.take i = ys := List.take_of_length_le (by omega)
    have h2 : (xs.map upPair).take i = xs.map upPair := List.take_of_length_le (by simp; omega)
    rw [← h1, ht, h2]
  | succ d ih =>
    intro i ys hl hd ht
    apply ev_succ
    simp only [laws_toPairS.l0, laws_toPair.f, Option.bind_some]
    refine ev_ifp (by omega) (ev_ifp (by omega) (ev_ifp (by omega) ?_))
    rw [w64 (by omega) (by omega)]
    have hi : i < xs.length := by omega
    have := ih (i + 1) (ys.set i (upPair xs[i])) (by simpa using hl) (by omega) (by
      rw [List.take_succ_eq_append_getElem (l := xs.map upPair) (by simpa using hi), List.take_succ_eq_append_getElem (l := ys.set i (upPair xs[i])) (by simp; omega), List.getElem_set_self, List.take_set_of_le (by omega), ht]
      simp)
    simpa [rd79 xs i hi, upPair] using this
theorem toPairS_ev (xs : List S79) (hx : xs.length ≤ 1048576) : Ev (fun k => laws_toPairS.f k xs) (xs.map upPair) := by
  unfold laws_toPairS.f
  refine ev_ifp (by omega) (ev_ifp (by omega) ?_)
  exact toPairS_loop xs hx xs.length 0 _ (by simp) (by omega) (by simp)
theorem eqPairS_loop (xs : List S63) (hx : xs.length ≤ 17592186044416) (d : Nat) : ∀ (i : Nat), i + d = xs.length → Ev (fun k => laws_eqPairS.l0 k xs xs (i : Int)) true := by
  induction d with
  | zero =>
    intro i hd
    apply ev_succ
    simp only [laws_eqPairS.l0]
    exact ev_ifn (by omega) (Ev.now _)
  | succ d ih =>
    intro i hd
    apply ev_succ
    simp only [laws_eqPairS.l0]
    refine ev_ifp (by omega) (ev_ifp (by omega) (ev_ifp (by omega) ?_))
    rw [w64 (by omega) (by omega)]
    simpa [laws_eqPair.f] using ih (i + 1) (by omega)
theorem eqPairS_ev (xs : List S63) (hx : xs.length ≤ 17592186044416) : Ev (fun k => laws_eqPairS.f k xs xs) true := by
  unfold laws_eqPairS.f
  refine ev_ifp rfl ?_
  exact eqPairS_loop xs hx xs.length 0 (by omega)
def elPair (a : Int) : S63 := ⟨a, a + 1⟩
theorem rdset63 (xs : List S63) (i : Nat) (v : S63) (h : i < xs.length) : rd_T63 (xs.set i v) (i : Int) = v := by
  rw [rd63 _ _ (by simpa using h)]
  simp
theorem markPair_loop (n : Nat) (hn : n ≤ 1100000) (d : Nat) : ∀ (i : Nat) (xs : List S63), xs.length = n → i + d = n → ∃ ys, Ev (fun k => laws_markPairS.l0 k xs (1 + 2 * (i : Int)) (i : Int)) (1 + 2 * (n : Int), ys) ∧ ys.length = n ∧ (∀ j : Nat, i ≤ j → j < n → ys[j]? = some (elPair (1 + 2 * (j : Int)))) ∧ (∀ j : Nat, j < i → ys[j]? = xs[j]?) := by
  induction d with
  | zero =>
    intro i xs hl hd
    refine ⟨xs, ?_, hl, fun j h1 h2 => by omega, fun j _ => rfl⟩
    apply ev_succ
    simp only [laws_markPairS.l0]
    refine ev_ifn (by omega) (ev_some ?_)
    rw [show (i : Int) = n by omega]
  | succ d ih =>
    intro i xs hl hd
    obtain ⟨ys, he, hy, h1, h2⟩ := ih (i + 1) (xs.set i (elPair (1 + 2 * (i : Int)))) (by simpa using hl) (by omega)
    refine ⟨ys, ?_, hy, fun j hj hn' => ?_, fun j hj => ?_⟩
    · apply ev_succ
      have hi : i < xs.length := by omega
      have w0 : wrap64 (1 + 2 * (i : Int) + 1) = 1 + 2 * (i : Int) + 1 := by rw [w64 (by omega) (by omega)] <;> omega
      have w1 : wrap64 (1 + 2 * (i : Int) + 1 + 1) = 1 + 2 * (i : Int) + 2 := by rw [w64 (by omega) (by omega)] <;> omega
      simp only [laws_markPairS.l0, Option.bind_some, Int.toNat_natCast, rdset63 _ _ _ hi, List.set_set, List.length_set, w0, w1]
      have w' : wrap64 ((i : Int) + 1) = ((i + 1 : Nat) : Int) := by rw [w64 (by omega) (by omega)]; simp
      rw [w']
      refine ev_ifp (by omega) (ev_ifp (by omega) ?_)
      have e : 1 + 2 * ((i + 1 : Nat) : Int) = 1 + 2 * (i : Int) + 2 := by omega
      rw [e] at he
      simpa [elPair, Int.add_assoc, Int.mul_comm] using he
    · by_cases hji : j = i
      · subst hji
        rw [h2 j (by omega)]
        simp [show j < xs.length by omega]
      · exact h1 j (by omega) hn'
    · rw [h2 j (by omega), List.getElem?_set_ne (by omega)]
theorem heldPair_loop (ys : List S63) (n : Nat) (hn : n ≤ 1100000) (hl : ys.length = n) (h : ∀ j : Nat, j < n → ys[j]? = some (elPair (1 + 2 * (j : Int)))) (d : Nat) : ∀ i : Nat, i + d = n → Ev (fun k => laws_heldPairS.l0 k ys (1 + 2 * (i : Int)) (i : Int)) (1 + 2 * (n : Int)) := by
  induction d with
  | zero =>
    intro i hd
    apply ev_succ
    simp only [laws_heldPairS.l0]
    refine ev_ifn (by omega) (ev_some ?_)
    rw [show (i : Int) = n by omega]
  | succ d ih =>
    intro i hd
    apply ev_succ
    have hr : rd_T63 ys (i : Int) = elPair (1 + 2 * (i : Int)) := by
      rw [rd63 ys i (by omega)]
      have := h i (by omega)
      rw [List.getElem?_eq_getElem (by omega)] at this
      exact Option.some.inj this
    have w0 : wrap64 (1 + 2 * (i : Int) + 1) = 1 + 2 * (i : Int) + 1 := by rw [w64 (by omega) (by omega)] <;> omega
    have w1 : wrap64 (1 + 2 * (i : Int) + 1 + 1) = 1 + 2 * (i : Int) + 2 := by rw [w64 (by omega) (by omega)] <;> omega
    have he := ih (i + 1) (by omega)
    have e : 1 + 2 * ((i + 1 : Nat) : Int) = 1 + 2 * (i : Int) + 2 := by omega
    rw [e] at he
    have w' : wrap64 ((i : Int) + 1) = ((i + 1 : Nat) : Int) := by rw [w64 (by omega) (by omega)]; simp
    simp only [laws_heldPairS.l0, hr, elPair, w0, w1, w']
    refine ev_ifp (by omega) (ev_ifp (by omega) ?_)
    simpa [Int.add_assoc] using he
theorem markPair_ev (xs : List S63) (hx : xs.length ≤ 1100000) : ∃ m ys, Ev (fun k => laws_markPairS.f k xs 1) (m, ys) ∧ 0 ≤ m ∧ Ev (fun k => laws_heldPairS.f k ys 1) m := by
  obtain ⟨ys, he, hy, h1, h2⟩ := markPair_loop xs.length hx xs.length 0 xs rfl (by omega)
  refine ⟨1 + 2 * (xs.length : Int), ys, ?_, by omega, ?_⟩
  · unfold laws_markPairS.f
    simpa using he
  · unfold laws_heldPairS.f
    simpa using heldPair_loop ys xs.length hx hy (fun j hj => h1 j (by omega) hj) xs.length 0 (by omega)
def laws_FnExactNextRound.Pure : Prop := ∀ (l0 : List (S79)) (l1 : List (Int)), (l0.length ≤ maxLen ∧ ∀ y44 ∈ l0, ((Lit.int .i64 y44.f0).wf = true) ∧ ((Lit.int .i64 y44.f1).wf = true)) → (l1.length ≤ maxLen ∧ ∀ y37 ∈ l1, (Lit.int .i64 y37).wf = true) → ∃ k, laws_FnExactNextRound.f k l0 l1 = some true
def okAt (r : List S63) (w : List Int) (i : Nat) : Prop := rd w (i : Int) = (rd_T63 r (i : Int)).f0 ∨ rd w (i : Int) = (rd_T63 r (i : Int)).f1
instance (r : List S63) (w : List Int) (i : Nat) : Decidable (okAt r w i) := by unfold okAt; infer_instance
/-- The pairs of the first i winners. -/
def pairsG (w : List Int) : Nat → List S63
  | 0 => []
  | j + 1 => pairsG w j ++ [⟨rd w (2 * (j : Int)), rd w (2 * (j : Int) + 1)⟩]
theorem pairsG_len (w : List Int) (j : Nat) : (pairsG w j).length = j := by
  induction j with
  | zero => rfl
  | succ j ih => simp [pairsG, ih]
theorem spec_next_loop (r : List S63) (w : List Int) (hr : r.length ≤ 1048576) (hw : w.length = r.length) (m : Nat) (hm : r.length = 2 * m) (d : Nat) : ∀ i : Nat, i + d = r.length →
    Ev (fun k => spec_NextRound.l0 k r w (pairsG w (i / 2)) (i : Int)) (if ∀ j, j < r.length → i ≤ j → okAt r w j then pairsG w m else []) := by
  induction d with
  | zero =>
    intro i hd
    apply ev_succ
    simp only [spec_NextRound.l0]
    rw [if_pos (fun j h1 h2 => by omega)]
    refine ev_ifn (by omega) (ev_some ?_)
    rw [show i / 2 = m by omega]
  | succ d ih =>
    intro i hd
    have e1 : wrap64 ((i : Int) + 1) = ((i + 1 : Nat) : Int) := by rw [w64 (by omega) (by omega)]; simp
    have e2 : wrap64 ((i : Int) - 1) = (i : Int) - 1 := w64 (by omega) (by omega)
    have ih' := ih (i + 1) (by omega)
    have good : okAt r w i → Ev (fun k => spec_NextRound.j2 k r w (pairsG w (i / 2)) (i : Int) false) (if ∀ j, j < r.length → i ≤ j → okAt r w j then pairsG w m else []) := by
      intro ho
      have e : (∀ j, j < r.length → i ≤ j → okAt r w j) ↔ (∀ j, j < r.length → i + 1 ≤ j → okAt r w j) := by
        constructor
        · intro h j h1 h2
          exact h j h1 (by omega)
        · intro h j h1 h2
          by_cases hj : j = i
          · rw [hj]; exact ho
          · exact h j h1 (by omega)
      simp only [e]
      apply ev_succ
      simp only [spec_NextRound.j2, Bool.false_eq_true, if_false, e1, e2]
      have ht : Int.tmod (i : Int) 2 = ((i % 2 : Nat) : Int) := by
        rw [Int.tmod_eq_emod_of_nonneg (by omega)]
        omega
      rw [ht]
      have hl := pairsG_len w (i / 2)
      by_cases hp : i % 2 = 1
      · refine ev_ifp (by omega) (ev_ifp (by omega) (ev_ifp (by omega) (ev_ifp (by omega) (ev_ifp (by omega) (ev_ifp (by omega) ?_)))))
        have e3 : (i + 1) / 2 = i / 2 + 1 := by omega
        rw [e3, pairsG] at ih'
        have e4 : 2 * ((i / 2 : Nat) : Int) = (i : Int) - 1 := by omega
        have e5 : 2 * ((i / 2 : Nat) : Int) + 1 = (i : Int) := by omega
        rw [e5, e4] at ih'
        exact ih'
      · refine ev_ifn (by omega) ?_
        rw [show (i + 1) / 2 = i / 2 by omega] at ih'
        exact ih'
    apply ev_succ
    simp only [spec_NextRound.l0]
    refine ev_ifp (by omega) (ev_ifp (by omega) (ev_ifp (by omega) ?_))
    by_cases h1 : rd w (i : Int) = (rd_T63 r (i : Int)).f0
    · exact ev_ifp h1 (good (.inl h1))
    · refine ev_ifn h1 ?_
      by_cases h2 : rd w (i : Int) = (rd_T63 r (i : Int)).f1
      · have hb : (rd w (i : Int) != (rd_T63 r (i : Int)).f1) = false := by simp [h2]
        rw [hb]
        exact good (.inr h2)
      · have hb : (rd w (i : Int) != (rd_T63 r (i : Int)).f1) = true := by simp [h2]
        rw [hb, if_neg (fun h => by rcases h i (by omega) (by omega) with h | h; exact h1 h; exact h2 h)]
        apply ev_succ
        simp only [spec_NextRound.j2, if_true]
        exact Ev.now _
theorem impl_next_l1 (w : List Int) (hw : w.length ≤ 1048576) (m : Nat) (hm : w.length = 2 * m) (d : Nat) : ∀ j : Nat, j + d = m → Ev (fun k => impl_NextRound.l1 k w (pairsG w j) (2 * (j : Int))) (pairsG w m) := by
  induction d with
  | zero =>
    intro j hd
    apply ev_succ
    simp only [impl_NextRound.l1]
    refine ev_ifn (by omega) (ev_some ?_)
    rw [show j = m by omega]
  | succ d ih =>
    intro j hd
    apply ev_succ
    have e1 : wrap64 (2 * (j : Int) + 1) = 2 * (j : Int) + 1 := w64 (by omega) (by omega)
    have e2 : wrap64 (2 * (j : Int) + 2) = 2 * ((j + 1 : Nat) : Int) := by rw [w64 (by omega) (by omega)]; omega
    have hl := pairsG_len w j
    simp only [impl_NextRound.l1, e1, e2]
    exact ev_ifp (by omega) (ev_ifp (by omega) (ev_ifp (by omega) (ev_ifp (by omega) (ev_ifp (by omega) (ih (j + 1) (by omega))))))
theorem impl_next_loop (r : List S63) (w : List Int) (hr : r.length ≤ 1048576) (hw : w.length = r.length) (m : Nat) (hm : r.length = 2 * m) (d : Nat) : ∀ i : Nat, i + d = r.length →
    Ev (fun k => impl_NextRound.l0 k w [] r (r.length : Int) (i : Int)) (if ∀ j, j < r.length → i ≤ j → okAt r w j then pairsG w m else []) := by
  induction d with
  | zero =>
    intro i hd
    apply ev_succ
    simp only [impl_NextRound.l0]
    rw [if_pos (fun j h1 h2 => by omega)]
    refine ev_ifn (by omega) ?_
    simpa [pairsG] using impl_next_l1 w (by omega) m (by omega) m 0 (by omega)
  | succ d ih =>
    intro i hd
    have e1 : wrap64 ((i : Int) + 1) = ((i + 1 : Nat) : Int) := by rw [w64 (by omega) (by omega)]; simp
    have ih' := ih (i + 1) (by omega)
    have e : okAt r w i → ((∀ j, j < r.length → i ≤ j → okAt r w j) ↔ (∀ j, j < r.length → i + 1 ≤ j → okAt r w j)) := by
      intro ho
      constructor
      · intro h j h1 h2
        exact h j h1 (by omega)
      · intro h j h1 h2
        by_cases hj : j = i
        · rw [hj]; exact ho
        · exact h j h1 (by omega)
    apply ev_succ
    simp only [impl_NextRound.l0, e1]
    refine ev_ifp (by omega) (ev_ifp (by omega) (ev_ifp (by omega) (ev_ifp (by omega) ?_)))
    by_cases h1 : rd w (i : Int) = (rd_T63 r (i : Int)).f0
    · simp only [e (.inl h1)]
      exact ev_ifp h1 ih'
    · refine ev_ifn h1 ?_
      by_cases h2 : rd w (i : Int) = (rd_T63 r (i : Int)).f1
      · simp only [e (.inr h2)]
        exact ev_ifp h2 ih'
      · rw [if_neg (fun h => by rcases h i (by omega) (by omega) with h | h; exact h1 h; exact h2 h)]
        exact ev_ifn h2 (Ev.now _)
theorem next_both (r : List S63) (w : List Int) (hr : r.length ≤ 1048576) (hw : w.length ≤ 1048576) : ∃ o : List S63, o.length ≤ 1048576 ∧ Ev (fun k => spec_NextRound.f k r w) o ∧ Ev (fun k => impl_NextRound.f k r w) o := by
  have stop : (w.length ≠ r.length ∨ r.length % 2 = 1) → ∃ o : List S63, o.length ≤ 1048576 ∧ Ev (fun k => spec_NextRound.f k r w) o ∧ Ev (fun k => impl_NextRound.f k r w) o := by
    intro h
    have hs : ∀ v : Bool, v = true → Ev (fun k => spec_NextRound.j0 k r w [] v) [] := by
      intro v hv
      apply ev_succ
      simp only [spec_NextRound.j0, hv, if_true]
      exact Ev.now _
    have hi : ∀ v : Bool, v = true → Ev (fun k => impl_NextRound.j0 k r w [] v) [] := by
      intro v hv
      apply ev_succ
      simp only [impl_NextRound.j0, hv, if_true]
      exact Ev.now _
    refine ⟨[], by simp, ?_, ?_⟩
    · unfold spec_NextRound.f
      simp only [Option.bind_some]
      by_cases hl : (w.length : Int) = (r.length : Int)
      · refine ev_ifp hl (hs _ ?_)
        rw [beq_iff_eq]
        omega
      · exact ev_ifn hl (hs true rfl)
    · unfold impl_NextRound.f
      simp only [Option.bind_some]
      by_cases hl : (w.length : Int) = (r.length : Int)
      · refine ev_ifp hl (hi _ ?_)
        rw [beq_iff_eq]
        omega
      · exact ev_ifn hl (hi true rfl)
  by_cases hl : w.length = r.length
  · by_cases hp : r.length % 2 = 1
    · exact stop (.inr hp)
    · obtain ⟨m, hm⟩ : ∃ m, r.length = 2 * m := ⟨r.length / 2, by omega⟩
      have hb : ((r.length : Int) % 2 == 1) = false := by rw [beq_eq_false_iff_ne]; omega
      refine ⟨if ∀ j, j < r.length → 0 ≤ j → okAt r w j then pairsG w m else [], ?_, ?_, ?_⟩
      · split
        · rw [pairsG_len]; omega
        · simp
      · unfold spec_NextRound.f
        simp only [Option.bind_some, hb]
        refine ev_ifp (by omega) ?_
        apply ev_succ
        simp only [spec_NextRound.j0, Bool.false_eq_true, if_false]
        simpa [pairsG] using spec_next_loop r w hr hl m hm r.length 0 (by omega)
      · unfold impl_NextRound.f
        simp only [Option.bind_some, hb]
        refine ev_ifp (by omega) ?_
        apply ev_succ
        simp only [impl_NextRound.j0, Bool.false_eq_true, if_false]
        simpa using impl_next_loop r w hr hl m hm r.length 0 (by omega)
  · exact stop (.inl hl)
theorem FnExactNextRound : laws_FnExactNextRound.Pure := by
  intro l w hg hg'
  apply Ev.rounds
  unfold laws_FnExactNextRound.f
  by_cases hw : (w.length : Int) > 1048576
  · exact ev_ifp hw (Ev.now _)
  refine ev_ifn hw ?_
  rw [szPair_eq l _ hg.1 (by omega) (by omega)]
  simp only [Option.bind_some]
  by_cases h : (l.length : Int) ≤ 1048576
  · rw [if_pos h]
    refine ev_ifn (by omega) ?_
    have ht := toPairS_ev l (by omega)
    have tw := toIntS_ev w (by omega)
    have ew := eqIntS_ev w (by omega)
    have hlen : (l.map upPair).length = l.length := by simp
    have he := eqPairS_ev (l.map upPair) (by omega)
    obtain ⟨o, ho, hs, hi⟩ := next_both (l.map upPair) w (by omega) (by omega)
    have hq := eqPairS_ev o (by omega)
    obtain ⟨m, ys, hm, hm0, hh⟩ := markPair_ev o (by omega)
    obtain ⟨m2, ys2, hm2, hm20, _⟩ := markPair_loop (l.map upPair).length (by omega) (l.map upPair).length 0 (l.map upPair) rfl (by omega)
    obtain ⟨ys3, hm3, _, _⟩ := markInt_at w (by omega) (1 + 2 * ((l.map upPair).length : Int)) (by omega) (by omega)
    have hm2' : Ev (fun k => laws_markPairS.f k (l.map upPair) 1) (1 + 2 * ((l.map upPair).length : Int), m2) := by
      unfold laws_markPairS.f
      simpa using ys2
    refine Ev.bind ht (Ev.bind tw (Ev.bind hs (Ev.bind ht (Ev.bind tw (Ev.bind hi (Ev.bind hq (ev_ifp rfl (Ev.bind ht (Ev.bind he (ev_ifp rfl (Ev.bind tw (Ev.bind ew (ev_ifp rfl (Ev.bind hm2' (Ev.bind hm3 (ev_ifn (by simp only; omega) (Ev.bind hq ?_)))))))))))))))))
    apply ev_succ
    simp only [laws_FnExactNextRound.j0, Bool.not_true, Bool.false_eq_true, if_false]
    exact Ev.bind hm (Ev.bind hh (ev_ifn (by omega) (ev_ifp rfl (Ev.bind ht (Ev.bind tw (Ev.bind hi (Ev.bind hq (ev_ifp rfl (Ev.bind hh (ev_ifn (by omega) (ev_ifp rfl (Ev.now _))))))))))))
  · rw [if_neg h]
    exact ev_ifp (by omega) (Ev.now _)

end Go.Proofs.Ytaigbllahdjmlaa.Pure
