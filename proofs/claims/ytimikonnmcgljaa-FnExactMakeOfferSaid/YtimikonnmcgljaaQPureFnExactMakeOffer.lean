/- The program's MakeOffer answers what the reference's answers, for all arguments, and its list is its own.
No condition: for every input. -/
import Derived.Test.YtimikonnmcgljaaQFnExactMakeOfferx8
set_option linter.unusedVariables false
set_option linter.unusedSimpArgs false
set_option maxHeartbeats 1000000
namespace Go.Proofs.Ytimikonnmcgljaa.Pure
open Go.RowKit Go.Proofs.Ytimikonnmcgljaa.QFnExactMakeOffer Go.Proofs.YtimikonnmcgljaaW.PrintWords Go.Proofs.YtimikonnmcgljaaW.PrintLast

theorem w64 {x : Int} (h1 : -9223372036854775808 ≤ x) (h2 : x ≤ 9223372036854775807) : wrap64 x = x := by unfold wrap64; omega
theorem wf64 {x : Int} (h : (Lit.int .i64 x).wf = true) : -9223372036854775808 ≤ x ∧ x ≤ 9223372036854775807 := by
  simp only [Lit.wf, Bool.and_eq_true, decide_eq_true_eq] at h
  have e1 : IntKind.min .i64 = -9223372036854775808 := by decide
  have e2 : IntKind.max .i64 = 9223372036854775807 := by decide
  omega
theorem wfu8 {x : Int} (h : (Lit.int .u8 x).wf = true) : 0 ≤ x ∧ x ≤ 255 := by
  simp only [Lit.wf, Bool.and_eq_true, decide_eq_true_eq] at h
  have e1 : IntKind.min .u8 = 0 := by decide
  have e2 : IntKind.max .u8 = 255 := by decide
  omega
theorem ev_succ {α : Type} {g : Nat → Option α} {r : α} (h : Ev (fun k => g (k + 1)) r) : Ev g r := Ev.step (fun _ => rfl) h
theorem ev_some {α : Type} {r s : α} (h : r = s) : Ev (fun _ => some r) s := by subst h; exact Ev.now r
theorem ev_fix {α : Type} {o : Option α} {r : α} (h : o = some r) : Ev (fun _ => o) r := ⟨0, fun _ _ => h⟩
theorem ev_at {α : Type} {g : Nat → Option α} {r : α} (n : Nat) (h : ∀ k, g (k + n) = some r) : Ev g r :=
  ⟨n, fun k hk => by obtain ⟨m, rfl⟩ : ∃ m, k = m + n := ⟨k - n, by omega⟩; exact h m⟩
theorem ev_bindc {α β : Type} {o : Option α} {f : Nat → α → Option β} {a : α} {r : β} (h : o = some a) (k : Ev (fun n => f n a) r) : Ev (fun n => o.bind (f n)) r := by
  subst h; exact k
theorem ev_ifp {α : Type} {c : Prop} [Decidable c] {a b : Nat → Option α} {r : α} (h : c) (k : Ev a r) : Ev (fun n => if c then a n else b n) r := by
  simpa only [if_pos h] using k
theorem ev_ifn {α : Type} {c : Prop} [Decidable c] {a b : Nat → Option α} {r : α} (h : ¬ c) (k : Ev b r) : Ev (fun n => if c then a n else b n) r := by
  simpa only [if_neg h] using k
theorem spec_l1In_eq (a b c : Int) : spec_l1In.f a b c = some (decide (b ≤ a ∧ a ≤ c)) := by
  unfold spec_l1In.f
  by_cases h : a ≥ b
  · have h' : b ≤ a := h
    simp [h']
  · have h' : ¬ b ≤ a := h
    simp [h']
theorem impl_InRange_eq (a b c : Int) : impl_InRange.f a b c = some (decide (b ≤ a ∧ a ≤ c)) := by
  unfold impl_InRange.f
  by_cases h : b ≤ a <;> simp [h]
theorem rd46 (xs : List S46) (i : Nat) (h : i < xs.length) : rd_T46 xs (i : Int) = xs[i] := by simp [rd_T46, List.getD_eq_getElem?_getD, h]
theorem drop46 (xs : List S46) (i : Nat) (h : i < xs.length) : xs.drop i = rd_T46 xs (i : Int) :: xs.drop (i + 1) := by
  rw [List.drop_eq_getElem_cons h, rd46 xs i h]
def upOffer (x : S43) : S46 := ⟨x.f0, x.f1, x.f2⟩
theorem szOffer_eq (l : List S43) (c : Int) (hm : l.length ≤ maxLen) (h0 : 0 ≤ c) (h1 : c ≤ 1048576) : laws_szOfferS.f l c = some (if (l.length : Int) ≤ c then c - (l.length : Int) else (-1 : Int)) := by
  unfold maxLen at hm
  unfold laws_szOfferS.f
  rw [w64 (by omega) (by omega)]
  by_cases h : (l.length : Int) ≤ c
  · rw [if_neg (by omega), if_pos h]
  · rw [if_pos (by omega), if_neg h]
theorem rd43 (xs : List S43) (i : Nat) (h : i < xs.length) : rd_T43 xs (i : Int) = xs[i] := by simp [rd_T43, List.getD_eq_getElem?_getD, h]
theorem toOfferS_loop (xs : List S43) (hx : xs.length ≤ 1048576) (d : Nat) : ∀ (i : Nat) (ys : List S46), ys.length = xs.length → i + d = xs.length → ys.take i = (xs.map upOffer).take i →
    Ev (fun k => laws_toOfferS.l0 k xs ys (i : Int)) (xs.map upOffer) := by
  induction d with
  | zero =>
    intro i ys hl hd ht
    apply ev_succ
    simp only [laws_toOfferS.l0]
    refine ev_ifn (by omega) (ev_some ?_)
    have h1 : ys.take i = ys := List.take_of_length_le (by omega)
    have h2 : (xs.map upOffer).take i = xs.map upOffer := List.take_of_length_le (by simp; omega)
    rw [← h1, ht, h2]
  | succ d ih =>
    intro i ys hl hd ht
    apply ev_succ
    simp only [laws_toOfferS.l0, laws_toOffer.f, Option.bind_some]
    refine ev_ifp (by omega) (ev_ifp (by omega) (ev_ifp (by omega) ?_))
    rw [w64 (by omega) (by omega)]
    have hi : i < xs.length := by omega
    have := ih (i + 1) (ys.set i (upOffer xs[i])) (by simpa using hl) (by omega) (by
      rw [List.take_succ_eq_append_getElem (l := xs.map upOffer) (by simpa using hi), List.take_succ_eq_append_getElem (l := ys.set i (upOffer xs[i])) (by simp; omega), List.getElem_set_self, List.take_set_of_le (by omega), ht]
      simp)
    simpa [rd43 xs i hi, upOffer] using this
theorem toOfferS_ev (xs : List S43) (hx : xs.length ≤ 1048576) : Ev (fun k => laws_toOfferS.f k xs) (xs.map upOffer) := by
  unfold laws_toOfferS.f
  refine ev_ifp (by omega) (ev_ifp (by omega) ?_)
  exact toOfferS_loop xs hx xs.length 0 _ (by simp) (by omega) (by simp)
theorem eqOfferS_loop (xs : List S46) (hx : xs.length ≤ 17592186044416) (d : Nat) : ∀ (i : Nat), i + d = xs.length → Ev (fun k => laws_eqOfferS.l0 k xs xs (i : Int)) true := by
  induction d with
  | zero =>
    intro i hd
    apply ev_succ
    simp only [laws_eqOfferS.l0]
    exact ev_ifn (by omega) (Ev.now _)
  | succ d ih =>
    intro i hd
    apply ev_succ
    simp only [laws_eqOfferS.l0]
    refine ev_ifp (by omega) (ev_ifp (by omega) (ev_ifp (by omega) ?_))
    rw [w64 (by omega) (by omega)]
    simpa [laws_eqOffer.f] using ih (i + 1) (by omega)
theorem eqOfferS_ev (xs : List S46) (hx : xs.length ≤ 17592186044416) : Ev (fun k => laws_eqOfferS.f k xs xs) true := by
  unfold laws_eqOfferS.f
  refine ev_ifp rfl ?_
  exact eqOfferS_loop xs hx xs.length 0 (by omega)
def elOffer (a : Int) : S46 := ⟨a, a + 1, (Int.tmod (a + 2) 3 == 0)⟩
theorem rdset46 (xs : List S46) (i : Nat) (v : S46) (h : i < xs.length) : rd_T46 (xs.set i v) (i : Int) = v := by
  rw [rd46 _ _ (by simpa using h)]
  simp
theorem markOffer_loop (n : Nat) (hn : n ≤ 1100000) (d : Nat) : ∀ (i : Nat) (xs : List S46), xs.length = n → i + d = n → ∃ ys, Ev (fun k => laws_markOfferS.l0 k xs (1 + 3 * (i : Int)) (i : Int)) (1 + 3 * (n : Int), ys) ∧ ys.length = n ∧ (∀ j : Nat, i ≤ j → j < n → ys[j]? = some (elOffer (1 + 3 * (j : Int)))) ∧ (∀ j : Nat, j < i → ys[j]? = xs[j]?) := by
  induction d with
  | zero =>
    intro i xs hl hd
    refine ⟨xs, ?_, hl, fun j h1 h2 => by omega, fun j _ => rfl⟩
    apply ev_succ
    simp only [laws_markOfferS.l0]
    refine ev_ifn (by omega) (ev_some ?_)
    rw [show (i : Int) = n by omega]
  | succ d ih =>
    intro i xs hl hd
    obtain ⟨ys, he, hy, h1, h2⟩ := ih (i + 1) (xs.set i (elOffer (1 + 3 * (i : Int)))) (by simpa using hl) (by omega)
    refine ⟨ys, ?_, hy, fun j hj hn' => ?_, fun j hj => ?_⟩
    · apply ev_succ
      have hi : i < xs.length := by omega
      have w0 : wrap64 (1 + 3 * (i : Int) + 1) = 1 + 3 * (i : Int) + 1 := by rw [w64 (by omega) (by omega)] <;> omega
      have w1 : wrap64 (1 + 3 * (i : Int) + 1 + 1) = 1 + 3 * (i : Int) + 2 := by rw [w64 (by omega) (by omega)] <;> omega
      have w2 : wrap64 (1 + 3 * (i : Int) + 2 + 1) = 1 + 3 * (i : Int) + 3 := by rw [w64 (by omega) (by omega)] <;> omega
      simp only [laws_markOfferS.l0, Option.bind_some, Int.toNat_natCast, rdset46 _ _ _ hi, List.set_set, List.length_set, w0, w1, w2]
      have w' : wrap64 ((i : Int) + 1) = ((i + 1 : Nat) : Int) := by rw [w64 (by omega) (by omega)]; simp
      rw [w']
      refine ev_ifp (by omega) (ev_ifp (by omega) ?_)
      have e : 1 + 3 * ((i + 1 : Nat) : Int) = 1 + 3 * (i : Int) + 3 := by omega
      rw [e] at he
      simpa [elOffer, Int.add_assoc, Int.mul_comm] using he
    · by_cases hji : j = i
      · subst hji
        rw [h2 j (by omega)]
        simp [show j < xs.length by omega]
      · exact h1 j (by omega) hn'
    · rw [h2 j (by omega), List.getElem?_set_ne (by omega)]
theorem heldOffer_loop (ys : List S46) (n : Nat) (hn : n ≤ 1100000) (hl : ys.length = n) (h : ∀ j : Nat, j < n → ys[j]? = some (elOffer (1 + 3 * (j : Int)))) (d : Nat) : ∀ i : Nat, i + d = n → Ev (fun k => laws_heldOfferS.l0 k ys (1 + 3 * (i : Int)) (i : Int)) (1 + 3 * (n : Int)) := by
  induction d with
  | zero =>
    intro i hd
    apply ev_succ
    simp only [laws_heldOfferS.l0]
    refine ev_ifn (by omega) (ev_some ?_)
    rw [show (i : Int) = n by omega]
  | succ d ih =>
    intro i hd
    apply ev_succ
    have hr : rd_T46 ys (i : Int) = elOffer (1 + 3 * (i : Int)) := by
      rw [rd46 ys i (by omega)]
      have := h i (by omega)
      rw [List.getElem?_eq_getElem (by omega)] at this
      exact Option.some.inj this
    have w0 : wrap64 (1 + 3 * (i : Int) + 1) = 1 + 3 * (i : Int) + 1 := by rw [w64 (by omega) (by omega)] <;> omega
    have w1 : wrap64 (1 + 3 * (i : Int) + 1 + 1) = 1 + 3 * (i : Int) + 2 := by rw [w64 (by omega) (by omega)] <;> omega
    have w2 : wrap64 (1 + 3 * (i : Int) + 2 + 1) = 1 + 3 * (i : Int) + 3 := by rw [w64 (by omega) (by omega)] <;> omega
    have he := ih (i + 1) (by omega)
    have e : 1 + 3 * ((i + 1 : Nat) : Int) = 1 + 3 * (i : Int) + 3 := by omega
    rw [e] at he
    have w' : wrap64 ((i : Int) + 1) = ((i + 1 : Nat) : Int) := by rw [w64 (by omega) (by omega)]; simp
    simp only [laws_heldOfferS.l0, hr, elOffer, w0, w1, w2, w']
    refine ev_ifp (by omega) (ev_ifp (by omega) ?_)
    simpa [Int.add_assoc] using he
theorem markOffer_ev (xs : List S46) (hx : xs.length ≤ 1100000) : ∃ m ys, Ev (fun k => laws_markOfferS.f k xs 1) (m, ys) ∧ 0 ≤ m ∧ Ev (fun k => laws_heldOfferS.f k ys 1) m := by
  obtain ⟨ys, he, hy, h1, h2⟩ := markOffer_loop xs.length hx xs.length 0 xs rfl (by omega)
  refine ⟨1 + 3 * (xs.length : Int), ys, ?_, by omega, ?_⟩
  · unfold laws_markOfferS.f
    simpa using he
  · unfold laws_heldOfferS.f
    simpa using heldOffer_loop ys xs.length hx hy (fun j hj => h1 j (by omega) hj) xs.length 0 (by omega)
def slotG (a b c : Int) : Bool := decide (1 ≤ a ∧ a ≤ 99) && decide (1 ≤ b ∧ b ≤ 1000) && decide (0 ≤ c ∧ c ≤ wrap64 (b + 15))
def mayG (a b c d : Int) : Bool := slotG a b c && decide (60 ≤ d ∧ d ≤ wrap64 (b - 60))
theorem spec_IsSlot_eq (a b c : Int) : spec_IsSlot.f a b c = some (slotG a b c) := by
  simp only [spec_IsSlot.f, spec_l1In_eq, Option.bind_some, slotG]
  by_cases h1 : 1 ≤ a ∧ a ≤ 99
  · by_cases h2 : 1 ≤ b ∧ b ≤ 1000 <;> simp [h1, h2]
  · simp [h1]
theorem spec_MayOffer_eq (a b c d : Int) : spec_MayOffer.f a b c d = some (mayG a b c d) := by
  simp only [spec_MayOffer.f, spec_IsSlot_eq, Option.bind_some, mayG]
  cases h1 : slotG a b c
  · simp
  · by_cases h4 : d ≥ 60
    · have h4' : 60 ≤ d := h4
      simp [h4']
    · have h4' : ¬ 60 ≤ d := h4
      simp [h4']
theorem impl_IsSlot_eq (a b c : Int) : impl_IsSlot.f a b c = some (slotG a b c) := by
  simp only [impl_IsSlot.f, impl_InRange_eq, Option.bind_some, slotG]
  by_cases h1 : 1 ≤ a ∧ a ≤ 99
  · by_cases h2 : 1 ≤ b ∧ b ≤ 1000 <;> simp [h1, h2]
  · simp [h1]
theorem impl_MayOffer_eq (a b c d : Int) : impl_MayOffer.f a b c d = some (mayG a b c d) := by
  simp only [impl_MayOffer.f, impl_IsSlot_eq, impl_InRange_eq, Option.bind_some, mayG]
  cases h1 : slotG a b c <;> simp
def offOk (a b c : Int) (xs : List S46) (i : Nat) (x : S46) : Bool :=
  mayG a b c x.f0 && (decide (i = 0) || decide ((rd_T46 xs ((i : Int) - 1)).f0 < x.f0)) && decide (1 ≤ x.f1 ∧ x.f1 ≤ 99) && decide (x.f1 ≠ a)
def offG (a b c : Int) (xs : List S46) : List S46 → Nat → Int → Option Int
  | [], _, n => some n
  | x :: ys, i, n => if offOk a b c xs i x = true then offG a b c xs ys (i + 1) (if x.f2 = true then n + 1 else n) else none
def offersG (a b c : Int) (xs : List S46) : Bool := slotG a b c && decide (xs.length ≤ 20) && (match offG a b c xs xs 0 0 with | some n => decide (n ≤ 2) | none => false)
theorem spec_off_loop (a b c : Int) (xs : List S46) (hx : xs.length ≤ 1100000) (d : Nat) : ∀ (i : Nat) (n : Int), i + d = xs.length → 0 ≤ n → n ≤ i →
    Ev (fun k => spec_AreOffers.l0 k xs n (i : Int) a b c) (match offG a b c xs (xs.drop i) i n with | some m => slotG a b c && decide (xs.length ≤ 20) && decide (m ≤ 2) | none => false) := by
  induction d with
  | zero =>
    intro i n hd hn0 hn1
    apply ev_succ
    simp only [spec_AreOffers.l0, spec_IsSlot_eq, Option.bind_some]
    rw [List.drop_eq_nil_of_le (by omega)]
    simp only [offG]
    refine ev_ifn (by omega) ?_
    by_cases h1 : slotG a b c = true
    · refine ev_ifp h1 ?_
      by_cases h2 : (xs.length : Int) ≤ 20
      · have h2' : xs.length ≤ 20 := by omega
        exact ev_ifp h2 (ev_some (by simp [h1, h2']))
      · have h2' : ¬ xs.length ≤ 20 := by omega
        exact ev_ifn h2 (ev_some (by simp [h2']))
    · exact ev_ifn h1 (ev_some (by simp [h1]))
  | succ d ih =>
    intro i n hd hn0 hn1
    rw [drop46 xs i (by omega)]
    have e1 : wrap64 ((i : Int) + 1) = ((i + 1 : Nat) : Int) := by rw [w64 (by omega) (by omega)]; simp
    have e2 : wrap64 ((i : Int) - 1) = (i : Int) - 1 := w64 (by omega) (by omega)
    have e3 : wrap64 (n + 1) = n + 1 := w64 (by omega) (by omega)
    have hbad : ∀ v : Bool, v = true → Ev (fun k => spec_AreOffers.j1 k xs n (i : Int) v a b c) false := by
      intro v hv
      apply ev_succ
      simp only [spec_AreOffers.j1, hv, if_true]
      exact Ev.now _
    have hgood : ∀ v : Bool, v = false → Ev (fun k => spec_AreOffers.j1 k xs n (i : Int) v a b c) (match offG a b c xs (xs.drop (i + 1)) (i + 1) (if (rd_T46 xs (i : Int)).f2 = true then n + 1 else n) with | some m => slotG a b c && decide (xs.length ≤ 20) && decide (m ≤ 2) | none => false) := by
      intro v hv
      apply ev_succ
      simp only [spec_AreOffers.j1, hv, Bool.false_eq_true, if_false, e1, e3]
      refine ev_ifp (by omega) (ev_ifp (by omega) ?_)
      by_cases h : (rd_T46 xs (i : Int)).f2 = true
      · rw [if_pos h]
        exact ev_ifp h (ih (i + 1) (n + 1) (by omega) (by omega) (by omega))
      · rw [if_neg h]
        exact ev_ifn h (ih (i + 1) n (by omega) (by omega) (by omega))
    have key : ∀ (v : Bool), (v = true → offOk a b c xs i (rd_T46 xs (i : Int)) = false) → (v = false → offOk a b c xs i (rd_T46 xs (i : Int)) = true) →
        Ev (fun k => spec_AreOffers.j1 k xs n (i : Int) v a b c) (match offG a b c xs (rd_T46 xs (i : Int) :: xs.drop (i + 1)) i n with | some m => slotG a b c && decide (xs.length ≤ 20) && decide (m ≤ 2) | none => false) := by
      intro v h1 h2
      unfold offG
      cases v
      · rw [if_pos (h2 rfl)]
        exact hgood false rfl
      · rw [if_neg (by simp [h1 rfl])]
        exact hbad true rfl
    apply ev_succ
    simp only [spec_AreOffers.l0, spec_MayOffer_eq, spec_l1In_eq, Option.bind_some, e2]
    refine ev_ifp (by omega) (ev_ifp (by omega) ?_)
    revert key
    generalize rd_T46 xs (i : Int) = x
    intro key
    by_cases h1 : mayG a b c x.f0 = true
    · refine ev_ifp h1 ?_
      by_cases h0 : (i : Int) > 0
      · have h0' : ¬ i = 0 := by omega
        refine ev_ifp h0 (ev_ifp (by omega) (ev_ifp (by omega) ?_))
        by_cases h3 : (rd_T46 xs ((i : Int) - 1)).f0 ≥ x.f0
        · have h3' : ¬ (rd_T46 xs ((i : Int) - 1)).f0 < x.f0 := by omega
          exact ev_ifp h3 (key true (fun _ => by simp [offOk, h0', h3']) (fun h => by cases h))
        · have h3' : (rd_T46 xs ((i : Int) - 1)).f0 < x.f0 := by omega
          refine ev_ifn h3 ?_
          by_cases h4 : 1 ≤ x.f1 ∧ x.f1 ≤ 99
          · exact ev_ifp (by simpa using h4) (key _ (fun h => by simp at h; simp [offOk, h]) (fun h => by simp at h; simp [offOk, h1, h3', h4, h]))
          · exact ev_ifn (by simpa using h4) (key true (fun _ => by simp [offOk, h4]) (fun h => by cases h))
      · have h0' : i = 0 := by omega
        refine ev_ifn h0 ?_
        by_cases h4 : 1 ≤ x.f1 ∧ x.f1 ≤ 99
        · exact ev_ifp (by simpa using h4) (key _ (fun h => by simp at h; simp [offOk, h]) (fun h => by simp at h; simp [offOk, h1, h0', h4, h]))
        · exact ev_ifn (by simpa using h4) (key true (fun _ => by simp [offOk, h4]) (fun h => by cases h))
    · exact ev_ifn h1 (key true (fun _ => by simp [offOk, h1]) (fun h => by cases h))
theorem spec_AreOffers_ev (a b c : Int) (xs : List S46) (hx : xs.length ≤ 1100000) : Ev (fun k => spec_AreOffers.f k a b c xs) (offersG a b c xs) := by
  unfold spec_AreOffers.f offersG
  have := spec_off_loop a b c xs hx xs.length 0 0 (by omega) (by omega) (by omega)
  simp only [List.drop_zero] at this
  revert this
  cases offG a b c xs xs 0 0 <;> simp
theorem impl_off_loop (a b c : Int) (xs : List S46) (hx : xs.length ≤ 1100000) (d : Nat) : ∀ (i : Nat) (n : Int), i + d = xs.length → 0 ≤ n → n ≤ i →
    Ev (fun k => impl_AreOffers.l0 k xs n xs (xs.length : Int) (i : Int) a b c) (match offG a b c xs (xs.drop i) i n with | some m => decide (m ≤ 2) | none => false) := by
  induction d with
  | zero =>
    intro i n hd hn0 hn1
    apply ev_succ
    simp only [impl_AreOffers.l0]
    rw [List.drop_eq_nil_of_le (by omega)]
    simp only [offG]
    exact ev_ifn (by omega) (Ev.now _)
  | succ d ih =>
    intro i n hd hn0 hn1
    rw [drop46 xs i (by omega)]
    have e1 : wrap64 ((i : Int) + 1) = ((i + 1 : Nat) : Int) := by rw [w64 (by omega) (by omega)]; simp
    have e2 : wrap64 ((i : Int) - 1) = (i : Int) - 1 := w64 (by omega) (by omega)
    have e3 : wrap64 (n + 1) = n + 1 := w64 (by omega) (by omega)
    have key : ∀ (v : Bool) (x : S46), (v = true → offOk a b c xs i x = false) → (v = false → offOk a b c xs i x = true) →
        Ev (fun k => impl_AreOffers.j2 k xs n xs (xs.length : Int) (i : Int) v a b c x.f0 x.f1 x.f2) (match offG a b c xs (x :: xs.drop (i + 1)) i n with | some m => decide (m ≤ 2) | none => false) := by
      intro v x h1 h2
      unfold offG
      cases v
      · rw [if_pos (h2 rfl)]
        apply ev_succ
        simp only [impl_AreOffers.j2, Bool.false_eq_true, if_false, e1, e3]
        by_cases h : x.f2 = true
        · rw [if_pos h]
          exact ev_ifp h (ih (i + 1) (n + 1) (by omega) (by omega) (by omega))
        · rw [if_neg h]
          exact ev_ifn h (ih (i + 1) n (by omega) (by omega) (by omega))
      · rw [if_neg (by simp [h1 rfl])]
        apply ev_succ
        simp only [impl_AreOffers.j2, if_true]
        exact Ev.now _
    apply ev_succ
    simp only [impl_AreOffers.l0, impl_MayOffer_eq, impl_InRange_eq, Option.bind_some, e2]
    refine ev_ifp (by omega) (ev_ifp (by omega) (ev_ifp (by omega) ?_))
    generalize rd_T46 xs (i : Int) = x
    by_cases h1 : mayG a b c x.f0 = true
    · refine ev_ifp h1 ?_
      by_cases h0 : (i : Int) > 0
      · have h0' : ¬ i = 0 := by omega
        refine ev_ifp h0 (ev_ifp (by omega) (ev_ifp (by omega) ?_))
        by_cases h3 : x.f0 ≤ (rd_T46 xs ((i : Int) - 1)).f0
        · have h3' : ¬ (rd_T46 xs ((i : Int) - 1)).f0 < x.f0 := by omega
          exact ev_ifp h3 (key true x (fun _ => by simp [offOk, h0', h3']) (fun h => by cases h))
        · have h3' : (rd_T46 xs ((i : Int) - 1)).f0 < x.f0 := by omega
          refine ev_ifn h3 ?_
          by_cases h4 : 1 ≤ x.f1 ∧ x.f1 ≤ 99
          · exact ev_ifp (by simpa using h4) (key _ x (fun h => by simp at h; simp [offOk, h]) (fun h => by simp at h; simp [offOk, h1, h3', h4, h]))
          · exact ev_ifn (by simpa using h4) (key true x (fun _ => by simp [offOk, h4]) (fun h => by cases h))
      · have h0' : i = 0 := by omega
        refine ev_ifn h0 ?_
        by_cases h4 : 1 ≤ x.f1 ∧ x.f1 ≤ 99
        · exact ev_ifp (by simpa using h4) (key _ x (fun h => by simp at h; simp [offOk, h]) (fun h => by simp at h; simp [offOk, h1, h0', h4, h]))
        · exact ev_ifn (by simpa using h4) (key true x (fun _ => by simp [offOk, h4]) (fun h => by cases h))
    · exact ev_ifn h1 (key true x (fun _ => by simp [offOk, h1]) (fun h => by cases h))
theorem impl_AreOffers_ev (a b c : Int) (xs : List S46) (hx : xs.length ≤ 1100000) : Ev (fun k => impl_AreOffers.f k a b c xs) (offersG a b c xs) := by
  unfold impl_AreOffers.f offersG
  rw [impl_IsSlot_eq]
  simp only [Option.bind_some]
  by_cases h1 : slotG a b c = true
  · refine ev_ifp h1 ?_
    apply ev_succ
    simp only [impl_AreOffers.j0]
    by_cases h2 : xs.length ≤ 20
    · refine ev_ifn (by simp; omega) ?_
      have := impl_off_loop a b c xs hx xs.length 0 0 (by omega) (by omega) (by omega)
      simp only [List.drop_zero] at this
      simpa [h1, h2] using this
    · exact ev_ifp (by simp; omega) (ev_some (by simp [h2]))
  · refine ev_ifn h1 ?_
    apply ev_succ
    simp only [impl_AreOffers.j0, if_true]
    exact ev_some (by simp [h1])
def makG (a b c : Int) (l : List S46) (x : S46) : List S46 × Bool := if offersG a b c (l ++ [x]) = true then (l ++ [x], true) else (l, false)
theorem makG_len (a b c : Int) (l : List S46) (x : S46) : (makG a b c l x).1.length ≤ l.length + 1 := by
  unfold makG
  split <;> simp
theorem spec_MakeOffer_ev (a b c : Int) (l : List S46) (x y : Int) (z : Bool) (hl : l.length ≤ 1048576) : Ev (fun k => spec_MakeOffer.f k a b c l x y z) (makG a b c l ⟨x, y, z⟩) := by
  unfold spec_MakeOffer.f makG
  simp only [Option.bind_some, List.nil_append, List.length_nil, List.length_singleton]
  refine ev_ifp (by omega) (ev_ifp (by omega) (Ev.bind (spec_AreOffers_ev a b c _ (by simp; omega)) ?_))
  by_cases h : offersG a b c (l ++ [⟨x, y, z⟩]) = true
  · exact ev_ifp h (ev_some (if_pos h).symm)
  · exact ev_ifn h (ev_ifp (by omega) (ev_some (if_neg h).symm))
theorem impl_Offer_eq (l : List S46) (hl : l.length ≤ 1048576) : impl_Offer.f l = some l := by
  unfold impl_Offer.f
  simp only [Option.bind_some, List.nil_append, List.length_nil]
  rw [if_pos (by omega)]
theorem impl_MakeOffer_ev (a b c : Int) (l : List S46) (x y : Int) (z : Bool) (hl : l.length ≤ 1048576) : Ev (fun k => impl_MakeOffer.f k a b c l x y z) (makG a b c l ⟨x, y, z⟩) := by
  unfold impl_MakeOffer.f makG
  rw [impl_Offer_eq l hl]
  simp only [Option.bind_some, List.length_singleton]
  refine ev_ifp (by omega) (Ev.bind (impl_AreOffers_ev a b c _ (by simp; omega)) ?_)
  by_cases h : offersG a b c (l ++ [⟨x, y, z⟩]) = true
  · exact ev_ifp h (ev_some (if_pos h).symm)
  · exact ev_ifn h (ev_some (if_neg h).symm)
def laws_FnExactMakeOffer.Pure : Prop := ∀ (a0_0 : Int) (a0_1 : Int) (a0_2 : Int) (l1 : List (S43)) (a2_0 : Int) (a2_1 : Int) (a2_2 : Bool), ((Lit.int .i64 a0_0).wf = true) → ((Lit.int .i64 a0_1).wf = true) → ((Lit.int .i64 a0_2).wf = true) → (l1.length ≤ maxLen ∧ ∀ y28 ∈ l1, ((Lit.int .i64 y28.f0).wf = true) ∧ ((Lit.int .i64 y28.f1).wf = true) ∧ (True)) → ((Lit.int .i64 a2_0).wf = true) → ((Lit.int .i64 a2_1).wf = true) → ∃ k, laws_FnExactMakeOffer.f k a0_0 a0_1 a0_2 l1 a2_0 a2_1 a2_2 = some true
theorem FnExactMakeOffer : laws_FnExactMakeOffer.Pure := by
  intro a b c l x y z _ _ _ hg _ _
  apply Ev.rounds
  unfold laws_FnExactMakeOffer.f
  rw [szOffer_eq l _ hg.1 (by omega) (by omega)]
  simp only [Option.bind_some, laws_toSlot.f, laws_toOffer.f]
  by_cases h : (l.length : Int) ≤ 1048576
  · rw [if_pos h]
    refine ev_ifn (by omega) ?_
    have ht := toOfferS_ev l (by omega)
    have hlen : (l.map upOffer).length = l.length := by simp
    have he := eqOfferS_ev (l.map upOffer) (by omega)
    have hs := spec_MakeOffer_ev a b c (l.map upOffer) x y z (by omega)
    have hi := impl_MakeOffer_ev a b c (l.map upOffer) x y z (by omega)
    have hgl := makG_len a b c (l.map upOffer) ⟨x, y, z⟩
    generalize makG a b c (l.map upOffer) ⟨x, y, z⟩ = r at hs hi hgl
    have hq := eqOfferS_ev r.1 (by omega)
    obtain ⟨m, ys, hm, hm0, hh⟩ := markOffer_ev r.1 (by omega)
    obtain ⟨m2, ys2, hm2, hm20, _⟩ := markOffer_ev (l.map upOffer) (by omega)
    refine Ev.bind ht (Ev.bind hs (Ev.bind ht (Ev.bind hi (Ev.bind hq (ev_ifp rfl ?_)))))
    apply ev_succ
    simp only [laws_FnExactMakeOffer.j0, bne_self_eq_false, Bool.false_eq_true, if_false]
    refine Ev.bind ht (Ev.bind he (ev_ifp rfl (Ev.bind hm2 (ev_ifn (by simpa using hm20) (Ev.bind hq (ev_ifp rfl ?_))))))
    apply ev_succ
    simp only [laws_FnExactMakeOffer.j1, Bool.false_eq_true, if_false, laws_toSlot.f, laws_toOffer.f, Option.bind_some]
    refine Ev.bind hm (Ev.bind hh (ev_ifn (by omega) (ev_ifp rfl (Ev.bind ht (Ev.bind hi (Ev.bind hq (ev_ifp rfl ?_)))))))
    apply ev_succ
    simp only [laws_FnExactMakeOffer.j2, bne_self_eq_false, Bool.false_eq_true, if_false]
    exact Ev.bind hh (ev_ifn (by omega) (ev_ifp rfl (Ev.now _)))
  · rw [if_neg h]
    exact ev_ifp (by omega) (Ev.now _)

end Go.Proofs.Ytimikonnmcgljaa.Pure
