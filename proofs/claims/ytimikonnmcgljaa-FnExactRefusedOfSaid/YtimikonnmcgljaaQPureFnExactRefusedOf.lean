/- The program's RefusedOf answers what the reference's answers, for all arguments.
No condition: for every input. -/
import Derived.Test.YtimikonnmcgljaaQFnExactRefusedOfx12
import Derived.Lib.SlicesCompact
set_option linter.unusedVariables false
set_option linter.unusedSimpArgs false
set_option maxHeartbeats 1000000
namespace Go.Proofs.Ytimikonnmcgljaa.Pure
open Go.RowKit Go.Proofs.Ytimikonnmcgljaa.QFnExactRefusedOf Go.Proofs.YtimikonnmcgljaaW.PrintWords Go.Proofs.YtimikonnmcgljaaW.PrintLast

theorem w64 {x : Int} (h1 : -9223372036854775808 ≤ x) (h2 : x ≤ 9223372036854775807) : wrap64 x = x := by unfold wrap64; omega
theorem wf64 {x : Int} (h : (Lit.int .i64 x).wf = true) : -9223372036854775808 ≤ x ∧ x ≤ 9223372036854775807 := by
  simp only [Lit.wf, Bool.and_eq_true, decide_eq_true_eq] at h
  have e1 : IntKind.min .i64 = -9223372036854775808 := by decide
  have e2 : IntKind.max .i64 = 9223372036854775807 := by decide
  omega
theorem wfu8 {x : Int} (h : (Lit.int .u8 x).wf = true) : 0 ≤ x ∧ x ≤ 255 := by
  simp only [Lit.wf, Bool.and_eq_true, decide_eq_true_eq] at h
  have e1 : IntKind.min .u8 = 0 := by decide
  have e2 : IntKind.max .u8 = 255 := by decide
  omega
theorem ev_succ {α : Type} {g : Nat → Option α} {r : α} (h : Ev (fun k => g (k + 1)) r) : Ev g r := Ev.step (fun _ => rfl) h
theorem ev_some {α : Type} {r s : α} (h : r = s) : Ev (fun _ => some r) s := by subst h; exact Ev.now r
theorem ev_fix {α : Type} {o : Option α} {r : α} (h : o = some r) : Ev (fun _ => o) r := ⟨0, fun _ _ => h⟩
theorem ev_at {α : Type} {g : Nat → Option α} {r : α} (n : Nat) (h : ∀ k, g (k + n) = some r) : Ev g r :=
  ⟨n, fun k hk => by obtain ⟨m, rfl⟩ : ∃ m, k = m + n := ⟨k - n, by omega⟩; exact h m⟩
theorem ev_bindc {α β : Type} {o : Option α} {f : Nat → α → Option β} {a : α} {r : β} (h : o = some a) (k : Ev (fun n => f n a) r) : Ev (fun n => o.bind (f n)) r := by
  subst h; exact k
theorem ev_ifp {α : Type} {c : Prop} [Decidable c] {a b : Nat → Option α} {r : α} (h : c) (k : Ev a r) : Ev (fun n => if c then a n else b n) r := by
  simpa only [if_pos h] using k
theorem ev_ifn {α : Type} {c : Prop} [Decidable c] {a b : Nat → Option α} {r : α} (h : ¬ c) (k : Ev b r) : Ev (fun n => if c then a n else b n) r := by
  simpa only [if_neg h] using k
theorem eqIntS_loop (xs : List Int) (hx : xs.length ≤ 17592186044416) (d : Nat) : ∀ (i : Nat), i + d = xs.length → Ev (fun k => laws_eqIntS.l0 k xs xs (i : Int)) true := by
  induction d with
  | zero =>
    intro i hd
    apply ev_succ
    simp only [laws_eqIntS.l0]
    refine ev_ifn (by omega) ?_
    exact Ev.now _
  | succ d ih =>
    intro i hd
    apply ev_succ
    simp only [laws_eqIntS.l0]
    refine ev_ifp (by omega) (ev_ifp (by omega) (ev_ifp (by omega) ?_))
    rw [w64 (by omega) (by omega)]
    simpa using ih (i + 1) (by omega)
theorem eqIntS_ev (xs : List Int) (hx : xs.length ≤ 17592186044416) : Ev (fun k => laws_eqIntS.f k xs xs) true := by
  unfold laws_eqIntS.f
  refine ev_ifp rfl ?_
  exact eqIntS_loop xs hx xs.length 0 (by omega)
theorem markInt_loop (n : Nat) (hn : n ≤ 1100000) (a : Int) (h0 : 0 ≤ a) (h1 : a ≤ 1000000000000) (d : Nat) : ∀ (i : Nat) (xs : List Int), xs.length = n → i + d = n → ∃ ys : List Int, Ev (fun k => laws_markIntS.l0 k xs (a + (i : Int)) (i : Int)) (a + (n : Int), ys) ∧ ys.length = n ∧ (∀ j : Nat, i ≤ j → j < n → ys[j]? = some (a + (j : Int))) ∧ (∀ j : Nat, j < i → ys[j]? = xs[j]?) := by
  induction d with
  | zero =>
    intro i xs hl hd
    refine ⟨xs, ?_, hl, fun j h1 h2 => by omega, fun j _ => rfl⟩
    apply ev_succ
    simp only [laws_markIntS.l0]
    refine ev_ifn (by omega) (ev_some ?_)
    rw [show (i : Int) = n by omega]
  | succ d ih =>
    intro i xs hl hd
    obtain ⟨ys, he, hy, h2, h3⟩ := ih (i + 1) (xs.set i (a + (i : Int))) (by simpa using hl) (by omega)
    refine ⟨ys, ?_, hy, fun j hj hn' => ?_, fun j hj => ?_⟩
    · apply ev_succ
      have w0 : wrap64 (a + (i : Int) + 1) = a + ((i + 1 : Nat) : Int) := by rw [w64 (by omega) (by omega)]; omega
      have w' : wrap64 ((i : Int) + 1) = ((i + 1 : Nat) : Int) := by rw [w64 (by omega) (by omega)]; simp
      simp only [laws_markIntS.l0, Int.toNat_natCast, w0, w']
      exact ev_ifp (by omega) (ev_ifp (by omega) he)
    · by_cases hji : j = i
      · subst hji
        rw [h3 j (by omega)]
        simp [show j < xs.length by omega]
      · exact h2 j (by omega) hn'
    · rw [h3 j (by omega), List.getElem?_set_ne (by omega)]
theorem markInt_at (xs : List Int) (hx : xs.length ≤ 1100000) (a : Int) (h0 : 0 ≤ a) (h1 : a ≤ 1000000000000) : ∃ ys, Ev (fun k => laws_markIntS.f k xs a) (a + (xs.length : Int), ys) ∧ ys.length = xs.length ∧ ∀ j : Nat, j < xs.length → ys[j]? = some (a + (j : Int)) := by
  obtain ⟨ys, he, hy, h2, h3⟩ := markInt_loop xs.length hx a h0 h1 xs.length 0 xs rfl (by omega)
  refine ⟨ys, ?_, hy, fun j hj => h2 j (by omega) hj⟩
  unfold laws_markIntS.f
  simpa using he
theorem heldInt_loop (ys : List Int) (n : Nat) (hn : n ≤ 1100000) (a : Int) (h0 : 0 ≤ a) (h1 : a ≤ 1000000000000) (hl : ys.length = n) (h : ∀ j : Nat, j < n → ys[j]? = some (a + (j : Int))) (d : Nat) : ∀ i : Nat, i + d = n → Ev (fun k => laws_heldIntS.l0 k ys (a + (i : Int)) (i : Int)) (a + (n : Int)) := by
  induction d with
  | zero =>
    intro i hd
    apply ev_succ
    simp only [laws_heldIntS.l0]
    refine ev_ifn (by omega) (ev_some ?_)
    rw [show (i : Int) = n by omega]
  | succ d ih =>
    intro i hd
    apply ev_succ
    have hr : rd ys (i : Int) = a + (i : Int) := by
      have := h i (by omega)
      simp [rd, List.getD_eq_getElem?_getD, this]
    have w0 : wrap64 (a + (i : Int) + 1) = a + ((i + 1 : Nat) : Int) := by rw [w64 (by omega) (by omega)]; omega
    have w' : wrap64 ((i : Int) + 1) = ((i + 1 : Nat) : Int) := by rw [w64 (by omega) (by omega)]; simp
    simp only [laws_heldIntS.l0, w0, w']
    exact ev_ifp (by omega) (ev_ifp (by omega) (ev_ifp hr (ih (i + 1) (by omega))))
theorem markInt_ev (xs : List Int) (hx : xs.length ≤ 1100000) : ∃ m ys, Ev (fun k => laws_markIntS.f k xs 1) (m, ys) ∧ 0 ≤ m ∧ Ev (fun k => laws_heldIntS.f k ys 1) m := by
  obtain ⟨ys, he, hy, h2⟩ := markInt_at xs hx 1 (by omega) (by omega)
  refine ⟨1 + (xs.length : Int), ys, he, by omega, ?_⟩
  unfold laws_heldIntS.f
  simpa using heldInt_loop ys xs.length hx 1 (by omega) (by omega) hy h2 xs.length 0 (by omega)
theorem rd46 (xs : List S46) (i : Nat) (h : i < xs.length) : rd_T46 xs (i : Int) = xs[i] := by simp [rd_T46, List.getD_eq_getElem?_getD, h]
theorem drop46 (xs : List S46) (i : Nat) (h : i < xs.length) : xs.drop i = rd_T46 xs (i : Int) :: xs.drop (i + 1) := by
  rw [List.drop_eq_getElem_cons h, rd46 xs i h]
def upOffer (x : S43) : S46 := ⟨x.f0, x.f1, x.f2⟩
theorem szOffer_eq (l : List S43) (c : Int) (hm : l.length ≤ maxLen) (h0 : 0 ≤ c) (h1 : c ≤ 1048576) : laws_szOfferS.f l c = some (if (l.length : Int) ≤ c then c - (l.length : Int) else (-1 : Int)) := by
  unfold maxLen at hm
  unfold laws_szOfferS.f
  rw [w64 (by omega) (by omega)]
  by_cases h : (l.length : Int) ≤ c
  · rw [if_neg (by omega), if_pos h]
  · rw [if_pos (by omega), if_neg h]
theorem rd43 (xs : List S43) (i : Nat) (h : i < xs.length) : rd_T43 xs (i : Int) = xs[i] := by simp [rd_T43, List.getD_eq_getElem?_getD, h]
theorem toOfferS_loop (xs : List S43) (hx : xs.length ≤ 1048576) (d : Nat) : ∀ (i : Nat) (ys : List S46), ys.length = xs.length → i + d = xs.length → ys.take i = (xs.map upOffer).take i →
    Ev (fun k => laws_toOfferS.l0 k xs ys (i : Int)) (xs.map upOffer) := by
  induction d with
  | zero =>
    intro i ys hl hd ht
    apply ev_succ
    simp only [laws_toOfferS.l0]
    refine ev_ifn (by omega) (ev_some ?_)
    have h1 : ys.take i = ys := List.take_of_length_le (by omega)
    have h2 : (xs.map upOffer).take i = xs.map upOffer := List.take_of_length_le (by simp; omega)
    rw [← h1, ht, h2]
  | succ d ih =>
    intro i ys hl hd ht
    apply ev_succ
    simp only [laws_toOfferS.l0, laws_toOffer.f, Option.bind_some]
    refine ev_ifp (by omega) (ev_ifp (by omega) (ev_ifp (by omega) ?_))
    rw [w64 (by omega) (by omega)]
    have hi : i < xs.length := by omega
    have := ih (i + 1) (ys.set i (upOffer xs[i])) (by simpa using hl) (by omega) (by
      rw [List.take_succ_eq_append_getElem (l := xs.map upOffer) (by simpa using hi), List.take_succ_eq_append_getElem (l := ys.set i (upOffer xs[i])) (by simp; omega), List.getElem_set_self, List.take_set_of_le (by omega), ht]
      simp)
    simpa [rd43 xs i hi, upOffer] using this
theorem toOfferS_ev (xs : List S43) (hx : xs.length ≤ 1048576) : Ev (fun k => laws_toOfferS.f k xs) (xs.map upOffer) := by
  unfold laws_toOfferS.f
  refine ev_ifp (by omega) (ev_ifp (by omega) ?_)
  exact toOfferS_loop xs hx xs.length 0 _ (by simp) (by omega) (by simp)
theorem eqOfferS_loop (xs : List S46) (hx : xs.length ≤ 17592186044416) (d : Nat) : ∀ (i : Nat), i + d = xs.length → Ev (fun k => laws_eqOfferS.l0 k xs xs (i : Int)) true := by
  induction d with
  | zero =>
    intro i hd
    apply ev_succ
    simp only [laws_eqOfferS.l0]
    exact ev_ifn (by omega) (Ev.now _)
  | succ d ih =>
    intro i hd
    apply ev_succ
    simp only [laws_eqOfferS.l0]
    refine ev_ifp (by omega) (ev_ifp (by omega) (ev_ifp (by omega) ?_))
    rw [w64 (by omega) (by omega)]
    simpa [laws_eqOffer.f] using ih (i + 1) (by omega)
theorem eqOfferS_ev (xs : List S46) (hx : xs.length ≤ 17592186044416) : Ev (fun k => laws_eqOfferS.f k xs xs) true := by
  unfold laws_eqOfferS.f
  refine ev_ifp rfl ?_
  exact eqOfferS_loop xs hx xs.length 0 (by omega)
def elOffer (a : Int) : S46 := ⟨a, a + 1, (Int.tmod (a + 2) 3 == 0)⟩
theorem rdset46 (xs : List S46) (i : Nat) (v : S46) (h : i < xs.length) : rd_T46 (xs.set i v) (i : Int) = v := by
  rw [rd46 _ _ (by simpa using h)]
  simp
theorem markOffer_loop (n : Nat) (hn : n ≤ 1100000) (d : Nat) : ∀ (i : Nat) (xs : List S46), xs.length = n → i + d = n → ∃ ys, Ev (fun k => laws_markOfferS.l0 k xs (1 + 3 * (i : Int)) (i : Int)) (1 + 3 * (n : Int), ys) ∧ ys.length = n ∧ (∀ j : Nat, i ≤ j → j < n → ys[j]? = some (elOffer (1 + 3 * (j : Int)))) ∧ (∀ j : Nat, j < i → ys[j]? = xs[j]?) := by
  induction d with
  | zero =>
    intro i xs hl hd
    refine ⟨xs, ?_, hl, fun j h1 h2 => by omega, fun j _ => rfl⟩
    apply ev_succ
    simp only [laws_markOfferS.l0]
    refine ev_ifn (by omega) (ev_some ?_)
    rw [show (i : Int) = n by omega]
  | succ d ih =>
    intro i xs hl hd
    obtain ⟨ys, he, hy, h1, h2⟩ := ih (i + 1) (xs.set i (elOffer (1 + 3 * (i : Int)))) (by simpa using hl) (by omega)
    refine ⟨ys, ?_, hy, fun j hj hn' => ?_, fun j hj => ?_⟩
    · apply ev_succ
      have hi : i < xs.length := by omega
      have w0 : wrap64 (1 + 3 * (i : Int) + 1) = 1 + 3 * (i : Int) + 1 := by rw [w64 (by omega) (by omega)] <;> omega
      have w1 : wrap64 (1 + 3 * (i : Int) + 1 + 1) = 1 + 3 * (i : Int) + 2 := by rw [w64 (by omega) (by omega)] <;> omega
      have w2 : wrap64 (1 + 3 * (i : Int) + 2 + 1) = 1 + 3 * (i : Int) + 3 := by rw [w64 (by omega) (by omega)] <;> omega
      simp only [laws_markOfferS.l0, Option.bind_some, Int.toNat_natCast, rdset46 _ _ _ hi, List.set_set, List.length_set, w0, w1, w2]
      have w' : wrap64 ((i : Int) + 1) = ((i + 1 : Nat) : Int) := by rw [w64 (by omega) (by omega)]; simp
      rw [w']
      refine ev_ifp (by omega) (ev_ifp (by omega) ?_)
      have e : 1 + 3 * ((i + 1 : Nat) : Int) = 1 + 3 * (i : Int) + 3 := by omega
      rw [e] at he
      simpa [elOffer, Int.add_assoc, Int.mul_comm] using he
    · by_cases hji : j = i
      · subst hji
        rw [h2 j (by omega)]
        simp [show j < xs.length by omega]
      · exact h1 j (by omega) hn'
    · rw [h2 j (by omega), List.getElem?_set_ne (by omega)]
theorem markOffer_ev (xs : List S46) (hx : xs.length ≤ 1100000) : ∃ m ys, Ev (fun k => laws_markOfferS.f k xs 1) (m, ys) ∧ 0 ≤ m := by
  obtain ⟨ys, he, hy, h1, h2⟩ := markOffer_loop xs.length hx xs.length 0 xs rfl (by omega)
  refine ⟨1 + 3 * (xs.length : Int), ys, ?_, by omega⟩
  · unfold laws_markOfferS.f
    simpa using he
theorem up_uniq : ∀ (r s : List Int), r.Pairwise (· < ·) → s.Pairwise (· < ·) → (∀ x, x ∈ r ↔ x ∈ s) → r = s
  | [], [], _, _, _ => rfl
  | [], y :: s, _, _, h => absurd ((h y).mpr List.mem_cons_self) (by simp)
  | x :: r, [], _, _, h => absurd ((h x).mp List.mem_cons_self) (by simp)
  | x :: r, y :: s, hr, hs, h => by
    rw [List.pairwise_cons] at hr hs
    have hxy : x = y := by
      rcases List.mem_cons.mp ((h x).mp List.mem_cons_self) with e | e
      · exact e
      · rcases List.mem_cons.mp ((h y).mpr List.mem_cons_self) with e2 | e2
        · exact e2.symm
        · have h1 := hs.1 x e
          have h2 := hr.1 y e2
          omega
    subst hxy
    have := up_uniq r s hr.2 hs.2 (fun z => by
      have hz := h z
      rw [List.mem_cons, List.mem_cons] at hz
      constructor
      · intro m
        have hne : z ≠ x := by have := hr.1 z m; omega
        exact (hz.mp (.inr m)).resolve_left hne
      · intro m
        have hne : z ≠ x := by have := hs.1 z m; omega
        exact (hz.mpr (.inr m)).resolve_left hne)
    rw [this]
theorem compact_up (zs : List Int) (h : zs.Pairwise (· ≤ ·)) : (Go.Lib.compact zs).Pairwise (· < ·) ∧ ∀ x, x ∈ Go.Lib.compact zs ↔ x ∈ zs := by
  have key : ∀ m, m ≤ zs.length → (Go.Lib.compactUpTo zs.toArray m).Pairwise (· < ·) ∧ (∀ x, x ∈ Go.Lib.compactUpTo zs.toArray m ↔ x ∈ zs.take m) := by
    intro m
    induction m with
    | zero => intro _; simp [Go.Lib.compactUpTo]
    | succ m ih =>
      intro hm
      obtain ⟨h1, h2⟩ := ih (by omega)
      have hml : m < zs.length := by omega
      have em : zs.toArray[m]! = zs[m] := by simp [hml]
      rw [Go.Lib.compactUpTo_succ, List.take_succ_eq_append_getElem hml]
      by_cases hk : Go.Lib.keeps zs.toArray m = true
      · rw [if_pos hk, em]
        refine ⟨?_, fun x => by rw [List.mem_append, List.mem_append, h2]⟩
        rw [List.pairwise_append]
        refine ⟨h1, by simp, fun a ha b hb => ?_⟩
        rw [List.mem_singleton] at hb
        subst hb
        rw [h2, List.mem_iff_getElem] at ha
        obtain ⟨j, hj, rfl⟩ := ha
        rw [List.length_take] at hj
        rw [List.getElem_take]
        have hm0 : m ≠ 0 := by omega
        have ek : zs[m] ≠ zs[m - 1] := by
          have : zs.toArray[m - 1]! = zs[m - 1] := by simp [show m - 1 < zs.length by omega]
          unfold Go.Lib.keeps at hk
          rw [decide_eq_true_eq] at hk
          have := hk.resolve_left hm0
          simpa [hml, show m - 1 < zs.length by omega] using this
        rw [List.pairwise_iff_getElem] at h
        have l1 : zs[m - 1] ≤ zs[m] := h (m - 1) m (by omega) hml (by omega)
        have l2 : zs[j] ≤ zs[m - 1] := by
          by_cases e : j = m - 1
          · subst e; exact Int.le_refl _
          · exact h j (m - 1) (by omega) (by omega) (by omega)
        omega
      · rw [if_neg hk, List.append_nil]
        refine ⟨h1, fun x => ?_⟩
        rw [h2, List.mem_append, List.mem_singleton]
        constructor
        · exact .inl
        · rintro (h3 | rfl)
          · exact h3
          · unfold Go.Lib.keeps at hk
            rw [decide_eq_true_eq, not_or] at hk
            obtain ⟨hm0, he⟩ := hk
            have he2 : zs[m] = zs[m - 1] := by
              have := Classical.not_not.mp he
              simpa [hml, show m - 1 < zs.length by omega] using this
            rw [he2, List.mem_iff_getElem]
            exact ⟨m - 1, by simp; omega, by simp⟩
  have := key zs.length (Nat.le_refl _)
  rw [List.take_length] at this
  exact this
theorem sort_up (zs : List Int) : (zs.mergeSort fun x y => decide (x ≤ y)).Pairwise (· ≤ ·) := by
  have := List.pairwise_mergeSort (le := fun x y : Int => decide (x ≤ y)) (fun a b c => by simp only [decide_eq_true_eq]; omega) (fun a b => by simp only [Bool.or_eq_true, decide_eq_true_eq]; omega) zs
  exact this.imp (fun h => of_decide_eq_true h)
theorem compact_sort (zs r : List Int) (h : r.Pairwise (· < ·)) (hm : ∀ x, x ∈ r ↔ x ∈ zs) : Go.Lib.compact (zs.mergeSort fun x y => decide (x ≤ y)) = r := by
  obtain ⟨h1, h2⟩ := compact_up _ (sort_up zs)
  exact up_uniq _ _ h1 h (fun x => by rw [h2, List.mem_mergeSort, hm])
def laws_FnExactRefusedOf.Pure : Prop := ∀ (l0 : List (S43)), (l0.length ≤ maxLen ∧ ∀ y28 ∈ l0, ((Lit.int .i64 y28.f0).wf = true) ∧ ((Lit.int .i64 y28.f1).wf = true) ∧ (True)) → ∃ k, laws_FnExactRefusedOf.f k l0 = some true
theorem taken_both (xs : List S46) (w : Int) (hx : xs.length ≤ 1048576) (d : Nat) : ∀ (i : Nat) (n : Int), i + d = xs.length →
    ∃ r, Ev (fun k => spec_TakenFrom.l0 k xs w n (i : Int)) r ∧ Ev (fun k => impl_TakenFrom.l0 k w n xs (xs.length : Int) (i : Int)) r := by
  induction d with
  | zero =>
    intro i n hd
    refine ⟨n, ?_, ?_⟩
    · apply ev_succ
      simp only [spec_TakenFrom.l0]
      exact ev_ifn (by omega) (Ev.now _)
    · apply ev_succ
      simp only [impl_TakenFrom.l0]
      exact ev_ifn (by omega) (Ev.now _)
  | succ d ih =>
    intro i n hd
    have e1 : wrap64 ((i : Int) + 1) = ((i + 1 : Nat) : Int) := by rw [w64 (by omega) (by omega)]; simp
    by_cases h1 : (rd_T46 xs (i : Int)).f1 = w
    · by_cases h2 : (rd_T46 xs (i : Int)).f2 = true
      · obtain ⟨r, hs, hi⟩ := ih (i + 1) (wrap64 (n + 1)) (by omega)
        refine ⟨r, ?_, ?_⟩
        · apply ev_succ
          simp only [spec_TakenFrom.l0]
          rw [e1]
          exact ev_ifp (by omega) (ev_ifp (by omega) (ev_ifp h1 (ev_ifp h2 hs)))
        · apply ev_succ
          simp only [impl_TakenFrom.l0]
          rw [e1]
          exact ev_ifp (by omega) (ev_ifp (by omega) (ev_ifp (by omega) (ev_ifp h1 (ev_ifp h2 hi))))
      · obtain ⟨r, hs, hi⟩ := ih (i + 1) n (by omega)
        refine ⟨r, ?_, ?_⟩
        · apply ev_succ
          simp only [spec_TakenFrom.l0]
          rw [e1]
          exact ev_ifp (by omega) (ev_ifp (by omega) (ev_ifp h1 (ev_ifn h2 hs)))
        · apply ev_succ
          simp only [impl_TakenFrom.l0]
          rw [e1]
          exact ev_ifp (by omega) (ev_ifp (by omega) (ev_ifp (by omega) (ev_ifp h1 (ev_ifn h2 hi))))
    · obtain ⟨r, hs, hi⟩ := ih (i + 1) n (by omega)
      refine ⟨r, ?_, ?_⟩
      · apply ev_succ
        simp only [spec_TakenFrom.l0]
        rw [e1]
        exact ev_ifp (by omega) (ev_ifp (by omega) (ev_ifn h1 hs))
      · apply ev_succ
        simp only [impl_TakenFrom.l0]
        rw [e1]
        exact ev_ifp (by omega) (ev_ifp (by omega) (ev_ifp (by omega) (ev_ifn h1 hi)))
theorem ins_ok (xs : List Int) (n : Int) (i : Nat) (hs : xs.Pairwise (· < ·)) (h1 : ∀ x, x ∈ xs.take i → x < n) (h2 : ∀ x, x ∈ xs.drop i → n < x) :
    (([] ++ xs.take i) ++ [n] ++ xs.drop i).Pairwise (· < ·) ∧ (∀ x, x ∈ (([] ++ xs.take i) ++ [n] ++ xs.drop i) ↔ x = n ∨ x ∈ xs) ∧ (([] ++ xs.take i) ++ [n] ++ xs.drop i).length ≤ xs.length + 1 := by
  refine ⟨?_, fun x => ?_, by simp; omega⟩
  · rw [List.nil_append, List.append_assoc, List.pairwise_append]
    have hd : (xs.take i ++ xs.drop i).Pairwise (· < ·) := by rw [List.take_append_drop]; exact hs
    rw [List.pairwise_append] at hd
    refine ⟨hd.1, ?_, fun a ha b hb => ?_⟩
    · show (n :: xs.drop i).Pairwise (· < ·)
      exact List.pairwise_cons.mpr ⟨h2, hd.2.1⟩
    · rcases List.mem_cons.mp (show b ∈ n :: xs.drop i from hb) with rfl | hb
      · exact h1 a ha
      · exact hd.2.2 a ha b hb
  · have e : x ∈ xs ↔ x ∈ xs.take i ∨ x ∈ xs.drop i := by rw [← List.mem_append, List.take_append_drop]
    rw [e]
    simp only [List.nil_append, List.mem_append, List.mem_singleton]
    constructor
    · rintro ((h | h) | h)
      · exact .inr (.inl h)
      · exact .inl h
      · exact .inr (.inr h)
    · rintro (h | h | h)
      · exact .inl (.inr h)
      · exact .inl (.inl h)
      · exact .inr h
theorem rd_at (xs : List Int) (i : Nat) (h : i < xs.length) : rd xs (i : Int) = xs[i] := by
  unfold rd
  simp [h]
theorem put_ev (xs : List Int) (n : Int) (hs : xs.Pairwise (· < ·)) (hx : xs.length ≤ 1048576) (d : Nat) : ∀ (i : Nat), i + d = xs.length → (∀ x, x ∈ xs.take i → x < n) →
    ∃ r, Ev (fun k => spec_l10Put.l0 k xs n (i : Int)) r ∧ r.Pairwise (· < ·) ∧ (∀ x, x ∈ r ↔ x = n ∨ x ∈ xs) ∧ r.length ≤ xs.length + 1 := by
  induction d with
  | zero =>
    intro i hd h1
    obtain ⟨a, b, c⟩ := ins_ok xs n i hs h1 (by rw [List.drop_of_length_le (by omega)]; simp)
    refine ⟨_, ?_, a, b, c⟩
    apply ev_succ
    simp only [spec_l10Put.l0, Int.toNat_natCast, Option.bind_some]
    exact ev_ifn (by omega) (ev_ifp (by omega) (ev_ifp (by omega) (ev_ifp (by simp; omega) (ev_ifp (by simp; omega) (ev_ifp (by simp; omega) (Ev.now _))))))
  | succ d ih =>
    intro i hd h1
    have e1 : wrap64 ((i : Int) + 1) = ((i + 1 : Nat) : Int) := by rw [w64 (by omega) (by omega)]; simp
    have hi : i < xs.length := by omega
    by_cases c1 : rd xs (i : Int) < n
    · obtain ⟨r, h, q⟩ := ih (i + 1) (by omega) (fun x hxm => by
        rw [List.take_succ_eq_append_getElem hi, List.mem_append, List.mem_singleton] at hxm
        rcases hxm with hm | rfl
        · exact h1 x hm
        · rw [rd_at xs i hi] at c1; exact c1)
      refine ⟨r, ?_, q⟩
      apply ev_succ
      simp only [spec_l10Put.l0]
      rw [e1]
      exact ev_ifp (by omega) (ev_ifp (by omega) (ev_ifp c1 h))
    · by_cases c2 : rd xs (i : Int) = n
      · refine ⟨[] ++ xs, ?_, hs, fun x => ?_, by simp⟩
        · apply ev_succ
          simp only [spec_l10Put.l0, Option.bind_some]
          exact ev_ifp (by omega) (ev_ifp (by omega) (ev_ifn c1 (ev_ifp c2 (ev_ifp (by simp; omega) (Ev.now _)))))
        · rw [List.nil_append]
          constructor
          · exact .inr
          · rintro (rfl | h)
            · rw [← c2, rd_at xs i hi]; exact List.getElem_mem hi
            · exact h
      · obtain ⟨a, b, c⟩ := ins_ok xs n i hs h1 (fun x hxm => by
          rw [rd_at xs i hi] at c1 c2
          rw [List.drop_eq_getElem_cons hi, List.mem_cons] at hxm
          rcases hxm with rfl | hm
          · omega
          · rw [List.mem_iff_getElem] at hm
            obtain ⟨j, hj, rfl⟩ := hm
            rw [List.length_drop] at hj
            rw [List.getElem_drop]
            have := List.pairwise_iff_getElem.mp hs i (i + 1 + j) hi (by omega) (by omega)
            omega)
        refine ⟨_, ?_, a, b, c⟩
        apply ev_succ
        simp only [spec_l10Put.l0, Int.toNat_natCast, Option.bind_some]
        exact ev_ifp (by omega) (ev_ifp (by omega) (ev_ifn c1 (ev_ifn c2 (ev_ifp (by omega) (ev_ifp (by simp; omega) (ev_ifp (by simp; omega) (ev_ifp (by simp; omega) (Ev.now _))))))))
theorem refused_both (xs : List S46) (hx : xs.length ≤ 1048576) (d : Nat) : ∀ (i : Nat) (o zs : List Int), i + d = xs.length → o.length ≤ i → zs.length ≤ i → o.Pairwise (· < ·) → (∀ x, x ∈ o ↔ x ∈ zs) →
    ∃ r z : List Int, Ev (fun k => spec_RefusedOf.l0 k xs o (i : Int)) r ∧ Ev (fun k => impl_RefusedOf.l0 k xs zs xs (xs.length : Int) (i : Int)) z ∧ r.length ≤ xs.length ∧ r.Pairwise (· < ·) ∧ (∀ x, x ∈ r ↔ x ∈ z) := by
  induction d with
  | zero =>
    intro i o zs hd ho hz hp hm
    refine ⟨o, zs, ?_, ?_, by omega, hp, hm⟩
    · apply ev_succ
      simp only [spec_RefusedOf.l0]
      exact ev_ifn (by omega) (Ev.now _)
    · apply ev_succ
      simp only [impl_RefusedOf.l0]
      exact ev_ifn (by omega) (Ev.now _)
  | succ d ih =>
    intro i o zs hd ho hz hp hm
    have e1 : wrap64 ((i : Int) + 1) = ((i + 1 : Nat) : Int) := by rw [w64 (by omega) (by omega)]; simp
    obtain ⟨t, ts, ti⟩ := taken_both xs (rd_T46 xs (i : Int)).f1 hx xs.length 0 0 (by omega)
    by_cases h1 : t = 0
    · obtain ⟨o2, hb, hp2, hm2, hl2⟩ := put_ev o (rd_T46 xs (i : Int)).f1 hp (by omega) o.length 0 (by omega) (by simp)
      obtain ⟨r, z, hs, hi, q⟩ := ih (i + 1) o2 (zs ++ [(rd_T46 xs (i : Int)).f1]) (by omega) (by omega) (by simp; omega) hp2 (fun x => by
        rw [hm2, hm, List.mem_append, List.mem_singleton]; exact Or.comm)
      refine ⟨r, z, ?_, ?_, q⟩
      · apply ev_succ
        simp only [spec_RefusedOf.l0]
        rw [e1]
        exact ev_ifp (by omega) (ev_ifp (by omega) (Ev.bind ts (ev_ifp h1 (Ev.bind hb hs))))
      · apply ev_succ
        simp only [impl_RefusedOf.l0]
        rw [e1]
        exact ev_ifp (by omega) (ev_ifp (by omega) (ev_ifp (by omega) (Ev.bind ti (ev_ifp h1 (ev_ifp (by omega) hi)))))
    · obtain ⟨r, z, hs, hi, q⟩ := ih (i + 1) o zs (by omega) (by omega) (by omega) hp hm
      refine ⟨r, z, ?_, ?_, q⟩
      · apply ev_succ
        simp only [spec_RefusedOf.l0]
        rw [e1]
        exact ev_ifp (by omega) (ev_ifp (by omega) (Ev.bind ts (ev_ifn h1 hs)))
      · apply ev_succ
        simp only [impl_RefusedOf.l0]
        rw [e1]
        exact ev_ifp (by omega) (ev_ifp (by omega) (ev_ifp (by omega) (Ev.bind ti (ev_ifn h1 hi))))
theorem refused_ev (xs : List S46) (hx : xs.length ≤ 1048576) : ∃ r : List Int, Ev (fun k => spec_RefusedOf.f k xs) r ∧ Ev (fun k => impl_RefusedOf.f k xs) r ∧ r.length ≤ xs.length ∧ r.Pairwise (· < ·) := by
  obtain ⟨r, z, hs, ⟨n, hn⟩, hl, hp, hm⟩ := refused_both xs hx xs.length 0 [] [] (by omega) (by simp) (by simp) List.Pairwise.nil (by simp)
  refine ⟨r, hs, ⟨n, fun k hk => ?_⟩, hl, hp⟩
  show (impl_RefusedOf.l0 k xs [] xs (xs.length : Int) 0).map _ = some r
  rw [show impl_RefusedOf.l0 k xs [] xs (xs.length : Int) 0 = some z from hn k hk]
  exact congrArg some (compact_sort z r hp hm)
theorem FnExactRefusedOf : laws_FnExactRefusedOf.Pure := by
  intro l hg
  apply Ev.rounds
  unfold laws_FnExactRefusedOf.f
  rw [szOffer_eq l _ hg.1 (by omega) (by omega)]
  simp only [Option.bind_some]
  by_cases h : (l.length : Int) ≤ 1048576
  · rw [if_pos h]
    refine ev_ifn (by omega) ?_
    have ht := toOfferS_ev l (by omega)
    have hlen : (l.map upOffer).length = l.length := by simp
    have he := eqOfferS_ev (l.map upOffer) (by omega)
    obtain ⟨r, hs, hi, hr, _⟩ := refused_ev (l.map upOffer) (by omega)
    have hq := eqIntS_ev r (by omega)
    obtain ⟨m, ys, hm, hm0, hh⟩ := markInt_ev r (by omega)
    obtain ⟨m2, ys2, hm2, hm20⟩ := markOffer_ev (l.map upOffer) (by omega)
    refine Ev.bind ht (Ev.bind hs (Ev.bind ht (Ev.bind hi (Ev.bind hq (ev_ifp rfl (Ev.bind ht (Ev.bind he (ev_ifp rfl (Ev.bind hm2 (ev_ifn (by simpa using hm20) (Ev.bind hq ?_)))))))))))
    apply ev_succ
    simp only [laws_FnExactRefusedOf.j0, Bool.not_true, Bool.false_eq_true, if_false]
    exact Ev.bind hm (Ev.bind hh (ev_ifn (by omega) (ev_ifp rfl (Ev.bind ht (Ev.bind hi (Ev.bind hq (ev_ifp rfl (Ev.bind hh (ev_ifn (by omega) (ev_ifp rfl (Ev.now _)))))))))))
  · rw [if_neg h]
    exact ev_ifp (by omega) (Ev.now _)

end Go.Proofs.Ytimikonnmcgljaa.Pure
