/- The program's RoundWith answers what the reference's answers, for all arguments.
No condition: for every input. -/
import Derived.Test.YtfcidjlnokhkjaaQFnExactRoundWithx4
set_option linter.unusedVariables false
set_option linter.unusedSimpArgs false
set_option maxHeartbeats 1000000
namespace Go.Proofs.Ytfcidjlnokhkjaa.Pure
open Go.RowKit Go.Proofs.Ytfcidjlnokhkjaa.QFnExactRoundWith Go.Proofs.YtfcidjlnokhkjaaW.PrintWords Go.Proofs.YtfcidjlnokhkjaaW.PrintLast

theorem w64 {x : Int} (h1 : -9223372036854775808 ≤ x) (h2 : x ≤ 9223372036854775807) : wrap64 x = x := by unfold wrap64; omega
theorem wf64 {x : Int} (h : (Lit.int .i64 x).wf = true) : -9223372036854775808 ≤ x ∧ x ≤ 9223372036854775807 := by
  simp only [Lit.wf, Bool.and_eq_true, decide_eq_true_eq] at h
  have e1 : IntKind.min .i64 = -9223372036854775808 := by decide
  have e2 : IntKind.max .i64 = 9223372036854775807 := by decide
  omega
theorem wfu8 {x : Int} (h : (Lit.int .u8 x).wf = true) : 0 ≤ x ∧ x ≤ 255 := by
  simp only [Lit.wf, Bool.and_eq_true, decide_eq_true_eq] at h
  have e1 : IntKind.min .u8 = 0 := by decide
  have e2 : IntKind.max .u8 = 255 := by decide
  omega
theorem ev_succ {α : Type} {g : Nat → Option α} {r : α} (h : Ev (fun k => g (k + 1)) r) : Ev g r := Ev.step (fun _ => rfl) h
theorem ev_some {α : Type} {r s : α} (h : r = s) : Ev (fun _ => some r) s := by subst h; exact Ev.now r
theorem ev_fix {α : Type} {o : Option α} {r : α} (h : o = some r) : Ev (fun _ => o) r := ⟨0, fun _ _ => h⟩
theorem ev_at {α : Type} {g : Nat → Option α} {r : α} (n : Nat) (h : ∀ k, g (k + n) = some r) : Ev g r :=
  ⟨n, fun k hk => by obtain ⟨m, rfl⟩ : ∃ m, k = m + n := ⟨k - n, by omega⟩; exact h m⟩
theorem ev_bindc {α β : Type} {o : Option α} {f : Nat → α → Option β} {a : α} {r : β} (h : o = some a) (k : Ev (fun n => f n a) r) : Ev (fun n => o.bind (f n)) r := by
  subst h; exact k
theorem ev_ifp {α : Type} {c : Prop} [Decidable c] {a b : Nat → Option α} {r : α} (h : c) (k : Ev a r) : Ev (fun n => if c then a n else b n) r := by
  simpa only [if_pos h] using k
theorem ev_ifn {α : Type} {c : Prop} [Decidable c] {a b : Nat → Option α} {r : α} (h : ¬ c) (k : Ev b r) : Ev (fun n => if c then a n else b n) r := by
  simpa only [if_neg h] using k
theorem spec_l1In_eq (a b c : Int) : spec_l1In.f a b c = some (decide (b ≤ a ∧ a ≤ c)) := by
  unfold spec_l1In.f
  by_cases h : a ≥ b
  · have h' : b ≤ a := h
    simp [h']
  · have h' : ¬ b ≤ a := h
    simp [h']
theorem impl_InRange_eq (a b c : Int) : impl_InRange.f a b c = some (decide (b ≤ a ∧ a ≤ c)) := by
  unfold impl_InRange.f
  by_cases h : b ≤ a <;> simp [h]
theorem mx_eq (a b : Int) : mx a b = max a b := by unfold mx; omega
theorem mn_eq (a b : Int) : mn a b = min a b := by unfold mn; omega
def roundR (n k : Int) : List (List Int) := (impl_SeasonRound.f 60 n k).getD []
def pairOk (p : List Int) : Bool := match p with
  | [x, y] => decide (x ≤ y)
  | _ => false
def roundOk (n k : Int) : Bool := match spec_SeasonRound.f 60 n k, impl_SeasonRound.f 60 n k with
  | some r, some r' => r == r' && r.all pairOk && decide (r.length ≤ 20)
  | _, _ => false
theorem all_rounds : ((List.range 19).all fun j => (List.range 21).all fun n => decide (n < 2) || decide (n % 2 = 1) || decide (n ≤ j + 1) || roundOk (n : Int) (j : Int)) = true := by decide +kernel
theorem round_at (n : Int) (h : 2 ≤ n ∧ n ≤ 20) (he : n % 2 = 0) (j : Nat) (hj : (j : Int) < n - 1) : roundOk n j = true := by
  have h1 := List.all_eq_true.mp all_rounds j (by rw [List.mem_range]; omega)
  have h2 := List.all_eq_true.mp h1 n.toNat (by rw [List.mem_range]; omega)
  simp only [Bool.or_eq_true, decide_eq_true_eq] at h2
  rw [show ((n.toNat : Nat) : Int) = n by omega] at h2
  rcases h2 with ((h2 | h2) | h2) | h2
  · omega
  · omega
  · omega
  · exact h2
theorem round_ev (n : Int) (h : 2 ≤ n ∧ n ≤ 20) (he : n % 2 = 0) (j : Nat) (hj : (j : Int) < n - 1) : Ev (fun k => spec_SeasonRound.f k n j) (roundR n j) ∧ Ev (fun k => impl_SeasonRound.f k n j) (roundR n j) ∧ (roundR n j).all pairOk = true ∧ (roundR n j).length ≤ 20 := by
  have ho := round_at n h he j hj
  unfold roundOk at ho
  split at ho
  · next r r' e1 e2 =>
    simp only [Bool.and_eq_true, beq_iff_eq, decide_eq_true_eq] at ho
    obtain ⟨⟨rfl, h2⟩, h3⟩ := ho
    have e : roundR n j = r := by unfold roundR; rw [e2]; rfl
    rw [e]
    exact ⟨Ev.of (fun k => spec_SeasonRound.mono n j k) e1, Ev.of (fun k => impl_SeasonRound.mono n j k) e2, h2, h3⟩
  · cases ho
theorem pair_of {r : List (List Int)} (h : r.all pairOk = true) (i : Nat) (hi : i < r.length) : ∃ x y, rd_L1 r (i : Int) = [x, y] ∧ x ≤ y := by
  have e : rd_L1 r (i : Int) = r[i] := by simp [rd_L1, List.getD_eq_getElem?_getD, hi]
  have h1 := List.all_eq_true.mp h r[i] (List.getElem_mem hi)
  rw [e]
  unfold pairOk at h1
  split at h1
  · next x y e2 => exact ⟨x, y, e2, by simpa using h1⟩
  · cases h1
theorem drop_L1 (xs : List (List Int)) (i : Nat) (h : i < xs.length) : xs.drop i = rd_L1 xs (i : Int) :: xs.drop (i + 1) := by
  rw [List.drop_eq_getElem_cons h]
  simp [rd_L1, List.getD_eq_getElem?_getD, h]
def hasG (a b : Int) (r : List (List Int)) : Bool := r.any fun p => p == [mn a b, mx a b]
theorem with_loop (r : List (List Int)) (hr : r.all pairOk = true) (hl : r.length ≤ 20) (a b : Int) (d : Nat) : ∀ i : Nat, i + d = r.length → Ev (fun k => spec_l31With.l0 k r a b (i : Int)) (hasG a b (r.drop i)) := by
  induction d with
  | zero =>
    intro i hd
    apply ev_succ
    simp only [spec_l31With.l0]
    rw [List.drop_eq_nil_of_le (by omega)]
    exact ev_ifn (by omega) (ev_some rfl)
  | succ d ih =>
    intro i hd
    have e1 : wrap64 ((i : Int) + 1) = ((i + 1 : Nat) : Int) := by rw [w64 (by omega) (by omega)]; simp
    obtain ⟨x, y, hp, hxy⟩ := pair_of hr i (by omega)
    have ih' := ih (i + 1) (by omega)
    apply ev_succ
    simp only [spec_l31With.l0, e1]
    rw [drop_L1 r i (by omega), hp]
    have x0 : rd [x, y] 0 = x := rfl
    have y0 : rd [x, y] 1 = y := rfl
    have l0 : (([x, y] : List Int).length : Int) = 2 := rfl
    rw [x0, y0, l0]
    refine ev_ifp (by omega) (ev_ifp (by omega) (ev_ifp rfl (ev_ifp (by omega) ?_)))
    have hit : x = mn a b ∧ y = mx a b → hasG a b ([x, y] :: r.drop (i + 1)) = true := by
      rintro ⟨rfl, rfl⟩
      simp [hasG]
    have miss : ¬ (x = mn a b ∧ y = mx a b) → hasG a b ([x, y] :: r.drop (i + 1)) = hasG a b (r.drop (i + 1)) := by
      intro h
      have : ([x, y] == [mn a b, mx a b]) = false := by
        rw [beq_eq_false_iff_ne]
        intro e
        simp only [List.cons.injEq, and_true] at e
        exact h e
      simp [hasG, this]
    have key : (x = mn a b ∧ y = mx a b) ↔ (x = a ∧ y = b) ∨ (x = b ∧ y = a) := by
      rw [mn_eq, mx_eq]
      omega
    by_cases ha : x = a
    · refine ev_ifp ha (ev_ifp (by omega) ?_)
      by_cases hb : y = b
      · exact ev_ifp hb (ev_some (hit (key.mpr (.inl ⟨ha, hb⟩))).symm)
      · refine ev_ifn hb ?_
        by_cases hb2 : x = b
        · refine ev_ifp hb2 ?_
          by_cases ha2 : y = a
          · exact ev_ifp ha2 (ev_some (hit (key.mpr (.inr ⟨hb2, ha2⟩))).symm)
          · refine ev_ifn ha2 ?_
            rw [miss (fun h => by have := key.mp h; omega)]
            exact ih'
        · refine ev_ifn hb2 ?_
          rw [miss (fun h => by have := key.mp h; omega)]
          exact ih'
    · refine ev_ifn ha ?_
      by_cases hb2 : x = b
      · refine ev_ifp hb2 (ev_ifp (by omega) ?_)
        by_cases ha2 : y = a
        · exact ev_ifp ha2 (ev_some (hit (key.mpr (.inr ⟨hb2, ha2⟩))).symm)
        · refine ev_ifn ha2 ?_
          rw [miss (fun h => by have := key.mp h; omega)]
          exact ih'
      · refine ev_ifn hb2 ?_
        rw [miss (fun h => by have := key.mp h; omega)]
        exact ih'
theorem with_ev (r : List (List Int)) (hr : r.all pairOk = true) (hl : r.length ≤ 20) (a b : Int) : Ev (fun k => spec_l31With.f k r a b) (hasG a b r) := by
  unfold spec_l31With.f
  simpa using with_loop r hr hl a b r.length 0 (by omega)
theorem equal2_ev (x y u v : Int) : Ev (fun k => slices_Equal_int_int.f k [x, y] [u, v]) ([x, y] == [u, v]) := by
  unfold slices_Equal_int_int.f
  refine ev_ifp rfl ?_
  have w0 : wrap64 (0 + 1) = 1 := w64 (by omega) (by omega)
  have w1 : wrap64 (1 + 1) = 2 := w64 (by omega) (by omega)
  have x0 : rd [x, y] 0 = x := rfl
  have y0 : rd [x, y] 1 = y := rfl
  have u0 : rd [u, v] 0 = u := rfl
  have v0 : rd [u, v] 1 = v := rfl
  have l0 : (([x, y] : List Int).length : Int) = 2 := rfl
  have l1 : (([u, v] : List Int).length : Int) = 2 := rfl
  apply ev_succ
  simp only [slices_Equal_int_int.l0, w0, x0, u0, l0, l1]
  refine ev_ifp (by omega) (ev_ifp (by omega) (ev_ifp (by omega) (ev_ifp (by omega) ?_)))
  by_cases h : x = u
  · refine ev_ifp h ?_
    apply ev_succ
    simp only [slices_Equal_int_int.l0, w1, y0, v0, l0, l1]
    refine ev_ifp (by omega) (ev_ifp (by omega) (ev_ifp (by omega) (ev_ifp (by omega) ?_)))
    by_cases h2 : y = v
    · refine ev_ifp h2 ?_
      apply ev_succ
      simp only [slices_Equal_int_int.l0]
      exact ev_ifn (by omega) (ev_some (by simp [h, h2]))
    · exact ev_ifn h2 (ev_some (by simp [h2]))
  · exact ev_ifn h (ev_some (by simp [h]))
/-- the first round from j on in which a meets b, or -1 -/
def meetG (n a b : Int) : Nat → Int → Int
  | 0, _ => -1
  | d + 1, j => if hasG a b (roundR n j) = true then j else meetG n a b d (j + 1)
theorem spec_rw_loop (n a b : Int) (h : 2 ≤ n ∧ n ≤ 20) (he : n % 2 = 0) (d : Nat) : ∀ j : Nat, (j : Int) + d = n - 1 → Ev (fun k => spec_RoundWith.l0 k n a b (j : Int)) (meetG n a b d j) := by
  have w0 : wrap64 (n - 1) = n - 1 := w64 (by omega) (by omega)
  induction d with
  | zero =>
    intro j hj
    apply ev_succ
    simp only [spec_RoundWith.l0, w0]
    exact ev_ifn (by omega) (Ev.now _)
  | succ d ih =>
    intro j hj
    have e1 : wrap64 ((j : Int) + 1) = ((j + 1 : Nat) : Int) := by rw [w64 (by omega) (by omega)]; simp
    obtain ⟨h1, _, h3, h4⟩ := round_ev n h he j (by omega)
    apply ev_succ
    simp only [spec_RoundWith.l0, w0, e1]
    refine ev_ifp (by omega) (Ev.bind h1 (Ev.bind (with_ev _ h3 h4 a b) ?_))
    unfold meetG
    by_cases hh : hasG a b (roundR n j) = true
    · rw [if_pos hh]
      exact ev_ifp hh (Ev.now _)
    · rw [if_neg hh]
      refine ev_ifn hh ?_
      have := ih (j + 1) (by omega)
      rwa [show (((j + 1 : Nat)) : Int) = (j : Int) + 1 by omega] at this ⊢
def roundsG (n : Int) (m : Nat) : List (List (List Int)) := (List.range m).map fun (j : Nat) => roundR n (j : Int)
theorem roundsG_len (n : Int) (m : Nat) : (roundsG n m).length = m := by simp [roundsG]
theorem roundsG_succ (n : Int) (m : Nat) : roundsG n (m + 1) = roundsG n m ++ [roundR n (m : Int)] := by
  simp [roundsG, List.range_succ]
theorem roundsG_rd (n : Int) (m j : Nat) (hj : j < m) : rd_L2 (roundsG n m) (j : Int) = roundR n (j : Int) := by
  simp [rd_L2, roundsG, List.getD_eq_getElem?_getD, hj]
theorem all_loop (n : Int) (h : 2 ≤ n ∧ n ≤ 20) (he : n % 2 = 0) (d : Nat) : ∀ j : Nat, (j : Int) + d = n - 1 → Ev (fun k => impl_AllRounds.l0 k n (roundsG n j) (n - 1) (j : Int)) (roundsG n (n - 1).toNat) := by
  induction d with
  | zero =>
    intro j hj
    apply ev_succ
    simp only [impl_AllRounds.l0]
    refine ev_ifn (by omega) (ev_some ?_)
    rw [show j = (n - 1).toNat by omega]
  | succ d ih =>
    intro j hj
    have e1 : wrap64 ((j : Int) + 1) = ((j + 1 : Nat) : Int) := by rw [w64 (by omega) (by omega)]; simp
    obtain ⟨_, h2, _, _⟩ := round_ev n h he j (by omega)
    have hl := roundsG_len n j
    have ih' := ih (j + 1) (by omega)
    rw [roundsG_succ] at ih'
    apply ev_succ
    simp only [impl_AllRounds.l0, e1]
    exact ev_ifp (by omega) (Ev.bind h2 (ev_ifp (by omega) ih'))
theorem impl_rw_l1 (n a b : Int) (h : 2 ≤ n ∧ n ≤ 20) (m j : Nat) (r : List (List Int)) (hr : r.all pairOk = true) (hl : r.length ≤ 20) (v : Int) (R : Ev (fun k => impl_RoundWith.l0 k a b (roundsG n m) (m : Int) ((j + 1 : Nat) : Int)) v) (hj : (j : Int) < 100) (d : Nat) :
    ∀ i : Nat, i + d = r.length → Ev (fun k => impl_RoundWith.l1 k a b (j : Int) (roundsG n m) (m : Int) (j : Int) r (r.length : Int) (i : Int)) (if hasG a b (r.drop i) = true then (j : Int) else v) := by
  have e2 : wrap64 ((j : Int) + 1) = ((j + 1 : Nat) : Int) := by rw [w64 (by omega) (by omega)]; simp
  induction d with
  | zero =>
    intro i hd
    apply ev_succ
    simp only [impl_RoundWith.l1, e2]
    rw [List.drop_eq_nil_of_le (by omega), if_neg (by simp [hasG])]
    exact ev_ifn (by omega) R
  | succ d ih =>
    intro i hd
    have e1 : wrap64 ((i : Int) + 1) = ((i + 1 : Nat) : Int) := by rw [w64 (by omega) (by omega)]; simp
    obtain ⟨x, y, hp, hxy⟩ := pair_of hr i (by omega)
    apply ev_succ
    simp only [impl_RoundWith.l1, e1, impl_couple.f, Option.bind_some]
    rw [drop_L1 r i (by omega), hp]
    refine ev_ifp (by omega) (ev_ifp (by omega) (ev_ifp (by omega) (Ev.bind (equal2_ev x y _ _) ?_)))
    by_cases hh : ([x, y] == [mn a b, mx a b]) = true
    · rw [if_pos (by simp only [hasG, List.any_cons, hh, Bool.true_or])]
      exact ev_ifp hh (Ev.now _)
    · refine ev_ifn hh ?_
      have : hasG a b ([x, y] :: r.drop (i + 1)) = hasG a b (r.drop (i + 1)) := by
        simp only [hasG, List.any_cons, Bool.eq_false_iff.mpr hh, Bool.false_or]
      rw [this]
      exact ih (i + 1) (by omega)
theorem impl_rw_l0 (n a b : Int) (h : 2 ≤ n ∧ n ≤ 20) (he : n % 2 = 0) (d : Nat) : ∀ j : Nat, (j : Int) + d = n - 1 → Ev (fun k => impl_RoundWith.l0 k a b (roundsG n (n - 1).toNat) (((n - 1).toNat : Nat) : Int) (j : Int)) (meetG n a b d j) := by
  have hl := roundsG_len n (n - 1).toNat
  induction d with
  | zero =>
    intro j hj
    apply ev_succ
    simp only [impl_RoundWith.l0]
    exact ev_ifn (by omega) (Ev.now _)
  | succ d ih =>
    intro j hj
    obtain ⟨_, _, h3, h4⟩ := round_ev n h he j (by omega)
    have ih' := ih (j + 1) (by omega)
    have := impl_rw_l1 n a b h (n - 1).toNat j (roundR n j) h3 h4 _ ih' (by omega) (roundR n j).length 0 (by omega)
    apply ev_succ
    simp only [impl_RoundWith.l0]
    refine ev_ifp (by omega) (ev_ifp (by omega) (ev_ifp (by omega) ?_))
    rw [roundsG_rd n _ j (by omega)]
    unfold meetG
    simpa using this
theorem FnExactRoundWith : laws_FnExactRoundWith.Pure := by
  intro n a b hn _ _
  have hw := wf64 hn
  apply Ev.rounds
  unfold laws_FnExactRoundWith.f
  have fin : ∀ v : Int, Ev (fun k => spec_RoundWith.f k n a b) v → Ev (fun k => impl_RoundWith.f k n a b) v → Ev (fun k => (spec_RoundWith.f k n a b).bind fun t187 => ((impl_RoundWith.f k n a b).bind fun t188 => (if t188 = t187 then (some true) else (some false)))) true :=
    fun v h1 h2 => Ev.bind h1 (Ev.bind h2 (ev_ifp rfl (Ev.now _)))
  have sNo : ∀ t : Bool, t = true → Ev (fun k => spec_RoundWith.j0 k n a b t) (-1) := by
    intro t ht
    apply ev_succ
    simp only [spec_RoundWith.j0, ht, if_true]
    exact Ev.now _
  have tm : Int.tmod n 2 = 0 ↔ n % 2 = 0 := by
    rw [Int.tmod_eq_emod]
    split <;> omega
  have hok : spec_l31Ok.f n = some (decide (2 ≤ n ∧ n ≤ 20) && decide (n % 2 = 0)) := by
    unfold spec_l31Ok.f
    simp only [spec_l1In_eq, Option.bind_some]
    by_cases h1 : 2 ≤ n ∧ n ≤ 20
    · rw [decide_eq_true h1, if_pos rfl, Bool.true_and]
      congr 1
      rw [Bool.eq_iff_iff, beq_iff_eq, decide_eq_true_eq]
      exact tm
    · rw [decide_eq_false h1, if_neg (by decide)]
      rfl
  have iok : impl_isSeason.f n = some (decide (2 ≤ n ∧ n ≤ 20) && decide (n % 2 = 0)) := by
    unfold impl_isSeason.f
    simp only [impl_InRange_eq, Option.bind_some]
    by_cases h1 : 2 ≤ n ∧ n ≤ 20
    · rw [decide_eq_true h1, if_pos rfl, Bool.true_and]
      congr 1
      rw [Bool.eq_iff_iff, beq_iff_eq, decide_eq_true_eq]
      exact tm
    · rw [decide_eq_false h1, if_neg (by decide)]
      rfl
  by_cases hab : a = b
  · refine fin (-1) ?_ ?_
    · unfold spec_RoundWith.f
      rw [hok]
      simp only [Option.bind_some]
      have hb : (a == b) = true := by simp [hab]
      by_cases h1 : (decide (2 ≤ n ∧ n ≤ 20) && decide (n % 2 = 0)) = true
      · exact ev_ifp h1 (sNo _ hb)
      · exact ev_ifn h1 (sNo _ rfl)
    · unfold impl_RoundWith.f
      exact ev_ifp hab (Ev.now _)
  · have hb : (a == b) = false := by simp [hab]
    by_cases h1 : 2 ≤ n ∧ n ≤ 20
    · by_cases h2 : n % 2 = 0
      · have hs := spec_rw_loop n a b h1 h2 (n - 1).toNat 0 (by omega)
        have hi := impl_rw_l0 n a b h1 h2 (n - 1).toNat 0 (by omega)
        have ha := all_loop n h1 h2 (n - 1).toNat 0 (by omega)
        have w0 : wrap64 (n - 1) = n - 1 := w64 (by omega) (by omega)
        refine fin (meetG n a b (n - 1).toNat 0) ?_ ?_
        · unfold spec_RoundWith.f
          rw [hok, decide_eq_true h1, decide_eq_true h2, hb]
          simp only [Option.bind_some, Bool.and_self]
          refine ev_ifp trivial ?_
          apply ev_succ
          simp only [spec_RoundWith.j0, Bool.false_eq_true, if_false]
          simpa using hs
        · unfold impl_RoundWith.f
          refine ev_ifn hab (Ev.bind (a := roundsG n (n - 1).toNat) ?_ ?_)
          · unfold impl_AllRounds.f
            simp only [Option.bind_some, w0]
            rw [iok, decide_eq_true h1, decide_eq_true h2]
            simp only [Option.bind_some, Bool.and_self]
            exact ev_ifp trivial (by simpa [roundsG] using ha)
          · rw [roundsG_len]
            simpa using hi
      · refine fin (-1) ?_ ?_
        · unfold spec_RoundWith.f
          rw [hok, decide_eq_true h1, decide_eq_false h2]
          simp only [Option.bind_some, Bool.and_false]
          exact ev_ifn (by decide) (sNo _ rfl)
        · unfold impl_RoundWith.f
          refine ev_ifn hab (Ev.bind (a := []) ?_ ?_)
          · unfold impl_AllRounds.f
            simp only [Option.bind_some]
            rw [iok, decide_eq_true h1, decide_eq_false h2]
            simp only [Option.bind_some, Bool.and_false]
            exact ev_ifn (by decide) (Ev.now _)
          · apply ev_succ
            simp only [impl_RoundWith.l0]
            exact ev_ifn (by simp) (Ev.now _)
    · refine fin (-1) ?_ ?_
      · unfold spec_RoundWith.f
        rw [hok, decide_eq_false h1]
        simp only [Option.bind_some, Bool.false_and]
        exact ev_ifn (by decide) (sNo _ rfl)
      · unfold impl_RoundWith.f
        refine ev_ifn hab (Ev.bind (a := []) ?_ ?_)
        · unfold impl_AllRounds.f
          simp only [Option.bind_some]
          rw [iok, decide_eq_false h1]
          simp only [Option.bind_some, Bool.false_and]
          exact ev_ifn (by decide) (Ev.now _)
        · apply ev_succ
          simp only [impl_RoundWith.l0]
          exact ev_ifn (by simp) (Ev.now _)

end Go.Proofs.Ytfcidjlnokhkjaa.Pure
