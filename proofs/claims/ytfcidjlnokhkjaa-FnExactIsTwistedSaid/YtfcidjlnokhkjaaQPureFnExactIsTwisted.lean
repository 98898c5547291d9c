/- The program's IsTwisted answers what the reference's answers, for all arguments.
No condition: for every input. -/
import Derived.Test.YtfcidjlnokhkjaaQFnExactIsTwistedx6
set_option linter.unusedVariables false
set_option linter.unusedSimpArgs false
set_option maxHeartbeats 1000000
namespace Go.Proofs.Ytfcidjlnokhkjaa.Pure
open Go.RowKit Go.Proofs.Ytfcidjlnokhkjaa.QFnExactIsTwisted Go.Proofs.YtfcidjlnokhkjaaW.PrintWords Go.Proofs.YtfcidjlnokhkjaaW.PrintLast

theorem w64 {x : Int} (h1 : -9223372036854775808 ≤ x) (h2 : x ≤ 9223372036854775807) : wrap64 x = x := by unfold wrap64; omega
theorem wf64 {x : Int} (h : (Lit.int .i64 x).wf = true) : -9223372036854775808 ≤ x ∧ x ≤ 9223372036854775807 := by
  simp only [Lit.wf, Bool.and_eq_true, decide_eq_true_eq] at h
  have e1 : IntKind.min .i64 = -9223372036854775808 := by decide
  have e2 : IntKind.max .i64 = 9223372036854775807 := by decide
  omega
theorem wfu8 {x : Int} (h : (Lit.int .u8 x).wf = true) : 0 ≤ x ∧ x ≤ 255 := by
  simp only [Lit.wf, Bool.and_eq_true, decide_eq_true_eq] at h
  have e1 : IntKind.min .u8 = 0 := by decide
  have e2 : IntKind.max .u8 = 255 := by decide
  omega
theorem ev_succ {α : Type} {g : Nat → Option α} {r : α} (h : Ev (fun k => g (k + 1)) r) : Ev g r := Ev.step (fun _ => rfl) h
theorem ev_some {α : Type} {r s : α} (h : r = s) : Ev (fun _ => some r) s := by subst h; exact Ev.now r
theorem ev_fix {α : Type} {o : Option α} {r : α} (h : o = some r) : Ev (fun _ => o) r := ⟨0, fun _ _ => h⟩
theorem ev_at {α : Type} {g : Nat → Option α} {r : α} (n : Nat) (h : ∀ k, g (k + n) = some r) : Ev g r :=
  ⟨n, fun k hk => by obtain ⟨m, rfl⟩ : ∃ m, k = m + n := ⟨k - n, by omega⟩; exact h m⟩
theorem ev_bindc {α β : Type} {o : Option α} {f : Nat → α → Option β} {a : α} {r : β} (h : o = some a) (k : Ev (fun n => f n a) r) : Ev (fun n => o.bind (f n)) r := by
  subst h; exact k
theorem ev_ifp {α : Type} {c : Prop} [Decidable c] {a b : Nat → Option α} {r : α} (h : c) (k : Ev a r) : Ev (fun n => if c then a n else b n) r := by
  simpa only [if_pos h] using k
theorem ev_ifn {α : Type} {c : Prop} [Decidable c] {a b : Nat → Option α} {r : α} (h : ¬ c) (k : Ev b r) : Ev (fun n => if c then a n else b n) r := by
  simpa only [if_neg h] using k
theorem spec_l1In_eq (a b c : Int) : spec_l1In.f a b c = some (decide (b ≤ a ∧ a ≤ c)) := by
  unfold spec_l1In.f
  by_cases h : a ≥ b
  · have h' : b ≤ a := h
    simp [h']
  · have h' : ¬ b ≤ a := h
    simp [h']
theorem impl_InRange_eq (a b c : Int) : impl_InRange.f a b c = some (decide (b ≤ a ∧ a ≤ c)) := by
  unfold impl_InRange.f
  by_cases h : b ≤ a <;> simp [h]
theorem rd37 (xs : List S37) (i : Nat) (h : i < xs.length) : rd_T37 xs (i : Int) = xs[i] := by simp [rd_T37, List.getD_eq_getElem?_getD, h]
theorem drop37 (xs : List S37) (i : Nat) (h : i < xs.length) : xs.drop i = rd_T37 xs (i : Int) :: xs.drop (i + 1) := by
  rw [List.drop_eq_getElem_cons h, rd37 xs i h]
def upSource (x : S34) : S37 := ⟨x.f0, x.f1, x.f2, x.f3⟩
theorem szSource_eq (l : List S34) (c : Int) (hm : l.length ≤ maxLen) (h0 : 0 ≤ c) (h1 : c ≤ 1048576) : laws_szSourceS.f l c = some (if (l.length : Int) ≤ c then c - (l.length : Int) else (-1 : Int)) := by
  unfold maxLen at hm
  unfold laws_szSourceS.f
  rw [w64 (by omega) (by omega)]
  by_cases h : (l.length : Int) ≤ c
  · rw [if_neg (by omega), if_pos h]
  · rw [if_pos (by omega), if_neg h]
theorem rd34 (xs : List S34) (i : Nat) (h : i < xs.length) : rd_T34 xs (i : Int) = xs[i] := by simp [rd_T34, List.getD_eq_getElem?_getD, h]
theorem toSourceS_loop (xs : List S34) (hx : xs.length ≤ 1048576) (d : Nat) : ∀ (i : Nat) (ys : List S37), ys.length = xs.length → i + d = xs.length → ys.take i = (xs.map upSource).take i →
    Ev (fun k => laws_toSourceS.l0 k xs ys (i : Int)) (xs.map upSource) := by
  induction d with
  | zero =>
    intro i ys hl hd ht
    apply ev_succ
    simp only [laws_toSourceS.l0]
    refine ev_ifn (by omega) (ev_some ?_)
    have h1 : ys.take i = ys := List.take_of_length_le (by omega)
    have h2 : (xs.map upSource).take i = xs.map upSource := List.take_of_length_le (by simp; omega)
    rw [← h1, ht, h2]
  | succ d ih =>
    intro i ys hl hd ht
    apply ev_succ
    simp only [laws_toSourceS.l0, laws_toSource.f, Option.bind_some]
    refine ev_ifp (by omega) (ev_ifp (by omega) (ev_ifp (by omega) ?_))
    rw [w64 (by omega) (by omega)]
    have hi : i < xs.length := by omega
    have := ih (i + 1) (ys.set i (upSource xs[i])) (by simpa using hl) (by omega) (by
      rw [List.take_succ_eq_append_getElem (l := xs.map upSource) (by simpa using hi), List.take_succ_eq_append_getElem (l := ys.set i (upSource xs[i])) (by simp; omega), List.getElem_set_self, List.take_set_of_le (by omega), ht]
      simp)
    simpa [rd34 xs i hi, upSource] using this
theorem toSourceS_ev (xs : List S34) (hx : xs.length ≤ 1048576) : Ev (fun k => laws_toSourceS.f k xs) (xs.map upSource) := by
  unfold laws_toSourceS.f
  refine ev_ifp (by omega) (ev_ifp (by omega) ?_)
  exact toSourceS_loop xs hx xs.length 0 _ (by simp) (by omega) (by simp)
theorem eqSourceS_loop (xs : List S37) (hx : xs.length ≤ 17592186044416) (d : Nat) : ∀ (i : Nat), i + d = xs.length → Ev (fun k => laws_eqSourceS.l0 k xs xs (i : Int)) true := by
  induction d with
  | zero =>
    intro i hd
    apply ev_succ
    simp only [laws_eqSourceS.l0]
    exact ev_ifn (by omega) (Ev.now _)
  | succ d ih =>
    intro i hd
    apply ev_succ
    simp only [laws_eqSourceS.l0]
    refine ev_ifp (by omega) (ev_ifp (by omega) (ev_ifp (by omega) ?_))
    rw [w64 (by omega) (by omega)]
    simpa [laws_eqSource.f] using ih (i + 1) (by omega)
theorem eqSourceS_ev (xs : List S37) (hx : xs.length ≤ 17592186044416) : Ev (fun k => laws_eqSourceS.f k xs xs) true := by
  unfold laws_eqSourceS.f
  refine ev_ifp rfl ?_
  exact eqSourceS_loop xs hx xs.length 0 (by omega)
def findG : List S37 → Int → Int → Int
  | [], _, _ => -1
  | x :: xs, id, i => if x.f0 = id then i else findG xs id (i + 1)
def srcAt (xs : List S37) (i : Int) : Bool :=
  decide (1 ≤ (rd_T37 xs i).f0 ∧ (rd_T37 xs i).f0 ≤ 99) && decide (1 ≤ (rd_T37 xs i).f2 ∧ (rd_T37 xs i).f2 ≤ 10) && (decide (i ≤ 0) || decide ((rd_T37 xs (i - 1)).f0 < (rd_T37 xs i).f0)) && (decide ((rd_T37 xs i).f1 = 0) || decide (0 ≤ findG (xs.take i.toNat) (rd_T37 xs i).f1 0))
def srcFrom (xs : List S37) : Nat → Int → Bool
  | 0, _ => true
  | d + 1, i => srcAt xs i && srcFrom xs d (i + 1)
def sourcesG (xs : List S37) : Bool := decide (xs.length ≤ 15) && srcFrom xs xs.length 0
theorem src_tail {find : Nat → Option Int} {rest : Nat → Option Bool} {f1 : Int} {c : Prop} [Decidable c] {v : Int} {r : Bool} (hc : c) (hf : Ev find v) (hr : Ev rest r) : Ev (fun k => if f1 = 0 then rest k else if c then (find k).bind fun t => if t < 0 then some false else rest k else none) ((decide (f1 = 0) || decide (0 ≤ v)) && r) := by
  by_cases h : f1 = 0
  · refine ev_ifp h ?_
    simpa [h] using hr
  · refine ev_ifn h (ev_ifp hc (Ev.bind hf ?_))
    by_cases hv : v < 0
    · refine ev_ifp hv (ev_some ?_)
      have : ¬ 0 ≤ v := by omega
      simp [h, this]
    · refine ev_ifn hv ?_
      have : 0 ≤ v := by omega
      simpa [h, this] using hr
theorem spec_find_loop (xs : List S37) (id : Int) (hx : xs.length ≤ 2000000) (d : Nat) : ∀ i : Nat, i + d = xs.length → Ev (fun k => spec_l26Find.l0 k xs id (i : Int)) (findG (xs.drop i) id i) := by
  induction d with
  | zero =>
    intro i hd
    apply ev_succ
    simp only [spec_l26Find.l0]
    rw [List.drop_eq_nil_of_le (by omega)]
    exact ev_ifn (by omega) (Ev.now _)
  | succ d ih =>
    intro i hd
    apply ev_succ
    have e1 : wrap64 ((i : Int) + 1) = (i : Int) + 1 := w64 (by omega) (by omega)
    simp only [spec_l26Find.l0, e1]
    refine ev_ifp (by omega) (ev_ifp (by omega) ?_)
    rw [drop37 xs i (by omega)]
    unfold findG
    by_cases h : (rd_T37 xs (i : Int)).f0 = id
    · exact ev_ifp h (ev_some (by rw [if_pos h]))
    · refine ev_ifn h ?_
      rw [if_neg h]
      exact ih (i + 1) (by omega)
theorem spec_find_ev (xs : List S37) (id : Int) (hx : xs.length ≤ 2000000) : Ev (fun k => spec_l26Find.f k xs id) (findG xs id 0) := by
  unfold spec_l26Find.f
  simpa using spec_find_loop xs id hx xs.length 0 (by omega)
theorem spec_AreSources_loop (xs : List S37) (hx : xs.length ≤ 2000000) (d : Nat) : ∀ i : Nat, i + d = xs.length → Ev (fun k => spec_AreSources.l0 k xs (i : Int)) (srcFrom xs d i && decide (xs.length ≤ 15)) := by
  induction d with
  | zero =>
    intro i hd
    apply ev_succ
    simp only [spec_AreSources.l0]
    refine ev_ifn (by omega) (ev_some ?_)
    simp only [srcFrom, Bool.true_and, decide_eq_decide]
    omega
  | succ d ih =>
    intro i hd
    apply ev_succ
    have e1 : wrap64 ((i : Int) + 1) = (i : Int) + 1 := w64 (by omega) (by omega)
    have e2 : wrap64 ((i : Int) - 1) = (i : Int) - 1 := w64 (by omega) (by omega)
    simp only [spec_AreSources.l0, spec_l1In_eq, Option.bind_some, e1, e2]
    refine ev_ifp (by omega) (ev_ifp (by omega) ?_)
    have ht := src_tail (f1 := (rd_T37 xs (i : Int)).f1) (c := (i : Int) ≤ (xs.length : Int)) (by omega) (spec_find_ev (xs.take (i : Int).toNat) (rd_T37 xs (i : Int)).f1 (by simp; omega)) (ih (i + 1) (by omega))
    rw [show (((i + 1 : Nat) : Int)) = (i : Int) + 1 by omega] at ht
    unfold srcFrom srcAt
    generalize rd_T37 xs (i : Int) = x at ht ⊢
    generalize findG (xs.take (i : Int).toNat) x.f1 0 = v at ht ⊢
    generalize srcFrom xs d ((i : Int) + 1) = r at ht ⊢
    by_cases h1 : 1 ≤ x.f0 ∧ x.f0 ≤ 99
    · refine ev_ifp (by simpa using h1) ?_
      by_cases h2 : 1 ≤ x.f2 ∧ x.f2 ≤ 10
      · refine ev_ifp (by simpa using h2) ?_
        by_cases hi : (i : Int) > 0
        · refine ev_ifp hi (ev_ifp (by omega) (ev_ifp (by omega) ?_))
          have hi' : ¬ (i : Int) ≤ 0 := by omega
          by_cases h3 : (rd_T37 xs ((i : Int) - 1)).f0 ≥ x.f0
          · refine ev_ifp h3 (ev_some ?_)
            have h3' : ¬ (rd_T37 xs ((i : Int) - 1)).f0 < x.f0 := by omega
            rw [decide_eq_true h1, decide_eq_true h2, decide_eq_false hi', decide_eq_false h3']
            rfl
          · refine ev_ifn h3 ?_
            have h3' : (rd_T37 xs ((i : Int) - 1)).f0 < x.f0 := by omega
            rw [decide_eq_true h1, decide_eq_true h2, decide_eq_false hi', decide_eq_true h3']
            simpa only [Bool.true_and, Bool.false_or, Bool.and_assoc] using ht
        · refine ev_ifn hi ?_
          have hi' : (i : Int) ≤ 0 := by omega
          rw [decide_eq_true h1, decide_eq_true h2, decide_eq_true hi']
          simpa only [Bool.true_and, Bool.true_or, Bool.and_assoc] using ht
      · refine ev_ifn (by simpa using h2) (ev_some ?_)
        rw [decide_eq_true h1, decide_eq_false h2]
        rfl
    · refine ev_ifn (by simpa using h1) (ev_some ?_)
      rw [decide_eq_false h1]
      rfl
theorem spec_AreSources_ev (xs : List S37) (hx : xs.length ≤ 2000000) : Ev (fun k => spec_AreSources.f k xs) (sourcesG xs) := by
  unfold spec_AreSources.f sourcesG
  rw [Bool.and_comm]
  exact spec_AreSources_loop xs hx xs.length 0 (by omega)
theorem impl_find_loop (xs : List S37) (id : Int) (hx : xs.length ≤ 2000000) (d : Nat) : ∀ i : Nat, i + d = xs.length → Ev (fun k => impl_sourceAt.l0 k xs id (i : Int)) (findG (xs.drop i) id i) := by
  induction d with
  | zero =>
    intro i hd
    apply ev_succ
    simp only [impl_sourceAt.l0]
    rw [List.drop_eq_nil_of_le (by omega)]
    exact ev_ifn (by omega) (Ev.now _)
  | succ d ih =>
    intro i hd
    apply ev_succ
    have e1 : wrap64 ((i : Int) + 1) = (i : Int) + 1 := w64 (by omega) (by omega)
    simp only [impl_sourceAt.l0, e1]
    refine ev_ifp (by omega) (ev_ifp (by omega) ?_)
    rw [drop37 xs i (by omega)]
    unfold findG
    by_cases h : (rd_T37 xs (i : Int)).f0 = id
    · exact ev_ifp h (ev_some (by rw [if_pos h]))
    · refine ev_ifn h ?_
      rw [if_neg h]
      exact ih (i + 1) (by omega)
theorem impl_find_ev (xs : List S37) (id : Int) (hx : xs.length ≤ 2000000) : Ev (fun k => impl_sourceAt.f k xs id) (findG xs id 0) := by
  unfold impl_sourceAt.f
  simpa using impl_find_loop xs id hx xs.length 0 (by omega)
theorem impl_AreSources_loop (xs : List S37) (hx : xs.length ≤ 15) (d : Nat) : ∀ i : Nat, i + d = xs.length → Ev (fun k => impl_AreSources.l0 k xs xs (xs.length : Int) (i : Int)) (srcFrom xs d i) := by
  induction d with
  | zero =>
    intro i hd
    apply ev_succ
    simp only [impl_AreSources.l0]
    exact ev_ifn (by omega) (ev_some rfl)
  | succ d ih =>
    intro i hd
    apply ev_succ
    have e1 : wrap64 ((i : Int) + 1) = (i : Int) + 1 := w64 (by omega) (by omega)
    have e2 : wrap64 ((i : Int) - 1) = (i : Int) - 1 := w64 (by omega) (by omega)
    simp only [impl_AreSources.l0, impl_InRange_eq, Option.bind_some, e1, e2]
    refine ev_ifp (by omega) (ev_ifp (by omega) (ev_ifp (by omega) ?_))
    have ht := src_tail (f1 := (rd_T37 xs (i : Int)).f1) (c := (i : Int) ≤ (xs.length : Int)) (by omega) (impl_find_ev (xs.take (i : Int).toNat) (rd_T37 xs (i : Int)).f1 (by simp; omega)) (ih (i + 1) (by omega))
    rw [show (((i + 1 : Nat) : Int)) = (i : Int) + 1 by omega] at ht
    unfold srcFrom srcAt
    generalize rd_T37 xs (i : Int) = x at ht ⊢
    generalize findG (xs.take (i : Int).toNat) x.f1 0 = v at ht ⊢
    generalize srcFrom xs d ((i : Int) + 1) = r at ht ⊢
    by_cases h1 : 1 ≤ x.f0 ∧ x.f0 ≤ 99
    · refine ev_ifp (by simpa using h1) ?_
      by_cases hi : (i : Int) > 0
      · refine ev_ifp hi (ev_ifp (by omega) (ev_ifp (by omega) ?_))
        have hi' : ¬ (i : Int) ≤ 0 := by omega
        by_cases h3 : x.f0 ≤ (rd_T37 xs ((i : Int) - 1)).f0
        · refine ev_ifp h3 (ev_some ?_)
          have h3' : ¬ (rd_T37 xs ((i : Int) - 1)).f0 < x.f0 := by omega
          rw [decide_eq_true h1, decide_eq_false hi', decide_eq_false h3']
          simp
        · refine ev_ifn h3 ?_
          have h3' : (rd_T37 xs ((i : Int) - 1)).f0 < x.f0 := by omega
          by_cases h2 : 1 ≤ x.f2 ∧ x.f2 ≤ 10
          · refine ev_ifp (by simpa using h2) ?_
            rw [decide_eq_true h1, decide_eq_true h2, decide_eq_false hi', decide_eq_true h3']
            simpa only [Bool.true_and, Bool.false_or, Bool.and_assoc] using ht
          · refine ev_ifn (by simpa using h2) (ev_some ?_)
            rw [decide_eq_true h1, decide_eq_false h2]
            rfl
      · refine ev_ifn hi ?_
        have hi' : (i : Int) ≤ 0 := by omega
        by_cases h2 : 1 ≤ x.f2 ∧ x.f2 ≤ 10
        · refine ev_ifp (by simpa using h2) ?_
          rw [decide_eq_true h1, decide_eq_true h2, decide_eq_true hi']
          simpa only [Bool.true_and, Bool.true_or, Bool.and_assoc] using ht
        · refine ev_ifn (by simpa using h2) (ev_some ?_)
          rw [decide_eq_true h1, decide_eq_false h2]
          rfl
    · refine ev_ifn (by simpa using h1) (ev_some ?_)
      rw [decide_eq_false h1]
      rfl
theorem impl_AreSources_ev (xs : List S37) : Ev (fun k => impl_AreSources.f k xs) (sourcesG xs) := by
  unfold impl_AreSources.f sourcesG
  by_cases hx : xs.length ≤ 15
  · refine ev_ifn (by omega) ?_
    simpa [hx] using impl_AreSources_loop xs hx xs.length 0 (by omega)
  · exact ev_ifp (by omega) (ev_some (by simp [hx]))
theorem findG_bd (id : Int) (l : List S37) : ∀ s : Int, 0 ≤ s → findG l id s = -1 ∨ (s ≤ findG l id s ∧ findG l id s < s + l.length) := by
  induction l with
  | nil => intro s hs; exact .inl rfl
  | cons x xs ih =>
    intro s hs
    unfold findG
    by_cases h : x.f0 = id
    · rw [if_pos h]
      right
      simp only [List.length_cons]
      omega
    · rw [if_neg h]
      rcases ih (s + 1) (by omega) with e | e
      · exact .inl e
      · right
        simp only [List.length_cons]
        omega
theorem findG_app (id : Int) (l m : List S37) : ∀ s : Int, 0 ≤ s → 0 ≤ findG l id s → findG (l ++ m) id s = findG l id s := by
  induction l with
  | nil => intro s hs h; simp [findG] at h
  | cons x xs ih =>
    intro s hs h
    rw [List.cons_append]
    unfold findG at h ⊢
    by_cases e : x.f0 = id
    · rw [if_pos e, if_pos e]
    · rw [if_neg e] at h
      rw [if_neg e, if_neg e]
      exact ih (s + 1) (by omega) h
theorem findG_mem (id : Int) (l : List S37) : ∀ s : Int, 0 ≤ s → (∃ x, x ∈ l ∧ x.f0 = id) → 0 ≤ findG l id s := by
  induction l with
  | nil => rintro s hs ⟨x, hx, _⟩; cases hx
  | cons y xs ih =>
    rintro s hs ⟨x, hx, e⟩
    unfold findG
    by_cases h : y.f0 = id
    · rw [if_pos h]; exact hs
    · rw [if_neg h]
      rcases List.mem_cons.mp hx with rfl | hx
      · exact absurd e h
      · exact ih (s + 1) (by omega) ⟨x, hx, e⟩
theorem findG_val (id : Int) (l : List S37) : ∀ s : Int, 0 ≤ s → 0 ≤ findG l id s → ∃ h : (findG l id s - s).toNat < l.length, (l[(findG l id s - s).toNat]'h).f0 = id := by
  induction l with
  | nil => intro s hs h; simp [findG] at h
  | cons y xs ih =>
    intro s hs h
    by_cases e : y.f0 = id
    · have e0 : findG (y :: xs) id s = s := by unfold findG; rw [if_pos e]
      have e1 : (findG (y :: xs) id s - s).toNat = 0 := by rw [e0]; omega
      refine ⟨by rw [e1]; simp, ?_⟩
      simp only [e1]
      exact e
    · have e0 : findG (y :: xs) id s = findG xs id (s + 1) := by conv => lhs; unfold findG; rw [if_neg e]
      rw [e0] at h
      obtain ⟨hl, hv⟩ := ih (s + 1) (by omega) h
      have hb := findG_bd id xs (s + 1) (by omega)
      have e1 : (findG (y :: xs) id s - s).toNat = (findG xs id (s + 1) - (s + 1)).toNat + 1 := by rw [e0]; omega
      refine ⟨by rw [e1]; simp only [List.length_cons]; omega, ?_⟩
      simp only [e1, List.getElem_cons_succ]
      exact hv
theorem findG_take (id : Int) (xs : List S37) (i : Nat) (h : 0 ≤ findG (xs.take i) id 0) : findG xs id 0 = findG (xs.take i) id 0 ∧ findG (xs.take i) id 0 < i := by
  have h1 := findG_app id (xs.take i) (xs.drop i) 0 (by omega) h
  rw [List.take_append_drop] at h1
  refine ⟨h1, ?_⟩
  have := findG_bd id (xs.take i) 0 (by omega)
  have hl : (xs.take i).length ≤ i := by rw [List.length_take]; omega
  omega
theorem srcFrom_at (xs : List S37) (d : Nat) : ∀ (i : Int), srcFrom xs d i = true → ∀ j : Int, i ≤ j → j < i + d → srcAt xs j = true := by
  induction d with
  | zero => intro i h j h1 h2; omega
  | succ d ih =>
    intro i h j h1 h2
    unfold srcFrom at h
    rw [Bool.and_eq_true] at h
    by_cases e : j = i
    · rw [e]; exact h.1
    · exact ih (i + 1) h.2 j (by omega) (by omega)
theorem sourcesG_at (xs : List S37) (h : sourcesG xs = true) (j : Nat) (hj : j < xs.length) : srcAt xs j = true := by
  unfold sourcesG at h
  rw [Bool.and_eq_true] at h
  exact srcFrom_at xs xs.length 0 h.2 j (by omega) (by omega)
theorem src_back (xs : List S37) (h : sourcesG xs = true) (j : Nat) (hj : j < xs.length) (h1 : (rd_T37 xs (j : Int)).f1 ≠ 0) : 0 ≤ findG xs (rd_T37 xs (j : Int)).f1 0 ∧ findG xs (rd_T37 xs (j : Int)).f1 0 < j := by
  have hs := sourcesG_at xs h j hj
  unfold srcAt at hs
  simp only [Bool.and_eq_true, Bool.or_eq_true, decide_eq_true_eq, Int.toNat_natCast] at hs
  have hf := hs.2.resolve_left h1
  obtain ⟨e, hlt⟩ := findG_take _ xs j hf
  rw [e]
  exact ⟨hf, hlt⟩
def rootF (xs : List S37) : Nat → Int → Int
  | 0, i => (rd_T37 xs i).f0
  | n + 1, i => if (rd_T37 xs i).f1 = 0 then (rd_T37 xs i).f0 else rootF xs n (findG xs (rd_T37 xs i).f1 0)
def rootG (xs : List S37) (id : Int) : Int := if findG xs id 0 < 0 then 0 else if sourcesG xs = true then rootF xs xs.length (findG xs id 0) else 0
theorem spec_RootOf_loop (xs : List S37) (hx : xs.length ≤ 2000000) (hs : sourcesG xs = true) (n : Nat) : ∀ i : Nat, i < xs.length → i < n → Ev (fun k => spec_RootOf.l0 k xs (i : Int)) (rootF xs n i) := by
  induction n with
  | zero => intro i _ h; omega
  | succ n ih =>
    intro i hi hn
    apply ev_succ
    simp only [spec_RootOf.l0]
    refine ev_ifp (by omega) (ev_ifp (by omega) ?_)
    unfold rootF
    by_cases h : (rd_T37 xs (i : Int)).f1 = 0
    · rw [if_pos h]
      exact ev_ifp h (ev_some rfl)
    · rw [if_neg h]
      refine ev_ifn h (Ev.bind (spec_find_ev xs _ hx) ?_)
      obtain ⟨h0, h1⟩ := src_back xs hs i hi h
      have := ih (findG xs (rd_T37 xs (i : Int)).f1 0).toNat (by omega) (by omega)
      rwa [show (((findG xs (rd_T37 xs (i : Int)).f1 0).toNat : Nat) : Int) = findG xs (rd_T37 xs (i : Int)).f1 0 by omega] at this
theorem spec_RootOf_ev (xs : List S37) (id : Int) (hx : xs.length ≤ 2000000) : Ev (fun k => spec_RootOf.f k xs id) (rootG xs id) := by
  unfold spec_RootOf.f rootG
  refine Ev.bind (spec_find_ev xs id hx) ?_
  by_cases h : findG xs id 0 < 0
  · rw [if_pos h]
    refine ev_ifp h ?_
    apply ev_succ
    simp only [spec_RootOf.j0, if_true]
    exact Ev.now _
  · rw [if_neg h]
    refine ev_ifn h (Ev.bind (spec_AreSources_ev xs hx) ?_)
    apply ev_succ
    simp only [spec_RootOf.j0]
    by_cases hs : sourcesG xs = true
    · rw [if_pos hs]
      refine ev_ifn (by simp [hs]) ?_
      have hb := findG_bd id xs 0 (by omega)
      have := spec_RootOf_loop xs hx hs xs.length (findG xs id 0).toNat (by omega) (by omega)
      rwa [show (((findG xs id 0).toNat : Nat) : Int) = findG xs id 0 by omega] at this
    · rw [if_neg hs]
      exact ev_ifp (by simp [hs]) (ev_some rfl)
theorem impl_RootOf_loop (xs : List S37) (hx : xs.length ≤ 2000000) (hs : sourcesG xs = true) (n : Nat) : ∀ i : Nat, i < xs.length → i < n → Ev (fun k => impl_RootOf.l0 k xs (i : Int)) (rootF xs n i) := by
  induction n with
  | zero => intro i _ h; omega
  | succ n ih =>
    intro i hi hn
    apply ev_succ
    simp only [impl_RootOf.l0]
    refine ev_ifp (by omega) (ev_ifp (by omega) ?_)
    unfold rootF
    by_cases h : (rd_T37 xs (i : Int)).f1 = 0
    · rw [if_pos h]
      exact ev_ifp h (ev_some rfl)
    · rw [if_neg h]
      refine ev_ifn h (Ev.bind (impl_find_ev xs _ hx) ?_)
      obtain ⟨h0, h1⟩ := src_back xs hs i hi h
      have := ih (findG xs (rd_T37 xs (i : Int)).f1 0).toNat (by omega) (by omega)
      rwa [show (((findG xs (rd_T37 xs (i : Int)).f1 0).toNat : Nat) : Int) = findG xs (rd_T37 xs (i : Int)).f1 0 by omega] at this
theorem impl_RootOf_ev (xs : List S37) (id : Int) (hx : xs.length ≤ 2000000) : Ev (fun k => impl_RootOf.f k xs id) (rootG xs id) := by
  unfold impl_RootOf.f rootG
  refine Ev.bind (impl_find_ev xs id hx) (Ev.bind (impl_AreSources_ev xs) ?_)
  by_cases hs : sourcesG xs = true
  · rw [if_pos hs]
    refine ev_ifp hs ?_
    apply ev_succ
    simp only [impl_RootOf.j0]
    by_cases h : findG xs id 0 < 0
    · rw [if_pos h]
      exact ev_ifp (by simp [h]) (ev_some rfl)
    · rw [if_neg h]
      refine ev_ifn (by simp; omega) ?_
      have hb := findG_bd id xs 0 (by omega)
      have := impl_RootOf_loop xs hx hs xs.length (findG xs id 0).toNat (by omega) (by omega)
      rwa [show (((findG xs id 0).toNat : Nat) : Int) = findG xs id 0 by omega] at this
  · rw [if_neg hs]
    refine ev_ifn hs ?_
    apply ev_succ
    simp only [impl_RootOf.j0, if_true]
    exact ev_some (by split <;> rfl)
theorem rootF_mem (xs : List S37) (hs : sourcesG xs = true) (n : Nat) : ∀ i : Nat, i < xs.length → ∃ x, x ∈ xs ∧ x.f0 = rootF xs n i := by
  induction n with
  | zero =>
    intro i hi
    exact ⟨xs[i], List.getElem_mem hi, by unfold rootF; rw [rd37 xs i hi]⟩
  | succ n ih =>
    intro i hi
    unfold rootF
    by_cases h : (rd_T37 xs (i : Int)).f1 = 0
    · rw [if_pos h]
      exact ⟨xs[i], List.getElem_mem hi, by rw [rd37 xs i hi]⟩
    · rw [if_neg h]
      obtain ⟨h0, h1⟩ := src_back xs hs i hi h
      have := ih (findG xs (rd_T37 xs (i : Int)).f1 0).toNat (by omega)
      rwa [show (((findG xs (rd_T37 xs (i : Int)).f1 0).toNat : Nat) : Int) = findG xs (rd_T37 xs (i : Int)).f1 0 by omega] at this
theorem rootG_find (xs : List S37) (id : Int) (h : rootG xs id ≠ 0) : 0 ≤ findG xs (rootG xs id) 0 := by
  unfold rootG at h ⊢
  by_cases h1 : findG xs id 0 < 0
  · rw [if_pos h1] at h; exact absurd rfl h
  · rw [if_neg h1] at h ⊢
    by_cases hs : sourcesG xs = true
    · rw [if_pos hs] at h ⊢
      have hb := findG_bd id xs 0 (by omega)
      have := rootF_mem xs hs xs.length (findG xs id 0).toNat (by omega)
      rw [show (((findG xs id 0).toNat : Nat) : Int) = findG xs id 0 by omega] at this
      exact findG_mem _ xs 0 (by omega) this
    · rw [if_neg hs] at h; exact absurd rfl h
def twistG (xs : List S37) (id : Int) : Bool := decide (0 ≤ findG xs id 0) && decide (rootG xs id ≠ 0) && ((rd_T37 xs (findG xs id 0)).f3 != (rd_T37 xs (findG xs (rootG xs id) 0)).f3)
theorem spec_IsTwisted_ev (xs : List S37) (id : Int) (hx : xs.length ≤ 2000000) : Ev (fun k => spec_IsTwisted.f k xs id) (twistG xs id) := by
  unfold spec_IsTwisted.f twistG
  refine Ev.bind (spec_find_ev xs id hx) (Ev.bind (spec_RootOf_ev xs id hx) (Ev.bind (spec_find_ev xs _ hx) ?_))
  by_cases h1 : 0 ≤ findG xs id 0
  · refine ev_ifp h1 ?_
    by_cases h2 : rootG xs id = 0
    · exact ev_ifp h2 (ev_some (by simp [h2]))
    · refine ev_ifn h2 ?_
      have h3 := rootG_find xs id h2
      have hb := findG_bd id xs 0 (by omega)
      have hc := findG_bd (rootG xs id) xs 0 (by omega)
      exact ev_ifp h3 (ev_ifp h1 (ev_ifp (by omega) (ev_ifp h3 (ev_ifp (by omega) (ev_some (by simp [h1, h2]))))))
  · exact ev_ifn h1 (ev_some (by simp [h1]))
theorem impl_IsTwisted_ev (xs : List S37) (id : Int) (hx : xs.length ≤ 2000000) : Ev (fun k => impl_IsTwisted.f k xs id) (twistG xs id) := by
  unfold impl_IsTwisted.f twistG
  refine Ev.bind (impl_find_ev xs id hx) (Ev.bind (impl_RootOf_ev xs id hx) ?_)
  by_cases h1 : 0 ≤ findG xs id 0
  · refine ev_ifp h1 ?_
    by_cases h2 : rootG xs id = 0
    · exact ev_ifp h2 (ev_some (by simp [h2]))
    · have h3 := rootG_find xs id h2
      have hb := findG_bd id xs 0 (by omega)
      have hc := findG_bd (rootG xs id) xs 0 (by omega)
      exact ev_ifn h2 (ev_ifp h1 (ev_ifp (by omega) (Ev.bind (impl_find_ev xs _ hx) (ev_ifp h3 (ev_ifp (by omega) (ev_some (by simp [h1, h2])))))))
  · exact ev_ifn h1 (ev_some (by simp [h1]))
def laws_FnExactIsTwisted.Pure : Prop := ∀ (l0 : List (S34)) (a1 : Int), (l0.length ≤ maxLen ∧ ∀ y22 ∈ l0, ((Lit.int .i64 y22.f0).wf = true) ∧ ((Lit.int .i64 y22.f1).wf = true) ∧ ((Lit.int .i64 y22.f2).wf = true) ∧ (True)) → ((Lit.int .i64 a1).wf = true) → ∃ k, laws_FnExactIsTwisted.f k l0 a1 = some true
theorem FnExactIsTwisted : laws_FnExactIsTwisted.Pure := by
  intro l a hg _
  apply Ev.rounds
  unfold laws_FnExactIsTwisted.f
  rw [szSource_eq l _ hg.1 (by omega) (by omega)]
  simp only [Option.bind_some]
  by_cases h : (l.length : Int) ≤ 1048576
  · rw [if_pos h]
    refine ev_ifn (by omega) ?_
    have ht := toSourceS_ev l (by omega)
    have hlen : (l.map upSource).length = l.length := by simp
    have he := eqSourceS_ev (l.map upSource) (by omega)
    exact Ev.bind ht (Ev.bind (spec_IsTwisted_ev _ a (by omega)) (Ev.bind ht (Ev.bind (impl_IsTwisted_ev _ a (by omega)) (ev_ifn (by simp) (Ev.bind ht (Ev.bind he (ev_ifp rfl (Ev.now _))))))))
  · rw [if_neg h]
    exact ev_ifp (by omega) (Ev.now _)

end Go.Proofs.Ytfcidjlnokhkjaa.Pure
