/- The program's FirstChoice answers what the reference's answers, for all arguments.
No condition: for every input. -/
import Derived.Test.YtimikonnmcgljaaPFnExactFirstChoicex2
set_option linter.unusedVariables false
set_option linter.unusedSimpArgs false
set_option maxHeartbeats 1000000
namespace Go.Proofs.Ytimikonnmcgljaa.Pure
open Go.RowKit Go.Proofs.Ytimikonnmcgljaa.PFnExactFirstChoice Go.Proofs.YtimikonnmcgljaaW.PrintWords Go.Proofs.YtimikonnmcgljaaW.PrintLast

theorem w64 {x : Int} (h1 : -9223372036854775808 ≤ x) (h2 : x ≤ 9223372036854775807) : wrap64 x = x := by unfold wrap64; omega
theorem wf64 {x : Int} (h : (Lit.int .i64 x).wf = true) : -9223372036854775808 ≤ x ∧ x ≤ 9223372036854775807 := by
  simp only [Lit.wf, Bool.and_eq_true, decide_eq_true_eq] at h
  have e1 : IntKind.min .i64 = -9223372036854775808 := by decide
  have e2 : IntKind.max .i64 = 9223372036854775807 := by decide
  omega
theorem wfu8 {x : Int} (h : (Lit.int .u8 x).wf = true) : 0 ≤ x ∧ x ≤ 255 := by
  simp only [Lit.wf, Bool.and_eq_true, decide_eq_true_eq] at h
  have e1 : IntKind.min .u8 = 0 := by decide
  have e2 : IntKind.max .u8 = 255 := by decide
  omega
theorem ev_succ {α : Type} {g : Nat → Option α} {r : α} (h : Ev (fun k => g (k + 1)) r) : Ev g r := Ev.step (fun _ => rfl) h
theorem ev_some {α : Type} {r s : α} (h : r = s) : Ev (fun _ => some r) s := by subst h; exact Ev.now r
theorem ev_fix {α : Type} {o : Option α} {r : α} (h : o = some r) : Ev (fun _ => o) r := ⟨0, fun _ _ => h⟩
theorem ev_at {α : Type} {g : Nat → Option α} {r : α} (n : Nat) (h : ∀ k, g (k + n) = some r) : Ev g r :=
  ⟨n, fun k hk => by obtain ⟨m, rfl⟩ : ∃ m, k = m + n := ⟨k - n, by omega⟩; exact h m⟩
theorem ev_bindc {α β : Type} {o : Option α} {f : Nat → α → Option β} {a : α} {r : β} (h : o = some a) (k : Ev (fun n => f n a) r) : Ev (fun n => o.bind (f n)) r := by
  subst h; exact k
theorem ev_ifp {α : Type} {c : Prop} [Decidable c] {a b : Nat → Option α} {r : α} (h : c) (k : Ev a r) : Ev (fun n => if c then a n else b n) r := by
  simpa only [if_pos h] using k
theorem ev_ifn {α : Type} {c : Prop} [Decidable c] {a b : Nat → Option α} {r : α} (h : ¬ c) (k : Ev b r) : Ev (fun n => if c then a n else b n) r := by
  simpa only [if_neg h] using k
theorem rd_nat (xs : List Int) (i : Nat) (h : i < xs.length) : rd xs (i : Int) = xs[i] := by
  unfold rd
  simp [List.getD_eq_getElem?_getD, h]
theorem toIntS_loop (xs : List Int) (hx : xs.length ≤ 17592186044416) (d : Nat) : ∀ (i : Nat) (ys : List Int), ys.length = xs.length → i + d = xs.length → ys.take i = xs.take i →
    Ev (fun k => laws_toIntS.l0 k xs ys (i : Int)) xs := by
  induction d with
  | zero =>
    intro i ys hl hd ht
    apply ev_succ
    simp only [laws_toIntS.l0]
    refine ev_ifn (by omega) ?_
    have e : ys = xs := by rw [← List.take_length (l := xs), ← show i = xs.length by omega, ← ht, List.take_of_length_le (by omega)]
    rw [e]
    exact Ev.now _
  | succ d ih =>
    intro i ys hl hd ht
    apply ev_succ
    simp only [laws_toIntS.l0]
    refine ev_ifp (by omega) (ev_ifp (by omega) (ev_ifp (by omega) ?_))
    rw [w64 (by omega) (by omega)]
    have hi : i < xs.length := by omega
    have := ih (i + 1) (ys.set i (rd xs (i : Int))) (by simpa using hl) (by omega) (by
      rw [List.take_succ_eq_append_getElem hi, List.take_succ_eq_append_getElem (by simpa using (by omega : i < ys.length)), List.getElem_set_self, rd_nat xs i hi, List.take_set_of_le (by omega), ht])
    simpa using this
theorem toIntS_ev (xs : List Int) (hx : xs.length ≤ 17592186044416) : Ev (fun k => laws_toIntS.f k xs) xs := by
  unfold laws_toIntS.f
  refine ev_ifp (by omega) (ev_ifp (by omega) ?_)
  exact toIntS_loop xs hx xs.length 0 _ (by simp) (by omega) (by simp)
theorem eqIntS_loop (xs : List Int) (hx : xs.length ≤ 17592186044416) (d : Nat) : ∀ (i : Nat), i + d = xs.length → Ev (fun k => laws_eqIntS.l0 k xs xs (i : Int)) true := by
  induction d with
  | zero =>
    intro i hd
    apply ev_succ
    simp only [laws_eqIntS.l0]
    refine ev_ifn (by omega) ?_
    exact Ev.now _
  | succ d ih =>
    intro i hd
    apply ev_succ
    simp only [laws_eqIntS.l0]
    refine ev_ifp (by omega) (ev_ifp (by omega) (ev_ifp (by omega) ?_))
    rw [w64 (by omega) (by omega)]
    simpa using ih (i + 1) (by omega)
theorem eqIntS_ev (xs : List Int) (hx : xs.length ≤ 17592186044416) : Ev (fun k => laws_eqIntS.f k xs xs) true := by
  unfold laws_eqIntS.f
  refine ev_ifp rfl ?_
  exact eqIntS_loop xs hx xs.length 0 (by omega)
theorem drop_rd (xs : List Int) (i : Nat) (h : i < xs.length) : xs.drop i = rd xs (i : Int) :: xs.drop (i + 1) := by
  rw [List.drop_eq_getElem_cons h]
  simp [rd, List.getD_eq_getElem?_getD, h]
theorem l4Has_loop (xs : List Int) (n : Int) (hx : xs.length ≤ 17592186044416) (d : Nat) : ∀ i : Nat, i + d = xs.length → Ev (fun k => spec_l4Has.l0 k xs n (i : Int)) (decide (n ∈ xs.drop i)) := by
  induction d with
  | zero =>
    intro i hd
    apply ev_succ
    simp only [spec_l4Has.l0]
    refine ev_ifn (by omega) (ev_some ?_)
    rw [List.drop_eq_nil_of_le (by omega)]
    simp
  | succ d ih =>
    intro i hd
    apply ev_succ
    simp only [spec_l4Has.l0]
    refine ev_ifp (by omega) (ev_ifp (by omega) ?_)
    rw [w64 (by omega) (by omega), drop_rd xs i (by omega)]
    by_cases h : rd xs (i : Int) = n
    · exact ev_ifp h (ev_some (by simp [h]))
    · refine ev_ifn h ?_
      have := ih (i + 1) (by omega)
      have h' : ¬ n = rd xs (i : Int) := fun e => h e.symm
      simpa [h'] using this
theorem l4Has_ev (xs : List Int) (n : Int) (hx : xs.length ≤ 17592186044416) : Ev (fun k => spec_l4Has.f k xs n) (decide (n ∈ xs)) := by
  unfold spec_l4Has.f
  simpa using l4Has_loop xs n hx xs.length 0 (by omega)
def idxG : List Int → Int → Int
  | [], _ => -1
  | x :: xs, v => if v = x then 0 else if idxG xs v < 0 then -1 else idxG xs v + 1
theorem idxG_range (xs : List Int) (v : Int) : -1 ≤ idxG xs v ∧ idxG xs v < xs.length := by
  induction xs with
  | nil => simp [idxG]
  | cons x xs ih =>
    unfold idxG
    simp only [List.length_cons]
    split
    · omega
    · split <;> omega
theorem idxG_neg (xs : List Int) (v : Int) : idxG xs v < 0 ↔ v ∉ xs := by
  induction xs with
  | nil => simp [idxG]
  | cons x xs ih =>
    unfold idxG
    by_cases h : v = x
    · simp [h]
    · rw [if_neg h]
      by_cases h2 : idxG xs v < 0
      · rw [if_pos h2]
        simp [h, ih.1 h2]
      · rw [if_neg h2]
        have h3 : v ∈ xs := by
          rcases Decidable.em (v ∈ xs) with h4 | h4
          · exact h4
          · exact absurd (ih.2 h4) h2
        simp [h, h3]
        omega
theorem idxG_at (xs : List Int) (v : Int) (h : 0 ≤ idxG xs v) : rd xs (idxG xs v) = v ∧ v ∉ xs.take (idxG xs v).toNat := by
  induction xs with
  | nil => simp [idxG] at h
  | cons x xs ih =>
    unfold idxG at h ⊢
    by_cases h1 : v = x
    · subst h1
      simp [rd]
    · rw [if_neg h1] at h ⊢
      by_cases h2 : idxG xs v < 0
      · rw [if_pos h2] at h
        omega
      · rw [if_neg h2] at h ⊢
        obtain ⟨m, hm⟩ : ∃ m : Nat, idxG xs v = m := ⟨(idxG xs v).toNat, by omega⟩
        obtain ⟨e1, e2⟩ := ih (by omega)
        rw [hm] at e1 e2 ⊢
        have e3 : ((m : Int) + 1).toNat = m + 1 := by omega
        rw [rd, e3]
        rw [rd, Int.toNat_natCast] at e1
        rw [Int.toNat_natCast] at e2
        exact ⟨by simpa using e1, by simpa [h1] using e2⟩
theorem Index_loop (xs : List Int) (v : Int) (hx : xs.length ≤ 17592186044416) (d : Nat) : ∀ i : Nat, i + d = xs.length →
    Ev (fun k => slices_Index_int_int.l0 k xs v (xs.length : Int) (i : Int)) (if idxG (xs.drop i) v < 0 then -1 else idxG (xs.drop i) v + i) := by
  induction d with
  | zero =>
    intro i hd
    apply ev_succ
    simp only [slices_Index_int_int.l0]
    refine ev_ifn (by omega) (ev_some ?_)
    rw [List.drop_eq_nil_of_le (by omega)]
    simp [idxG]
  | succ d ih =>
    intro i hd
    apply ev_succ
    simp only [slices_Index_int_int.l0]
    refine ev_ifp (by omega) (ev_ifp (by omega) (ev_ifp (by omega) ?_))
    rw [w64 (by omega) (by omega), drop_rd xs i (by omega)]
    unfold idxG
    by_cases h : v = rd xs (i : Int)
    · refine ev_ifp h (ev_some ?_)
      rw [if_pos h]
      simp
    · refine ev_ifn h ?_
      have := ih (i + 1) (by omega)
      rw [if_neg h]
      have hr := idxG_range (xs.drop (i + 1)) v
      have e : (if (if idxG (xs.drop (i + 1)) v < 0 then -1 else idxG (xs.drop (i + 1)) v + 1) < 0 then (-1 : Int) else (if idxG (xs.drop (i + 1)) v < 0 then -1 else idxG (xs.drop (i + 1)) v + 1) + (i : Int)) = if idxG (xs.drop (i + 1)) v < 0 then -1 else idxG (xs.drop (i + 1)) v + ((i + 1 : Nat) : Int) := by
        split
        · simp
        · rw [if_neg (by omega)]
          omega
      rw [e]
      simpa using this
theorem Index_ev (xs : List Int) (v : Int) (hx : xs.length ≤ 17592186044416) : Ev (fun k => slices_Index_int_int.f k xs v) (idxG xs v) := by
  unfold slices_Index_int_int.f
  have := Index_loop xs v hx xs.length 0 (by omega)
  have hr := idxG_range xs v
  simp only [List.drop_zero] at this
  have e : (if idxG xs v < 0 then -1 else idxG xs v + ((0 : Nat) : Int)) = idxG xs v := by split <;> omega
  rw [e] at this
  exact this
theorem Contains_ev (xs : List Int) (v : Int) (hx : xs.length ≤ 17592186044416) : Ev (fun k => slices_Contains_int_int.f k xs v) (decide (v ∈ xs)) := by
  unfold slices_Contains_int_int.f
  refine Ev.bind (Index_ev xs v hx) (ev_some ?_)
  have := idxG_neg xs v
  by_cases h : v ∈ xs
  · have h2 : ¬ idxG xs v < 0 := fun h3 => this.1 h3 h
    simp [h]
    omega
  · have h2 := this.2 h
    simp [h]
    omega
theorem choice_both (a b : List Int) (ha : a.length ≤ 1048576) (hb : b.length ≤ 1048576) (d : Nat) : ∀ i : Nat, i + d = b.length →
    ∃ r, Ev (fun k => spec_FirstChoice.l0 k a b (i : Int)) r ∧ Ev (fun k => impl_FirstChoice.l0 k a b (b.length : Int) (i : Int)) r := by
  induction d with
  | zero =>
    intro i hd
    refine ⟨0, ?_, ?_⟩
    · apply ev_succ
      simp only [spec_FirstChoice.l0]
      exact ev_ifn (by omega) (Ev.now _)
    · apply ev_succ
      simp only [impl_FirstChoice.l0]
      exact ev_ifn (by omega) (Ev.now _)
  | succ d ih =>
    intro i hd
    have e1 : wrap64 ((i : Int) + 1) = ((i + 1 : Nat) : Int) := by rw [w64 (by omega) (by omega)]; simp
    by_cases h1 : rd b (i : Int) ∈ a
    · refine ⟨rd b (i : Int), ?_, ?_⟩
      · apply ev_succ
        simp only [spec_FirstChoice.l0]
        exact ev_ifp (by omega) (ev_ifp (by omega) (Ev.bind (l4Has_ev a _ (by omega)) (ev_ifp (by simpa using h1) (Ev.now _))))
      · apply ev_succ
        simp only [impl_FirstChoice.l0]
        exact ev_ifp (by omega) (ev_ifp (by omega) (ev_ifp (by omega) (Ev.bind (Contains_ev a _ (by omega)) (ev_ifp (by simpa using h1) (Ev.now _)))))
    · obtain ⟨r, hs, hi⟩ := ih (i + 1) (by omega)
      refine ⟨r, ?_, ?_⟩
      · apply ev_succ
        simp only [spec_FirstChoice.l0]
        rw [e1]
        exact ev_ifp (by omega) (ev_ifp (by omega) (Ev.bind (l4Has_ev a _ (by omega)) (ev_ifn (by simpa using h1) hs)))
      · apply ev_succ
        simp only [impl_FirstChoice.l0]
        rw [e1]
        exact ev_ifp (by omega) (ev_ifp (by omega) (ev_ifp (by omega) (Ev.bind (Contains_ev a _ (by omega)) (ev_ifn (by simpa using h1) hi))))
theorem FnExactFirstChoice : laws_FnExactFirstChoice.Pure := by
  intro a b _ _ _ _ _ _
  apply Ev.rounds
  unfold laws_FnExactFirstChoice.f
  by_cases ha : (a.length : Int) > 1048576
  · exact ev_ifp ha (Ev.now _)
  by_cases hb : (b.length : Int) > 1048576
  · exact ev_ifn ha (ev_ifp hb (Ev.now _))
  have ta := toIntS_ev a (by omega)
  have tb := toIntS_ev b (by omega)
  have ea := eqIntS_ev a (by omega)
  have eb := eqIntS_ev b (by omega)
  obtain ⟨r, hs, hi⟩ := choice_both a b (by omega) (by omega) b.length 0 (by omega)
  exact ev_ifn ha (ev_ifn hb (Ev.bind ta (Ev.bind tb (Ev.bind hs (Ev.bind ta (Ev.bind tb (Ev.bind hi (ev_ifp rfl (Ev.bind ta (Ev.bind ea (ev_ifp rfl (Ev.bind tb (Ev.bind eb (ev_ifp rfl (Ev.now _)))))))))))))))

end Go.Proofs.Ytimikonnmcgljaa.Pure
