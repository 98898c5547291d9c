/- The program's Strike answers what the reference's answers, for all arguments.
No condition: for every input. -/
import Derived.Test.YtimikonnmcgljaaQFnExactStrikex3
set_option linter.unusedVariables false
set_option linter.unusedSimpArgs false
set_option maxHeartbeats 1000000
namespace Go.Proofs.Ytimikonnmcgljaa.Pure
open Go.RowKit Go.Proofs.Ytimikonnmcgljaa.QFnExactStrike Go.Proofs.YtimikonnmcgljaaW.PrintWords Go.Proofs.YtimikonnmcgljaaW.PrintLast

theorem w64 {x : Int} (h1 : -9223372036854775808 ≤ x) (h2 : x ≤ 9223372036854775807) : wrap64 x = x := by unfold wrap64; omega
theorem wf64 {x : Int} (h : (Lit.int .i64 x).wf = true) : -9223372036854775808 ≤ x ∧ x ≤ 9223372036854775807 := by
  simp only [Lit.wf, Bool.and_eq_true, decide_eq_true_eq] at h
  have e1 : IntKind.min .i64 = -9223372036854775808 := by decide
  have e2 : IntKind.max .i64 = 9223372036854775807 := by decide
  omega
theorem wfu8 {x : Int} (h : (Lit.int .u8 x).wf = true) : 0 ≤ x ∧ x ≤ 255 := by
  simp only [Lit.wf, Bool.and_eq_true, decide_eq_true_eq] at h
  have e1 : IntKind.min .u8 = 0 := by decide
  have e2 : IntKind.max .u8 = 255 := by decide
  omega
theorem ev_succ {α : Type} {g : Nat → Option α} {r : α} (h : Ev (fun k => g (k + 1)) r) : Ev g r := Ev.step (fun _ => rfl) h
theorem ev_some {α : Type} {r s : α} (h : r = s) : Ev (fun _ => some r) s := by subst h; exact Ev.now r
theorem ev_fix {α : Type} {o : Option α} {r : α} (h : o = some r) : Ev (fun _ => o) r := ⟨0, fun _ _ => h⟩
theorem ev_at {α : Type} {g : Nat → Option α} {r : α} (n : Nat) (h : ∀ k, g (k + n) = some r) : Ev g r :=
  ⟨n, fun k hk => by obtain ⟨m, rfl⟩ : ∃ m, k = m + n := ⟨k - n, by omega⟩; exact h m⟩
theorem ev_bindc {α β : Type} {o : Option α} {f : Nat → α → Option β} {a : α} {r : β} (h : o = some a) (k : Ev (fun n => f n a) r) : Ev (fun n => o.bind (f n)) r := by
  subst h; exact k
theorem ev_ifp {α : Type} {c : Prop} [Decidable c] {a b : Nat → Option α} {r : α} (h : c) (k : Ev a r) : Ev (fun n => if c then a n else b n) r := by
  simpa only [if_pos h] using k
theorem ev_ifn {α : Type} {c : Prop} [Decidable c] {a b : Nat → Option α} {r : α} (h : ¬ c) (k : Ev b r) : Ev (fun n => if c then a n else b n) r := by
  simpa only [if_neg h] using k
theorem spec_l1In_eq (a b c : Int) : spec_l1In.f a b c = some (decide (b ≤ a ∧ a ≤ c)) := by
  unfold spec_l1In.f
  by_cases h : a ≥ b
  · have h' : b ≤ a := h
    simp [h']
  · have h' : ¬ b ≤ a := h
    simp [h']
theorem impl_InRange_eq (a b c : Int) : impl_InRange.f a b c = some (decide (b ≤ a ∧ a ≤ c)) := by
  unfold impl_InRange.f
  by_cases h : b ≤ a <;> simp [h]
theorem rd_nat (xs : List Int) (i : Nat) (h : i < xs.length) : rd xs (i : Int) = xs[i] := by
  unfold rd
  simp [List.getD_eq_getElem?_getD, h]
theorem toIntS_loop (xs : List Int) (hx : xs.length ≤ 17592186044416) (d : Nat) : ∀ (i : Nat) (ys : List Int), ys.length = xs.length → i + d = xs.length → ys.take i = xs.take i →
    Ev (fun k => laws_toIntS.l0 k xs ys (i : Int)) xs := by
  induction d with
  | zero =>
    intro i ys hl hd ht
    apply ev_succ
    simp only [laws_toIntS.l0]
    refine ev_ifn (by omega) ?_
    have e : ys = xs := by rw [← List.take_length (l := xs), ← show i = xs.length by omega, ← ht, List.take_of_length_le (by omega)]
    rw [e]
    exact Ev.now _
  | succ d ih =>
    intro i ys hl hd ht
    apply ev_succ
    simp only [laws_toIntS.l0]
    refine ev_ifp (by omega) (ev_ifp (by omega) (ev_ifp (by omega) ?_))
    rw [w64 (by omega) (by omega)]
    have hi : i < xs.length := by omega
    have := ih (i + 1) (ys.set i (rd xs (i : Int))) (by simpa using hl) (by omega) (by
      rw [List.take_succ_eq_append_getElem hi, List.take_succ_eq_append_getElem (by simpa using (by omega : i < ys.length)), List.getElem_set_self, rd_nat xs i hi, List.take_set_of_le (by omega), ht])
    simpa using this
theorem toIntS_ev (xs : List Int) (hx : xs.length ≤ 17592186044416) : Ev (fun k => laws_toIntS.f k xs) xs := by
  unfold laws_toIntS.f
  refine ev_ifp (by omega) (ev_ifp (by omega) ?_)
  exact toIntS_loop xs hx xs.length 0 _ (by simp) (by omega) (by simp)
theorem eqIntS_loop (xs : List Int) (hx : xs.length ≤ 17592186044416) (d : Nat) : ∀ (i : Nat), i + d = xs.length → Ev (fun k => laws_eqIntS.l0 k xs xs (i : Int)) true := by
  induction d with
  | zero =>
    intro i hd
    apply ev_succ
    simp only [laws_eqIntS.l0]
    refine ev_ifn (by omega) ?_
    exact Ev.now _
  | succ d ih =>
    intro i hd
    apply ev_succ
    simp only [laws_eqIntS.l0]
    refine ev_ifp (by omega) (ev_ifp (by omega) (ev_ifp (by omega) ?_))
    rw [w64 (by omega) (by omega)]
    simpa using ih (i + 1) (by omega)
theorem eqIntS_ev (xs : List Int) (hx : xs.length ≤ 17592186044416) : Ev (fun k => laws_eqIntS.f k xs xs) true := by
  unfold laws_eqIntS.f
  refine ev_ifp rfl ?_
  exact eqIntS_loop xs hx xs.length 0 (by omega)
theorem drop_rd (xs : List Int) (i : Nat) (h : i < xs.length) : xs.drop i = rd xs (i : Int) :: xs.drop (i + 1) := by
  rw [List.drop_eq_getElem_cons h]
  simp [rd, List.getD_eq_getElem?_getD, h]
theorem l4Has_loop (xs : List Int) (n : Int) (hx : xs.length ≤ 17592186044416) (d : Nat) : ∀ i : Nat, i + d = xs.length → Ev (fun k => spec_l4Has.l0 k xs n (i : Int)) (decide (n ∈ xs.drop i)) := by
  induction d with
  | zero =>
    intro i hd
    apply ev_succ
    simp only [spec_l4Has.l0]
    refine ev_ifn (by omega) (ev_some ?_)
    rw [List.drop_eq_nil_of_le (by omega)]
    simp
  | succ d ih =>
    intro i hd
    apply ev_succ
    simp only [spec_l4Has.l0]
    refine ev_ifp (by omega) (ev_ifp (by omega) ?_)
    rw [w64 (by omega) (by omega), drop_rd xs i (by omega)]
    by_cases h : rd xs (i : Int) = n
    · exact ev_ifp h (ev_some (by simp [h]))
    · refine ev_ifn h ?_
      have := ih (i + 1) (by omega)
      have h' : ¬ n = rd xs (i : Int) := fun e => h e.symm
      simpa [h'] using this
theorem l4Has_ev (xs : List Int) (n : Int) (hx : xs.length ≤ 17592186044416) : Ev (fun k => spec_l4Has.f k xs n) (decide (n ∈ xs)) := by
  unfold spec_l4Has.f
  simpa using l4Has_loop xs n hx xs.length 0 (by omega)
def idxG : List Int → Int → Int
  | [], _ => -1
  | x :: xs, v => if v = x then 0 else if idxG xs v < 0 then -1 else idxG xs v + 1
theorem idxG_range (xs : List Int) (v : Int) : -1 ≤ idxG xs v ∧ idxG xs v < xs.length := by
  induction xs with
  | nil => simp [idxG]
  | cons x xs ih =>
    unfold idxG
    simp only [List.length_cons]
    split
    · omega
    · split <;> omega
theorem idxG_neg (xs : List Int) (v : Int) : idxG xs v < 0 ↔ v ∉ xs := by
  induction xs with
  | nil => simp [idxG]
  | cons x xs ih =>
    unfold idxG
    by_cases h : v = x
    · simp [h]
    · rw [if_neg h]
      by_cases h2 : idxG xs v < 0
      · rw [if_pos h2]
        simp [h, ih.1 h2]
      · rw [if_neg h2]
        have h3 : v ∈ xs := by
          rcases Decidable.em (v ∈ xs) with h4 | h4
          · exact h4
          · exact absurd (ih.2 h4) h2
        simp [h, h3]
        omega
theorem idxG_at (xs : List Int) (v : Int) (h : 0 ≤ idxG xs v) : rd xs (idxG xs v) = v ∧ v ∉ xs.take (idxG xs v).toNat := by
  induction xs with
  | nil => simp [idxG] at h
  | cons x xs ih =>
    unfold idxG at h ⊢
    by_cases h1 : v = x
    · subst h1
      simp [rd]
    · rw [if_neg h1] at h ⊢
      by_cases h2 : idxG xs v < 0
      · rw [if_pos h2] at h
        omega
      · rw [if_neg h2] at h ⊢
        obtain ⟨m, hm⟩ : ∃ m : Nat, idxG xs v = m := ⟨(idxG xs v).toNat, by omega⟩
        obtain ⟨e1, e2⟩ := ih (by omega)
        rw [hm] at e1 e2 ⊢
        have e3 : ((m : Int) + 1).toNat = m + 1 := by omega
        rw [rd, e3]
        rw [rd, Int.toNat_natCast] at e1
        rw [Int.toNat_natCast] at e2
        exact ⟨by simpa using e1, by simpa [h1] using e2⟩
theorem Index_loop (xs : List Int) (v : Int) (hx : xs.length ≤ 17592186044416) (d : Nat) : ∀ i : Nat, i + d = xs.length →
    Ev (fun k => slices_Index_int_int.l0 k xs v (xs.length : Int) (i : Int)) (if idxG (xs.drop i) v < 0 then -1 else idxG (xs.drop i) v + i) := by
  induction d with
  | zero =>
    intro i hd
    apply ev_succ
    simp only [slices_Index_int_int.l0]
    refine ev_ifn (by omega) (ev_some ?_)
    rw [List.drop_eq_nil_of_le (by omega)]
    simp [idxG]
  | succ d ih =>
    intro i hd
    apply ev_succ
    simp only [slices_Index_int_int.l0]
    refine ev_ifp (by omega) (ev_ifp (by omega) (ev_ifp (by omega) ?_))
    rw [w64 (by omega) (by omega), drop_rd xs i (by omega)]
    unfold idxG
    by_cases h : v = rd xs (i : Int)
    · refine ev_ifp h (ev_some ?_)
      rw [if_pos h]
      simp
    · refine ev_ifn h ?_
      have := ih (i + 1) (by omega)
      rw [if_neg h]
      have hr := idxG_range (xs.drop (i + 1)) v
      have e : (if (if idxG (xs.drop (i + 1)) v < 0 then -1 else idxG (xs.drop (i + 1)) v + 1) < 0 then (-1 : Int) else (if idxG (xs.drop (i + 1)) v < 0 then -1 else idxG (xs.drop (i + 1)) v + 1) + (i : Int)) = if idxG (xs.drop (i + 1)) v < 0 then -1 else idxG (xs.drop (i + 1)) v + ((i + 1 : Nat) : Int) := by
        split
        · simp
        · rw [if_neg (by omega)]
          omega
      rw [e]
      simpa using this
theorem Index_ev (xs : List Int) (v : Int) (hx : xs.length ≤ 17592186044416) : Ev (fun k => slices_Index_int_int.f k xs v) (idxG xs v) := by
  unfold slices_Index_int_int.f
  have := Index_loop xs v hx xs.length 0 (by omega)
  have hr := idxG_range xs v
  simp only [List.drop_zero] at this
  have e : (if idxG xs v < 0 then -1 else idxG xs v + ((0 : Nat) : Int)) = idxG xs v := by split <;> omega
  rw [e] at this
  exact this
theorem Contains_ev (xs : List Int) (v : Int) (hx : xs.length ≤ 17592186044416) : Ev (fun k => slices_Contains_int_int.f k xs v) (decide (v ∈ xs)) := by
  unfold slices_Contains_int_int.f
  refine Ev.bind (Index_ev xs v hx) (ev_some ?_)
  have := idxG_neg xs v
  by_cases h : v ∈ xs
  · have h2 : ¬ idxG xs v < 0 := fun h3 => this.1 h3 h
    simp [h]
    omega
  · have h2 := this.2 h
    simp [h]
    omega
def woG (l : List Int) (n : Int) : List Int := l.filter (fun x => x != n)
theorem woG_len (l : List Int) (n : Int) : (woG l n).length ≤ l.length := List.length_filter_le _ _
theorem woG_lt (l : List Int) (n : Int) (h : n ∈ l) : (woG l n).length < l.length := by
  unfold woG
  induction l with
  | nil => cases h
  | cons x xs ih =>
    by_cases hx : x = n
    · subst hx
      simp only [List.filter_cons, bne_self_eq_false, Bool.false_eq_true, if_false, List.length_cons]
      have := List.length_filter_le (fun y => y != x) xs
      omega
    · have h' : n ∈ xs := by
        rcases List.mem_cons.1 h with h | h
        · exact absurd h.symm hx
        · exact h
      have hb : (x != n) = true := by simpa using hx
      simp only [List.filter_cons, hb, if_true, List.length_cons]
      have := ih h'
      omega
theorem impl_without_loop (l : List Int) (n : Int) (hl : l.length ≤ 1048576) (d : Nat) : ∀ (i : Nat) (o : List Int), i + d = l.length → o.length ≤ i → Ev (fun k => impl_without.l0 k n o l (l.length : Int) (i : Int)) (o ++ woG (l.drop i) n) := by
  induction d with
  | zero =>
    intro i o hd ho
    apply ev_succ
    simp only [impl_without.l0]
    rw [List.drop_eq_nil_of_le (by omega)]
    exact ev_ifn (by omega) (ev_some (by simp [woG]))
  | succ d ih =>
    intro i o hd ho
    apply ev_succ
    have e1 : wrap64 ((i : Int) + 1) = ((i + 1 : Nat) : Int) := by rw [w64 (by omega) (by omega)]; simp
    simp only [impl_without.l0, e1]
    rw [drop_rd l i (by omega)]
    refine ev_ifp (by omega) (ev_ifp (by omega) (ev_ifp (by omega) ?_))
    by_cases h : rd l (i : Int) = n
    · refine ev_ifp h ?_
      have := ih (i + 1) o (by omega) (by omega)
      simpa [woG, h] using this
    · refine ev_ifn h (ev_ifp (by omega) ?_)
      have := ih (i + 1) (o ++ [rd l (i : Int)]) (by omega) (by simp; omega)
      have hb : (rd l (i : Int) != n) = true := by simpa using h
      simpa [woG, List.filter_cons, hb] using this
theorem impl_without_ev (l : List Int) (n : Int) (hl : l.length ≤ 1048576) : Ev (fun k => impl_without.f k l n) (woG l n) := by
  unfold impl_without.f
  simpa using impl_without_loop l n hl l.length 0 [] (by omega) (by simp)
/-- What Strike answers: the one that is left, where all that is struck is there and is struck once. -/
def StrikeOk (left who : List Int) : Prop := (1 ≤ left.length ∧ left.length ≤ 9) ∧ who.length = left.length - 1 ∧ left.Nodup ∧ who.Nodup ∧ ∀ x ∈ who, x ∈ left
theorem nodup_take_succ {l : List Int} {i : Nat} (hi : i < l.length) (h : (l.take i).Nodup) (hn : rd l (i : Int) ∉ l.take i) : (l.take (i + 1)).Nodup := by
  rw [List.take_succ_eq_append_getElem hi, List.nodup_append]
  refine ⟨h, by simp, ?_⟩
  intro x hx y hy
  rw [List.mem_singleton] at hy
  subst hy
  intro e
  subst e
  apply hn
  have : rd l (i : Int) = l[i] := by simp [rd, List.getD_eq_getElem?_getD, hi]
  rw [this]
  exact hx
theorem not_nodup {l : List Int} {i : Nat} (hi : i < l.length) (hn : rd l (i : Int) ∈ l.take i) : ¬ l.Nodup := by
  intro h
  have h2 : (l.take (i + 1)).Nodup := h.sublist (List.take_sublist _ _)
  rw [List.take_succ_eq_append_getElem hi, List.nodup_append] at h2
  have : rd l (i : Int) = l[i] := by simp [rd, List.getD_eq_getElem?_getD, hi]
  rw [this] at hn
  exact h2.2.2 _ hn _ (List.mem_singleton.2 rfl) rfl
theorem nodup_le {a b : List Int} (h : a.Nodup) (hs : ∀ x ∈ a, x ∈ b) : a.length ≤ b.length := by
  induction a generalizing b with
  | nil => simp
  | cons x xs ih =>
    have hx : x ∈ b := hs x (by simp)
    have h1 := List.nodup_cons.1 h
    have h2 : xs.length ≤ (b.erase x).length := ih h1.2 fun y hy => by
      have hne : y ≠ x := fun e => h1.1 (e ▸ hy)
      exact (List.mem_erase_of_ne hne).2 (hs y (by simp [hy]))
    rw [List.length_erase_of_mem hx] at h2
    have h3 : 0 < b.length := List.length_pos_of_mem hx
    simp only [List.length_cons]
    omega
theorem spec_l2_loop (left who : List Int) (hl : left.length ≤ 1048576) (hw : who.length ≤ 1048576) (d : Nat) : ∀ i : Nat, i + d = left.length → Ev (fun k => spec_Strike.l2 k left who (i : Int)) (match (left.drop i).find? (fun x => decide (x ∉ who)) with | some x => (x, true) | none => (0, false)) := by
  induction d with
  | zero =>
    intro i hd
    apply ev_succ
    simp only [spec_Strike.l2]
    rw [List.drop_eq_nil_of_le (by omega)]
    exact ev_ifn (by omega) (Ev.now _)
  | succ d ih =>
    intro i hd
    apply ev_succ
    have e1 : wrap64 ((i : Int) + 1) = ((i + 1 : Nat) : Int) := by rw [w64 (by omega) (by omega)]; simp
    simp only [spec_Strike.l2, e1]
    rw [drop_rd left i (by omega)]
    refine ev_ifp (by omega) (ev_ifp (by omega) (Ev.bind (l4Has_ev who _ (by omega)) ?_))
    by_cases h : rd left (i : Int) ∈ who
    · refine ev_ifp (by simpa using h) ?_
      have := ih (i + 1) (by omega)
      simpa [List.find?_cons, h] using this
    · refine ev_ifn (by simpa using h) (ev_some ?_)
      simp [List.find?_cons, h]
theorem spec_l1_loop (left who : List Int) (hl : left.length ≤ 1048576) (hw : who.length ≤ 1048576) (d : Nat) : ∀ i : Nat, i + d = who.length → (who.take i).Nodup → (∀ x ∈ who.take i, x ∈ left) →
    Ev (fun k => spec_Strike.l1 k left who (i : Int)) (if who.Nodup ∧ (∀ x ∈ who, x ∈ left) then (match left.find? (fun x => decide (x ∉ who)) with | some x => (x, true) | none => (0, false)) else (0, false)) := by
  induction d with
  | zero =>
    intro i hd h1 h2
    rw [List.take_of_length_le (by omega)] at h1 h2
    rw [if_pos ⟨h1, h2⟩]
    apply ev_succ
    simp only [spec_Strike.l1]
    refine ev_ifn (by omega) ?_
    simpa using spec_l2_loop left who hl hw left.length 0 (by omega)
  | succ d ih =>
    intro i hd h1 h2
    apply ev_succ
    have e1 : wrap64 ((i : Int) + 1) = ((i + 1 : Nat) : Int) := by rw [w64 (by omega) (by omega)]; simp
    have hrd : rd who (i : Int) = who[i] := by simp [rd, List.getD_eq_getElem?_getD, show i < who.length by omega]
    have hmem : rd who (i : Int) ∈ who := by rw [hrd]; exact List.getElem_mem _
    simp only [spec_Strike.l1, e1, Int.toNat_natCast]
    refine ev_ifp (by omega) (ev_ifp (by omega) (Ev.bind (l4Has_ev left _ (by omega)) ?_))
    by_cases h : rd who (i : Int) ∈ left
    · refine ev_ifp (by simpa using h) (ev_ifp (by omega) (Ev.bind (l4Has_ev (who.take i) _ (by simp; omega)) ?_))
      by_cases h3 : rd who (i : Int) ∈ who.take i
      · rw [if_neg (fun hh => not_nodup (by omega) h3 hh.1)]
        exact ev_ifp (by simpa using h3) (Ev.now _)
      · refine ev_ifn (by simpa using h3) (ih (i + 1) (by omega) (nodup_take_succ (by omega) h1 h3) ?_)
        intro x hx
        rw [List.take_succ_eq_append_getElem (by omega)] at hx
        rcases List.mem_append.1 hx with hx | hx
        · exact h2 x hx
        · rw [List.mem_singleton.1 hx, ← hrd]; exact h
    · rw [if_neg (fun hh => h (hh.2 _ hmem))]
      exact ev_ifn (by simpa using h) (Ev.now _)
theorem spec_l0_loop (left who : List Int) (hl : left.length ≤ 1048576) (hw : who.length ≤ 1048576) (d : Nat) : ∀ i : Nat, i + d = left.length → (left.take i).Nodup →
    Ev (fun k => spec_Strike.l0 k left who (i : Int)) (if left.Nodup ∧ (1 ≤ left.length ∧ left.length ≤ 9) ∧ who.length = left.length - 1 ∧ who.Nodup ∧ (∀ x ∈ who, x ∈ left) then (match left.find? (fun x => decide (x ∉ who)) with | some x => (x, true) | none => (0, false)) else (0, false)) := by
  induction d with
  | zero =>
    intro i hd h1
    rw [List.take_of_length_le (by omega)] at h1
    apply ev_succ
    simp only [spec_Strike.l0, spec_l1In_eq, Option.bind_some]
    refine ev_ifn (by omega) ?_
    by_cases h2 : 1 ≤ left.length ∧ left.length ≤ 9
    · have h2' : (1 : Int) ≤ (left.length : Int) ∧ (left.length : Int) ≤ 9 := by omega
      rw [w64 (x := (left.length : Int) - 1) (by omega) (by omega)]
      refine ev_ifp (by simpa using h2') ?_
      apply ev_succ
      simp only [spec_Strike.j1]
      by_cases h3 : who.length = left.length - 1
      · refine ev_ifn (by simp; omega) ?_
        have := spec_l1_loop left who hl hw who.length 0 (by omega) (by simp) (by simp)
        simpa [h1, h2, h3] using this
      · rw [if_neg (fun hh => h3 hh.2.2.1)]
        exact ev_ifp (by simp; omega) (Ev.now _)
    · have h2' : ¬ ((1 : Int) ≤ (left.length : Int) ∧ (left.length : Int) ≤ 9) := by omega
      rw [if_neg (fun hh => h2 hh.2.1)]
      refine ev_ifn (by simpa using h2') ?_
      apply ev_succ
      simp only [spec_Strike.j1, if_true]
      exact Ev.now _
  | succ d ih =>
    intro i hd h1
    apply ev_succ
    have e1 : wrap64 ((i : Int) + 1) = ((i + 1 : Nat) : Int) := by rw [w64 (by omega) (by omega)]; simp
    simp only [spec_Strike.l0, e1, Int.toNat_natCast]
    refine ev_ifp (by omega) (ev_ifp (by omega) (ev_ifp (by omega) (Ev.bind (l4Has_ev (left.take i) _ (by simp; omega)) ?_)))
    by_cases h : rd left (i : Int) ∈ left.take i
    · rw [if_neg (fun hh => not_nodup (by omega) h hh.1)]
      exact ev_ifp (by simpa using h) (Ev.now _)
    · exact ev_ifn (by simpa using h) (ih (i + 1) (by omega) (nodup_take_succ (by omega) h1 h))
def restG (left : List Int) (gone : List Int) : List Int := left.filter (fun x => decide (x ∉ gone))
theorem rest_step (left gone : List Int) (n : Int) : woG (restG left gone) n = restG left (gone ++ [n]) := by
  unfold woG restG
  rw [List.filter_filter]
  apply List.filter_congr
  intro x _
  by_cases h1 : x = n <;> by_cases h2 : x ∈ gone <;> simp [h1, h2]
theorem find_filter (p : Int → Bool) : ∀ l : List Int, l.find? p = (l.filter p).head?
  | [] => rfl
  | x :: xs => by
    by_cases h : p x = true
    · simp [List.find?_cons, List.filter_cons, h]
    · simp only [Bool.not_eq_true] at h
      rw [List.find?_cons_of_neg (by simp [h]), List.filter_cons_of_neg (by simp [h]), find_filter p xs]
theorem impl_l1_loop (left who : List Int) (hl : left.length ≤ 1048576) (hw : who.length ≤ 1048576) (hlt : who.length < left.length) (hnl : left.Nodup) (d : Nat) : ∀ i : Nat, i + d = who.length → (who.take i).Nodup → (∀ x ∈ who.take i, x ∈ left) →
    Ev (fun k => impl_Strike.l1 k (restG left (who.take i)) who (who.length : Int) (i : Int)) (if who.Nodup ∧ (∀ x ∈ who, x ∈ left) then (match left.find? (fun x => decide (x ∉ who)) with | some x => (x, true) | none => (0, false)) else (0, false)) := by
  induction d with
  | zero =>
    intro i hd h1 h2
    rw [List.take_of_length_le (by omega)] at h1 h2 ⊢
    rw [if_pos ⟨h1, h2⟩]
    apply ev_succ
    simp only [impl_Strike.l1]
    refine ev_ifn (by omega) ?_
    rw [find_filter]
    show Ev _ (match (restG left who).head? with | some x => (x, true) | none => (0, false))
    have hne : restG left who ≠ [] := by
      intro e
      have hall : ∀ x ∈ left, x ∈ who := by
        intro x hx
        rcases Decidable.em (x ∈ who) with h | h
        · exact h
        · have : x ∈ restG left who := List.mem_filter.2 ⟨hx, by simpa using h⟩
          rw [e] at this
          cases this
      have := nodup_le hnl hall
      omega
    revert hne
    cases restG left who with
    | nil => intro h; exact absurd rfl h
    | cons x xs =>
      intro _
      refine ev_ifp (by simp <;> omega) (ev_some ?_)
      simp [rd]
  | succ d ih =>
    intro i hd h1 h2
    apply ev_succ
    have e1 : wrap64 ((i : Int) + 1) = ((i + 1 : Nat) : Int) := by rw [w64 (by omega) (by omega)]; simp
    have hrd : rd who (i : Int) = who[i] := by simp [rd, List.getD_eq_getElem?_getD, show i < who.length by omega]
    have hmem : rd who (i : Int) ∈ who := by rw [hrd]; exact List.getElem_mem _
    have hrl : (restG left (who.take i)).length ≤ left.length := List.length_filter_le _ _
    simp only [impl_Strike.l1, e1]
    refine ev_ifp (by omega) (ev_ifp (by omega) (ev_ifp (by omega) (Ev.bind (Contains_ev (restG left (who.take i)) _ (by omega)) ?_)))
    by_cases h : rd who (i : Int) ∈ restG left (who.take i)
    · have h' := List.mem_filter.1 h
      have h3 : rd who (i : Int) ∉ who.take i := by simpa using h'.2
      refine ev_ifp (by simpa using h) (Ev.bind (impl_without_ev _ _ (by omega)) ?_)
      have e2 : who.take i ++ [rd who (i : Int)] = who.take (i + 1) := by rw [List.take_succ_eq_append_getElem (by omega), hrd]
      rw [rest_step, e2]
      refine ih (i + 1) (by omega) (nodup_take_succ (by omega) h1 h3) ?_
      intro x hx
      rw [← e2] at hx
      rcases List.mem_append.1 hx with hx | hx
      · exact h2 x hx
      · rw [List.mem_singleton.1 hx]; exact h'.1
    · refine ev_ifn (by simpa using h) (ev_some ?_)
      rw [if_neg]
      rintro ⟨hn, ha⟩
      apply h
      refine List.mem_filter.2 ⟨ha _ hmem, ?_⟩
      have : rd who (i : Int) ∉ who.take i := fun hh => not_nodup (by omega) hh hn
      simpa using this
theorem impl_l0_loop (left who : List Int) (hl : left.length ≤ 1048576) (hw : who.length ≤ 1048576) (hlt : who.length < left.length) (d : Nat) : ∀ i : Nat, i + d = left.length → (left.take i).Nodup →
    Ev (fun k => impl_Strike.l0 k left who left (left.length : Int) (i : Int)) (if left.Nodup ∧ who.Nodup ∧ (∀ x ∈ who, x ∈ left) then (match left.find? (fun x => decide (x ∉ who)) with | some x => (x, true) | none => (0, false)) else (0, false)) := by
  induction d with
  | zero =>
    intro i hd h1
    rw [List.take_of_length_le (by omega)] at h1
    apply ev_succ
    simp only [impl_Strike.l0]
    refine ev_ifn (by omega) ?_
    have := impl_l1_loop left who hl hw hlt h1 who.length 0 (by omega) (by simp) (by simp)
    have e : restG left (who.take 0) = left := by simp [restG]
    rw [e] at this
    simpa [h1] using this
  | succ d ih =>
    intro i hd h1
    apply ev_succ
    have e1 : wrap64 ((i : Int) + 1) = ((i + 1 : Nat) : Int) := by rw [w64 (by omega) (by omega)]; simp
    simp only [impl_Strike.l0, e1, Int.toNat_natCast]
    refine ev_ifp (by omega) (ev_ifp (by omega) (ev_ifp (by omega) (ev_ifp (by omega) (Ev.bind (Contains_ev (left.take i) _ (by simp; omega)) ?_))))
    by_cases h : rd left (i : Int) ∈ left.take i
    · rw [if_neg (fun hh => not_nodup (by omega) h hh.1)]
      exact ev_ifp (by simpa using h) (Ev.now _)
    · exact ev_ifn (by simpa using h) (ih (i + 1) (by omega) (nodup_take_succ (by omega) h1 h))
theorem strike_both (left who : List Int) (hl : left.length ≤ 1048576) (hw : who.length ≤ 1048576) : ∃ r, Ev (fun k => spec_Strike.f k left who) r ∧ Ev (fun k => impl_Strike.f k left who) r := by
  have hs := spec_l0_loop left who hl hw left.length 0 (by omega) (by simp)
  refine ⟨_, (show Ev (fun k => spec_Strike.f k left who) _ from hs), ?_⟩
  · unfold impl_Strike.f
    simp only [impl_InRange_eq, Option.bind_some]
    by_cases h2 : 1 ≤ left.length ∧ left.length ≤ 9
    · have h2' : (1 : Int) ≤ (left.length : Int) ∧ (left.length : Int) ≤ 9 := by omega
      rw [w64 (x := (left.length : Int) - 1) (by omega) (by omega)]
      refine ev_ifp (by simpa using h2') ?_
      apply ev_succ
      simp only [impl_Strike.j0]
      by_cases h3 : who.length = left.length - 1
      · refine ev_ifn (by simp; omega) ?_
        have := impl_l0_loop left who hl hw (by omega) left.length 0 (by omega) (by simp)
        simpa [h2, h3] using this
      · rw [if_neg (fun hh => h3 hh.2.2.1)]
        exact ev_ifp (by simp; omega) (Ev.now _)
    · have h2' : ¬ ((1 : Int) ≤ (left.length : Int) ∧ (left.length : Int) ≤ 9) := by omega
      rw [if_neg (fun hh => h2 hh.2.1)]
      refine ev_ifn (by simpa using h2') ?_
      apply ev_succ
      simp only [impl_Strike.j0, if_true]
      exact Ev.now _
theorem FnExactStrike : laws_FnExactStrike.Pure := by
  intro a b _ _ _ _ _ _
  apply Ev.rounds
  unfold laws_FnExactStrike.f
  by_cases ha : (a.length : Int) > 1048576
  · exact ev_ifp ha (Ev.now _)
  by_cases hb : (b.length : Int) > 1048576
  · exact ev_ifn ha (ev_ifp hb (Ev.now _))
  have ta := toIntS_ev a (by omega)
  have tb := toIntS_ev b (by omega)
  have ea := eqIntS_ev a (by omega)
  have eb := eqIntS_ev b (by omega)
  obtain ⟨r, hs, hi⟩ := strike_both a b (by omega) (by omega)
  refine ev_ifn ha (ev_ifn hb (Ev.bind ta (Ev.bind tb (Ev.bind hs (Ev.bind ta (Ev.bind tb (Ev.bind hi (ev_ifp rfl ?_))))))))
  apply ev_succ
  simp only [laws_FnExactStrike.j0, bne_self_eq_false, Bool.false_eq_true, if_false]
  exact Ev.bind ta (Ev.bind ea (ev_ifp rfl (Ev.bind tb (Ev.bind eb (ev_ifp rfl (Ev.now _))))))

end Go.Proofs.Ytimikonnmcgljaa.Pure
