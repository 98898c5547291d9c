/- The program's StrikeAll answers what the reference's answers, for all arguments, and its list is its own.
No condition: for every input. -/
import Derived.Test.YtimikonnmcgljaaQFnExactStrikeAllx3
set_option linter.unusedVariables false
set_option linter.unusedSimpArgs false
set_option maxHeartbeats 1000000
namespace Go.Proofs.Ytimikonnmcgljaa.Pure
open Go.RowKit Go.Proofs.Ytimikonnmcgljaa.QFnExactStrikeAll Go.Proofs.YtimikonnmcgljaaW.PrintWords Go.Proofs.YtimikonnmcgljaaW.PrintLast

theorem w64 {x : Int} (h1 : -9223372036854775808 ≤ x) (h2 : x ≤ 9223372036854775807) : wrap64 x = x := by unfold wrap64; omega
theorem wf64 {x : Int} (h : (Lit.int .i64 x).wf = true) : -9223372036854775808 ≤ x ∧ x ≤ 9223372036854775807 := by
  simp only [Lit.wf, Bool.and_eq_true, decide_eq_true_eq] at h
  have e1 : IntKind.min .i64 = -9223372036854775808 := by decide
  have e2 : IntKind.max .i64 = 9223372036854775807 := by decide
  omega
theorem wfu8 {x : Int} (h : (Lit.int .u8 x).wf = true) : 0 ≤ x ∧ x ≤ 255 := by
  simp only [Lit.wf, Bool.and_eq_true, decide_eq_true_eq] at h
  have e1 : IntKind.min .u8 = 0 := by decide
  have e2 : IntKind.max .u8 = 255 := by decide
  omega
theorem ev_succ {α : Type} {g : Nat → Option α} {r : α} (h : Ev (fun k => g (k + 1)) r) : Ev g r := Ev.step (fun _ => rfl) h
theorem ev_some {α : Type} {r s : α} (h : r = s) : Ev (fun _ => some r) s := by subst h; exact Ev.now r
theorem ev_fix {α : Type} {o : Option α} {r : α} (h : o = some r) : Ev (fun _ => o) r := ⟨0, fun _ _ => h⟩
theorem ev_at {α : Type} {g : Nat → Option α} {r : α} (n : Nat) (h : ∀ k, g (k + n) = some r) : Ev g r :=
  ⟨n, fun k hk => by obtain ⟨m, rfl⟩ : ∃ m, k = m + n := ⟨k - n, by omega⟩; exact h m⟩
theorem ev_bindc {α β : Type} {o : Option α} {f : Nat → α → Option β} {a : α} {r : β} (h : o = some a) (k : Ev (fun n => f n a) r) : Ev (fun n => o.bind (f n)) r := by
  subst h; exact k
theorem ev_ifp {α : Type} {c : Prop} [Decidable c] {a b : Nat → Option α} {r : α} (h : c) (k : Ev a r) : Ev (fun n => if c then a n else b n) r := by
  simpa only [if_pos h] using k
theorem ev_ifn {α : Type} {c : Prop} [Decidable c] {a b : Nat → Option α} {r : α} (h : ¬ c) (k : Ev b r) : Ev (fun n => if c then a n else b n) r := by
  simpa only [if_neg h] using k
theorem rd_nat (xs : List Int) (i : Nat) (h : i < xs.length) : rd xs (i : Int) = xs[i] := by
  unfold rd
  simp [List.getD_eq_getElem?_getD, h]
theorem toIntS_loop (xs : List Int) (hx : xs.length ≤ 17592186044416) (d : Nat) : ∀ (i : Nat) (ys : List Int), ys.length = xs.length → i + d = xs.length → ys.take i = xs.take i →
    Ev (fun k => laws_toIntS.l0 k xs ys (i : Int)) xs := by
  induction d with
  | zero =>
    intro i ys hl hd ht
    apply ev_succ
    simp only [laws_toIntS.l0]
    refine ev_ifn (by omega) ?_
    have e : ys = xs := by rw [← List.take_length (l := xs), ← show i = xs.length by omega, ← ht, List.take_of_length_le (by omega)]
    rw [e]
    exact Ev.now _
  | succ d ih =>
    intro i ys hl hd ht
    apply ev_succ
    simp only [laws_toIntS.l0]
    refine ev_ifp (by omega) (ev_ifp (by omega) (ev_ifp (by omega) ?_))
    rw [w64 (by omega) (by omega)]
    have hi : i < xs.length := by omega
    have := ih (i + 1) (ys.set i (rd xs (i : Int))) (by simpa using hl) (by omega) (by
      rw [List.take_succ_eq_append_getElem hi, List.take_succ_eq_append_getElem (by simpa using (by omega : i < ys.length)), List.getElem_set_self, rd_nat xs i hi, List.take_set_of_le (by omega), ht])
    simpa using this
theorem toIntS_ev (xs : List Int) (hx : xs.length ≤ 17592186044416) : Ev (fun k => laws_toIntS.f k xs) xs := by
  unfold laws_toIntS.f
  refine ev_ifp (by omega) (ev_ifp (by omega) ?_)
  exact toIntS_loop xs hx xs.length 0 _ (by simp) (by omega) (by simp)
theorem eqIntS_loop (xs : List Int) (hx : xs.length ≤ 17592186044416) (d : Nat) : ∀ (i : Nat), i + d = xs.length → Ev (fun k => laws_eqIntS.l0 k xs xs (i : Int)) true := by
  induction d with
  | zero =>
    intro i hd
    apply ev_succ
    simp only [laws_eqIntS.l0]
    refine ev_ifn (by omega) ?_
    exact Ev.now _
  | succ d ih =>
    intro i hd
    apply ev_succ
    simp only [laws_eqIntS.l0]
    refine ev_ifp (by omega) (ev_ifp (by omega) (ev_ifp (by omega) ?_))
    rw [w64 (by omega) (by omega)]
    simpa using ih (i + 1) (by omega)
theorem eqIntS_ev (xs : List Int) (hx : xs.length ≤ 17592186044416) : Ev (fun k => laws_eqIntS.f k xs xs) true := by
  unfold laws_eqIntS.f
  refine ev_ifp rfl ?_
  exact eqIntS_loop xs hx xs.length 0 (by omega)
theorem markInt_loop (n : Nat) (hn : n ≤ 1100000) (a : Int) (h0 : 0 ≤ a) (h1 : a ≤ 1000000000000) (d : Nat) : ∀ (i : Nat) (xs : List Int), xs.length = n → i + d = n → ∃ ys : List Int, Ev (fun k => laws_markIntS.l0 k xs (a + (i : Int)) (i : Int)) (a + (n : Int), ys) ∧ ys.length = n ∧ (∀ j : Nat, i ≤ j → j < n → ys[j]? = some (a + (j : Int))) ∧ (∀ j : Nat, j < i → ys[j]? = xs[j]?) := by
  induction d with
  | zero =>
    intro i xs hl hd
    refine ⟨xs, ?_, hl, fun j h1 h2 => by omega, fun j _ => rfl⟩
    apply ev_succ
    simp only [laws_markIntS.l0]
    refine ev_ifn (by omega) (ev_some ?_)
    rw [show (i : Int) = n by omega]
  | succ d ih =>
    intro i xs hl hd
    obtain ⟨ys, he, hy, h2, h3⟩ := ih (i + 1) (xs.set i (a + (i : Int))) (by simpa using hl) (by omega)
    refine ⟨ys, ?_, hy, fun j hj hn' => ?_, fun j hj => ?_⟩
    · apply ev_succ
      have w0 : wrap64 (a + (i : Int) + 1) = a + ((i + 1 : Nat) : Int) := by rw [w64 (by omega) (by omega)]; omega
      have w' : wrap64 ((i : Int) + 1) = ((i + 1 : Nat) : Int) := by rw [w64 (by omega) (by omega)]; simp
      simp only [laws_markIntS.l0, Int.toNat_natCast, w0, w']
      exact ev_ifp (by omega) (ev_ifp (by omega) he)
    · by_cases hji : j = i
      · subst hji
        rw [h3 j (by omega)]
        simp [show j < xs.length by omega]
      · exact h2 j (by omega) hn'
    · rw [h3 j (by omega), List.getElem?_set_ne (by omega)]
theorem markInt_at (xs : List Int) (hx : xs.length ≤ 1100000) (a : Int) (h0 : 0 ≤ a) (h1 : a ≤ 1000000000000) : ∃ ys, Ev (fun k => laws_markIntS.f k xs a) (a + (xs.length : Int), ys) ∧ ys.length = xs.length ∧ ∀ j : Nat, j < xs.length → ys[j]? = some (a + (j : Int)) := by
  obtain ⟨ys, he, hy, h2, h3⟩ := markInt_loop xs.length hx a h0 h1 xs.length 0 xs rfl (by omega)
  refine ⟨ys, ?_, hy, fun j hj => h2 j (by omega) hj⟩
  unfold laws_markIntS.f
  simpa using he
theorem heldInt_loop (ys : List Int) (n : Nat) (hn : n ≤ 1100000) (a : Int) (h0 : 0 ≤ a) (h1 : a ≤ 1000000000000) (hl : ys.length = n) (h : ∀ j : Nat, j < n → ys[j]? = some (a + (j : Int))) (d : Nat) : ∀ i : Nat, i + d = n → Ev (fun k => laws_heldIntS.l0 k ys (a + (i : Int)) (i : Int)) (a + (n : Int)) := by
  induction d with
  | zero =>
    intro i hd
    apply ev_succ
    simp only [laws_heldIntS.l0]
    refine ev_ifn (by omega) (ev_some ?_)
    rw [show (i : Int) = n by omega]
  | succ d ih =>
    intro i hd
    apply ev_succ
    have hr : rd ys (i : Int) = a + (i : Int) := by
      have := h i (by omega)
      simp [rd, List.getD_eq_getElem?_getD, this]
    have w0 : wrap64 (a + (i : Int) + 1) = a + ((i + 1 : Nat) : Int) := by rw [w64 (by omega) (by omega)]; omega
    have w' : wrap64 ((i : Int) + 1) = ((i + 1 : Nat) : Int) := by rw [w64 (by omega) (by omega)]; simp
    simp only [laws_heldIntS.l0, w0, w']
    exact ev_ifp (by omega) (ev_ifp (by omega) (ev_ifp hr (ih (i + 1) (by omega))))
theorem markInt_ev (xs : List Int) (hx : xs.length ≤ 1100000) : ∃ m ys, Ev (fun k => laws_markIntS.f k xs 1) (m, ys) ∧ 0 ≤ m ∧ Ev (fun k => laws_heldIntS.f k ys 1) m := by
  obtain ⟨ys, he, hy, h2⟩ := markInt_at xs hx 1 (by omega) (by omega)
  refine ⟨1 + (xs.length : Int), ys, he, by omega, ?_⟩
  unfold laws_heldIntS.f
  simpa using heldInt_loop ys xs.length hx 1 (by omega) (by omega) hy h2 xs.length 0 (by omega)
theorem drop_rd (xs : List Int) (i : Nat) (h : i < xs.length) : xs.drop i = rd xs (i : Int) :: xs.drop (i + 1) := by
  rw [List.drop_eq_getElem_cons h]
  simp [rd, List.getD_eq_getElem?_getD, h]
theorem l4Has_loop (xs : List Int) (n : Int) (hx : xs.length ≤ 17592186044416) (d : Nat) : ∀ i : Nat, i + d = xs.length → Ev (fun k => spec_l4Has.l0 k xs n (i : Int)) (decide (n ∈ xs.drop i)) := by
  induction d with
  | zero =>
    intro i hd
    apply ev_succ
    simp only [spec_l4Has.l0]
    refine ev_ifn (by omega) (ev_some ?_)
    rw [List.drop_eq_nil_of_le (by omega)]
    simp
  | succ d ih =>
    intro i hd
    apply ev_succ
    simp only [spec_l4Has.l0]
    refine ev_ifp (by omega) (ev_ifp (by omega) ?_)
    rw [w64 (by omega) (by omega), drop_rd xs i (by omega)]
    by_cases h : rd xs (i : Int) = n
    · exact ev_ifp h (ev_some (by simp [h]))
    · refine ev_ifn h ?_
      have := ih (i + 1) (by omega)
      have h' : ¬ n = rd xs (i : Int) := fun e => h e.symm
      simpa [h'] using this
theorem l4Has_ev (xs : List Int) (n : Int) (hx : xs.length ≤ 17592186044416) : Ev (fun k => spec_l4Has.f k xs n) (decide (n ∈ xs)) := by
  unfold spec_l4Has.f
  simpa using l4Has_loop xs n hx xs.length 0 (by omega)
def idxG : List Int → Int → Int
  | [], _ => -1
  | x :: xs, v => if v = x then 0 else if idxG xs v < 0 then -1 else idxG xs v + 1
theorem idxG_range (xs : List Int) (v : Int) : -1 ≤ idxG xs v ∧ idxG xs v < xs.length := by
  induction xs with
  | nil => simp [idxG]
  | cons x xs ih =>
    unfold idxG
    simp only [List.length_cons]
    split
    · omega
    · split <;> omega
theorem idxG_neg (xs : List Int) (v : Int) : idxG xs v < 0 ↔ v ∉ xs := by
  induction xs with
  | nil => simp [idxG]
  | cons x xs ih =>
    unfold idxG
    by_cases h : v = x
    · simp [h]
    · rw [if_neg h]
      by_cases h2 : idxG xs v < 0
      · rw [if_pos h2]
        simp [h, ih.1 h2]
      · rw [if_neg h2]
        have h3 : v ∈ xs := by
          rcases Decidable.em (v ∈ xs) with h4 | h4
          · exact h4
          · exact absurd (ih.2 h4) h2
        simp [h, h3]
        omega
theorem idxG_at (xs : List Int) (v : Int) (h : 0 ≤ idxG xs v) : rd xs (idxG xs v) = v ∧ v ∉ xs.take (idxG xs v).toNat := by
  induction xs with
  | nil => simp [idxG] at h
  | cons x xs ih =>
    unfold idxG at h ⊢
    by_cases h1 : v = x
    · subst h1
      simp [rd]
    · rw [if_neg h1] at h ⊢
      by_cases h2 : idxG xs v < 0
      · rw [if_pos h2] at h
        omega
      · rw [if_neg h2] at h ⊢
        obtain ⟨m, hm⟩ : ∃ m : Nat, idxG xs v = m := ⟨(idxG xs v).toNat, by omega⟩
        obtain ⟨e1, e2⟩ := ih (by omega)
        rw [hm] at e1 e2 ⊢
        have e3 : ((m : Int) + 1).toNat = m + 1 := by omega
        rw [rd, e3]
        rw [rd, Int.toNat_natCast] at e1
        rw [Int.toNat_natCast] at e2
        exact ⟨by simpa using e1, by simpa [h1] using e2⟩
theorem Index_loop (xs : List Int) (v : Int) (hx : xs.length ≤ 17592186044416) (d : Nat) : ∀ i : Nat, i + d = xs.length →
    Ev (fun k => slices_Index_int_int.l0 k xs v (xs.length : Int) (i : Int)) (if idxG (xs.drop i) v < 0 then -1 else idxG (xs.drop i) v + i) := by
  induction d with
  | zero =>
    intro i hd
    apply ev_succ
    simp only [slices_Index_int_int.l0]
    refine ev_ifn (by omega) (ev_some ?_)
    rw [List.drop_eq_nil_of_le (by omega)]
    simp [idxG]
  | succ d ih =>
    intro i hd
    apply ev_succ
    simp only [slices_Index_int_int.l0]
    refine ev_ifp (by omega) (ev_ifp (by omega) (ev_ifp (by omega) ?_))
    rw [w64 (by omega) (by omega), drop_rd xs i (by omega)]
    unfold idxG
    by_cases h : v = rd xs (i : Int)
    · refine ev_ifp h (ev_some ?_)
      rw [if_pos h]
      simp
    · refine ev_ifn h ?_
      have := ih (i + 1) (by omega)
      rw [if_neg h]
      have hr := idxG_range (xs.drop (i + 1)) v
      have e : (if (if idxG (xs.drop (i + 1)) v < 0 then -1 else idxG (xs.drop (i + 1)) v + 1) < 0 then (-1 : Int) else (if idxG (xs.drop (i + 1)) v < 0 then -1 else idxG (xs.drop (i + 1)) v + 1) + (i : Int)) = if idxG (xs.drop (i + 1)) v < 0 then -1 else idxG (xs.drop (i + 1)) v + ((i + 1 : Nat) : Int) := by
        split
        · simp
        · rw [if_neg (by omega)]
          omega
      rw [e]
      simpa using this
theorem Index_ev (xs : List Int) (v : Int) (hx : xs.length ≤ 17592186044416) : Ev (fun k => slices_Index_int_int.f k xs v) (idxG xs v) := by
  unfold slices_Index_int_int.f
  have := Index_loop xs v hx xs.length 0 (by omega)
  have hr := idxG_range xs v
  simp only [List.drop_zero] at this
  have e : (if idxG xs v < 0 then -1 else idxG xs v + ((0 : Nat) : Int)) = idxG xs v := by split <;> omega
  rw [e] at this
  exact this
/-- The least wanted, as the program finds it: the first that is not wanted at all, else the last in the order of wants. -/
def lwGo (wants : List Int) : List Int → Int → Int → Int
  | [], best, _ => best
  | x :: xs, best, last => if idxG wants x < 0 then x else if last < idxG wants x then lwGo wants xs x (idxG wants x) else lwGo wants xs best last
def lwG (left wants : List Int) : Int := lwGo wants left 0 (-1)
def LwIs (left wants : List Int) (r : Int) : Prop :=
  match left.find? (fun x => decide (x ∉ wants)) with
  | some x => r = x
  | none => (left = [] ∧ r = 0) ∨ (r ∈ left ∧ ∀ x ∈ left, idxG wants x ≤ idxG wants r)
theorem lw_one {left wants : List Int} {r s : Int} (h1 : LwIs left wants r) (h2 : LwIs left wants s) : r = s := by
  unfold LwIs at h1 h2
  revert h1 h2
  cases hf : left.find? (fun x => decide (x ∉ wants)) with
  | some x => intro h1 h2; exact h1.trans h2.symm
  | none =>
    intro h1 h2
    have hall : ∀ x ∈ left, x ∈ wants := by
      intro x hx
      have := List.find?_eq_none.1 hf x hx
      simpa using this
    rcases h1 with ⟨h1, rfl⟩ | ⟨h1, h1'⟩
    · rcases h2 with ⟨_, rfl⟩ | ⟨h2, _⟩
      · rfl
      · rw [h1] at h2; cases h2
    · rcases h2 with ⟨h2, _⟩ | ⟨h2, h2'⟩
      · rw [h2] at h1; cases h1
      · have e : idxG wants r = idxG wants s := Int.le_antisymm (h2' r h1) (h1' s h2)
        have hr : ¬ idxG wants r < 0 := fun h => (idxG_neg wants r).1 h (hall r h1)
        have hs : ¬ idxG wants s < 0 := fun h => (idxG_neg wants s).1 h (hall s h2)
        rw [← (idxG_at wants r (by omega)).1, e, (idxG_at wants s (by omega)).1]
theorem lwGo_is (wants : List Int) (all : List Int) : ∀ (xs pre : List Int) (best last : Int), all = pre ++ xs → (∀ x ∈ pre, x ∈ wants) → ((pre = [] ∧ best = 0 ∧ last = -1) ∨ (best ∈ pre ∧ last = idxG wants best ∧ ∀ x ∈ pre, idxG wants x ≤ last)) → LwIs all wants (lwGo wants xs best last)
  | [], pre, best, last, ha, hp, hb => by
    have hn : all.find? (fun x => decide (x ∉ wants)) = none := by
      rw [List.find?_eq_none]
      intro x hx
      rw [ha, List.append_nil] at hx
      simpa using hp x hx
    unfold LwIs lwGo
    rw [hn]
    rcases hb with ⟨h1, h2, _⟩ | ⟨h1, h2, h3⟩
    · exact .inl ⟨by rw [ha, h1]; rfl, h2⟩
    · refine .inr ⟨by rw [ha, List.append_nil]; exact h1, fun x hx => ?_⟩
      rw [ha, List.append_nil] at hx
      rw [← h2]
      exact h3 x hx
  | y :: xs, pre, best, last, ha, hp, hb => by
    unfold lwGo
    by_cases h1 : idxG wants y < 0
    · rw [if_pos h1]
      have hy := (idxG_neg wants y).1 h1
      have hn : all.find? (fun x => decide (x ∉ wants)) = some y := by
        rw [ha, List.find?_append]
        have : pre.find? (fun x => decide (x ∉ wants)) = none := by
          rw [List.find?_eq_none]
          intro x hx
          simpa using hp x hx
        rw [this]
        simp [hy]
      unfold LwIs
      rw [hn]
    · rw [if_neg h1]
      have hy : y ∈ wants := by
        rcases Decidable.em (y ∈ wants) with h | h
        · exact h
        · exact absurd ((idxG_neg wants y).2 h) h1
      have ha' : all = (pre ++ [y]) ++ xs := by rw [ha]; simp
      have hp' : ∀ x ∈ pre ++ [y], x ∈ wants := by
        intro x hx
        rcases List.mem_append.1 hx with h | h
        · exact hp x h
        · rw [List.mem_singleton.1 h]; exact hy
      by_cases h2 : last < idxG wants y
      · rw [if_pos h2]
        refine lwGo_is wants all xs (pre ++ [y]) y _ ha' hp' (.inr ⟨by simp, rfl, fun x hx => ?_⟩)
        rcases List.mem_append.1 hx with h | h
        · rcases hb with ⟨hb, _⟩ | ⟨_, _, hb⟩
          · rw [hb] at h; cases h
          · have := hb x h; omega
        · rw [List.mem_singleton.1 h]; exact Int.le_refl _
      · rw [if_neg h2]
        rcases hb with ⟨_, _, hb⟩ | ⟨hb, hb2, hb3⟩
        · omega
        · refine lwGo_is wants all xs (pre ++ [y]) best last ha' hp' (.inr ⟨List.mem_append_left _ hb, hb2, fun x hx => ?_⟩)
          rcases List.mem_append.1 hx with h | h
          · exact hb3 x h
          · rw [List.mem_singleton.1 h]; omega
theorem lwG_is (left wants : List Int) : LwIs left wants (lwG left wants) := lwGo_is wants left left [] 0 (-1) rfl (fun x hx => by cases hx) (.inl ⟨rfl, rfl, rfl⟩)
theorem lwG_mem (left wants : List Int) (h : left ≠ []) : lwG left wants ∈ left := by
  have := lwG_is left wants
  unfold LwIs at this
  revert this
  cases hf : left.find? (fun x => decide (x ∉ wants)) with
  | some x => intro e; rw [e]; exact List.mem_of_find?_eq_some hf
  | none =>
    rintro (⟨e, _⟩ | ⟨e, _⟩)
    · exact absurd e h
    · exact e
theorem impl_lw_loop (left wants : List Int) (hl : left.length ≤ 1048576) (hw : wants.length ≤ 1048576) (d : Nat) : ∀ (i : Nat) (best last : Int), i + d = left.length → Ev (fun k => impl_LeastWanted.l0 k wants best last left (left.length : Int) (i : Int)) (lwGo wants (left.drop i) best last) := by
  induction d with
  | zero =>
    intro i best last hd
    apply ev_succ
    simp only [impl_LeastWanted.l0]
    rw [List.drop_eq_nil_of_le (by omega)]
    exact ev_ifn (by omega) (Ev.now _)
  | succ d ih =>
    intro i best last hd
    apply ev_succ
    have e1 : wrap64 ((i : Int) + 1) = ((i + 1 : Nat) : Int) := by rw [w64 (by omega) (by omega)]; simp
    simp only [impl_LeastWanted.l0, e1]
    rw [drop_rd left i (by omega)]
    refine ev_ifp (by omega) (ev_ifp (by omega) (ev_ifp (by omega) (Ev.bind (Index_ev wants _ (by omega)) ?_)))
    unfold lwGo
    by_cases h1 : idxG wants (rd left (i : Int)) < 0
    · rw [if_pos h1]
      exact ev_ifp h1 (Ev.now _)
    · rw [if_neg h1]
      refine ev_ifn h1 ?_
      by_cases h2 : last < idxG wants (rd left (i : Int))
      · rw [if_pos h2]
        exact ev_ifp h2 (ih (i + 1) _ _ (by omega))
      · rw [if_neg h2]
        exact ev_ifn h2 (ih (i + 1) _ _ (by omega))
theorem impl_LeastWanted_ev (left wants : List Int) (hl : left.length ≤ 1048576) (hw : wants.length ≤ 1048576) : Ev (fun k => impl_LeastWanted.f k left wants) (lwG left wants) := by
  unfold impl_LeastWanted.f lwG
  simpa using impl_lw_loop left wants hl hw left.length 0 0 (-1) (by omega)
theorem spec_lw_down (left wants : List Int) (hl : left.length ≤ 1048576) (hw : wants.length ≤ 1048576) (hall : ∀ x ∈ left, x ∈ wants) (n : Nat) : n ≤ wants.length → (∀ x ∈ left, idxG wants x < n) → ∃ r, Ev (fun k => spec_LeastWanted.l1 k left wants ((n : Int) - 1)) r ∧ ((left = [] ∧ r = 0) ∨ (r ∈ left ∧ ∀ x ∈ left, idxG wants x ≤ idxG wants r)) := by
  induction n with
  | zero =>
    intro _ hn
    have hnil : left = [] := by
      rcases left with _ | ⟨x, l⟩
      · rfl
      · have h1 := hn x (by simp)
        have h2 := hall x (by simp)
        exact absurd h2 ((idxG_neg wants x).1 (by omega))
    refine ⟨0, ?_, .inl ⟨hnil, rfl⟩⟩
    apply ev_succ
    simp only [spec_LeastWanted.l1]
    exact ev_ifn (by omega) (Ev.now _)
  | succ n ih =>
    intro hnw hn
    have e0 : ((n + 1 : Nat) : Int) - 1 = (n : Int) := by omega
    have e1 : wrap64 ((n : Int) - 1) = (n : Int) - 1 := w64 (by omega) (by omega)
    rw [e0]
    have hrd : rd wants (n : Int) = wants[n] := by simp [rd, List.getD_eq_getElem?_getD, show n < wants.length by omega]
    by_cases h1 : rd wants (n : Int) ∈ left
    · by_cases h2 : rd wants (n : Int) ∈ wants.take n
      · have hn' : ∀ x ∈ left, idxG wants x < n := by
          intro x hx
          have h3 := hn x hx
          rcases Int.lt_or_eq_of_le (show idxG wants x ≤ n by omega) with h4 | h4
          · exact h4
          · have h5 := idxG_at wants x (by omega)
            rw [h4, Int.toNat_natCast] at h5
            rw [h5.1] at h2
            exact absurd h2 h5.2
        obtain ⟨r, hr, hp⟩ := ih (by omega) hn'
        refine ⟨r, ?_, hp⟩
        apply ev_succ
        simp only [spec_LeastWanted.l1, e1, Int.toNat_natCast]
        exact ev_ifp (by omega) (ev_ifp (by omega) (ev_ifp (by omega) (Ev.bind (l4Has_ev left _ (by omega)) (ev_ifp (by simpa using h1) (ev_ifp (by omega) (Ev.bind (l4Has_ev (wants.take n) _ (by simp; omega)) (ev_ifp (by simpa using h2) hr)))))))
      · refine ⟨rd wants (n : Int), ?_, .inr ⟨h1, fun x hx => ?_⟩⟩
        · apply ev_succ
          simp only [spec_LeastWanted.l1, e1, Int.toNat_natCast]
          exact ev_ifp (by omega) (ev_ifp (by omega) (ev_ifp (by omega) (Ev.bind (l4Has_ev left _ (by omega)) (ev_ifp (by simpa using h1) (ev_ifp (by omega) (Ev.bind (l4Has_ev (wants.take n) _ (by simp; omega)) (ev_ifn (by simpa using h2) (Ev.now _))))))))
        · have h3 := hn x hx
          have h6 := hn _ h1
          have h7 : ¬ idxG wants (rd wants (n : Int)) < 0 := fun h => (idxG_neg wants _).1 h (hall _ h1)
          have h8 := idxG_at wants (rd wants (n : Int)) (by omega)
          have h9 : ¬ idxG wants (rd wants (n : Int)) < n := by
            intro h
            obtain ⟨m, hm⟩ : ∃ m : Nat, idxG wants (rd wants (n : Int)) = m := ⟨(idxG wants (rd wants (n : Int))).toNat, by omega⟩
            rw [hm] at h8 h
            apply h2
            rw [← h8.1]
            have hm2 : rd wants (m : Int) = wants[m]'(by omega) := by simp [rd, List.getD_eq_getElem?_getD, show m < wants.length by omega]
            rw [hm2, List.mem_take_iff_getElem]
            exact ⟨m, by omega, rfl⟩
          omega
    · have hn' : ∀ x ∈ left, idxG wants x < n := by
        intro x hx
        have h3 := hn x hx
        rcases Int.lt_or_eq_of_le (show idxG wants x ≤ n by omega) with h4 | h4
        · exact h4
        · have h5 := idxG_at wants x (by omega)
          rw [h4] at h5
          rw [h5.1] at h1
          exact absurd hx h1
      obtain ⟨r, hr, hp⟩ := ih (by omega) hn'
      refine ⟨r, ?_, hp⟩
      apply ev_succ
      simp only [spec_LeastWanted.l1, e1]
      exact ev_ifp (by omega) (ev_ifp (by omega) (ev_ifp (by omega) (Ev.bind (l4Has_ev left _ (by omega)) (ev_ifn (by simpa using h1) hr))))
theorem spec_lw_loop (left wants : List Int) (hl : left.length ≤ 1048576) (hw : wants.length ≤ 1048576) (d : Nat) : ∀ i : Nat, i + d = left.length → (∀ x ∈ left.take i, x ∈ wants) → ∃ r, Ev (fun k => spec_LeastWanted.l0 k left wants (i : Int)) r ∧ LwIs left wants r := by
  induction d with
  | zero =>
    intro i hd hp
    rw [List.take_of_length_le (by omega)] at hp
    obtain ⟨r, hr, h⟩ := spec_lw_down left wants hl hw hp wants.length (by omega) (fun x hx => (idxG_range wants x).2)
    refine ⟨r, ?_, ?_⟩
    · apply ev_succ
      simp only [spec_LeastWanted.l0]
      rw [w64 (x := (wants.length : Int) - 1) (by omega) (by omega)]
      exact ev_ifn (by omega) hr
    · unfold LwIs
      have hn : left.find? (fun x => decide (x ∉ wants)) = none := by
        rw [List.find?_eq_none]
        intro x hx
        simpa using hp x hx
      rw [hn]
      exact h
  | succ d ih =>
    intro i hd hp
    have e1 : wrap64 ((i : Int) + 1) = ((i + 1 : Nat) : Int) := by rw [w64 (by omega) (by omega)]; simp
    have hrd : rd left (i : Int) = left[i] := by simp [rd, List.getD_eq_getElem?_getD, show i < left.length by omega]
    by_cases h1 : rd left (i : Int) ∈ wants
    · obtain ⟨r, hr, h⟩ := ih (i + 1) (by omega) (by
        intro x hx
        rw [List.take_succ_eq_append_getElem (by omega)] at hx
        rcases List.mem_append.1 hx with h | h
        · exact hp x h
        · rw [List.mem_singleton.1 h, ← hrd]; exact h1)
      refine ⟨r, ?_, h⟩
      apply ev_succ
      simp only [spec_LeastWanted.l0]
      rw [e1]
      exact ev_ifp (by omega) (ev_ifp (by omega) (Ev.bind (l4Has_ev wants _ (by omega)) (ev_ifp (by simpa using h1) hr)))
    · refine ⟨rd left (i : Int), ?_, ?_⟩
      · apply ev_succ
        simp only [spec_LeastWanted.l0]
        exact ev_ifp (by omega) (ev_ifp (by omega) (Ev.bind (l4Has_ev wants _ (by omega)) (ev_ifn (by simpa using h1) (Ev.now _))))
      · have hn : left.find? (fun x => decide (x ∉ wants)) = some (rd left (i : Int)) := by
          rw [← List.take_append_drop i left, List.find?_append]
          have : (left.take i).find? (fun x => decide (x ∉ wants)) = none := by
            rw [List.find?_eq_none]
            intro x hx
            simpa using hp x hx
          rw [this, List.take_append_drop, drop_rd left i (by omega)]
          simp [h1]
        unfold LwIs
        rw [hn]
theorem spec_LeastWanted_ev (left wants : List Int) (hl : left.length ≤ 1048576) (hw : wants.length ≤ 1048576) : Ev (fun k => spec_LeastWanted.f k left wants) (lwG left wants) := by
  unfold spec_LeastWanted.f
  obtain ⟨r, hr, h⟩ := spec_lw_loop left wants hl hw left.length 0 (by omega) (by simp)
  rw [lw_one (lwG_is left wants) h]
  exact hr
def woG (l : List Int) (n : Int) : List Int := l.filter (fun x => x != n)
theorem woG_len (l : List Int) (n : Int) : (woG l n).length ≤ l.length := List.length_filter_le _ _
theorem woG_lt (l : List Int) (n : Int) (h : n ∈ l) : (woG l n).length < l.length := by
  unfold woG
  induction l with
  | nil => cases h
  | cons x xs ih =>
    by_cases hx : x = n
    · subst hx
      simp only [List.filter_cons, bne_self_eq_false, Bool.false_eq_true, if_false, List.length_cons]
      have := List.length_filter_le (fun y => y != x) xs
      omega
    · have h' : n ∈ xs := by
        rcases List.mem_cons.1 h with h | h
        · exact absurd h.symm hx
        · exact h
      have hb : (x != n) = true := by simpa using hx
      simp only [List.filter_cons, hb, if_true, List.length_cons]
      have := ih h'
      omega
theorem impl_without_loop (l : List Int) (n : Int) (hl : l.length ≤ 1048576) (d : Nat) : ∀ (i : Nat) (o : List Int), i + d = l.length → o.length ≤ i → Ev (fun k => impl_without.l0 k n o l (l.length : Int) (i : Int)) (o ++ woG (l.drop i) n) := by
  induction d with
  | zero =>
    intro i o hd ho
    apply ev_succ
    simp only [impl_without.l0]
    rw [List.drop_eq_nil_of_le (by omega)]
    exact ev_ifn (by omega) (ev_some (by simp [woG]))
  | succ d ih =>
    intro i o hd ho
    apply ev_succ
    have e1 : wrap64 ((i : Int) + 1) = ((i + 1 : Nat) : Int) := by rw [w64 (by omega) (by omega)]; simp
    simp only [impl_without.l0, e1]
    rw [drop_rd l i (by omega)]
    refine ev_ifp (by omega) (ev_ifp (by omega) (ev_ifp (by omega) ?_))
    by_cases h : rd l (i : Int) = n
    · refine ev_ifp h ?_
      have := ih (i + 1) o (by omega) (by omega)
      simpa [woG, h] using this
    · refine ev_ifn h (ev_ifp (by omega) ?_)
      have := ih (i + 1) (o ++ [rd l (i : Int)]) (by omega) (by simp; omega)
      have hb : (rd l (i : Int) != n) = true := by simpa using h
      simpa [woG, List.filter_cons, hb] using this
theorem impl_without_ev (l : List Int) (n : Int) (hl : l.length ≤ 1048576) : Ev (fun k => impl_without.f k l n) (woG l n) := by
  unfold impl_without.f
  simpa using impl_without_loop l n hl l.length 0 [] (by omega) (by simp)
theorem spec_without_loop (l : List Int) (n : Int) (hl : l.length ≤ 1048576) (d : Nat) : ∀ (i : Nat) (o : List Int), i + d = l.length → o.length ≤ i → Ev (fun k => spec_l24Without.l0 k l n o (i : Int)) (o ++ woG (l.drop i) n) := by
  induction d with
  | zero =>
    intro i o hd ho
    apply ev_succ
    simp only [spec_l24Without.l0]
    rw [List.drop_eq_nil_of_le (by omega)]
    exact ev_ifn (by omega) (ev_some (by simp [woG]))
  | succ d ih =>
    intro i o hd ho
    apply ev_succ
    have e1 : wrap64 ((i : Int) + 1) = ((i + 1 : Nat) : Int) := by rw [w64 (by omega) (by omega)]; simp
    simp only [spec_l24Without.l0, e1]
    rw [drop_rd l i (by omega)]
    refine ev_ifp (by omega) (ev_ifp (by omega) ?_)
    by_cases h : rd l (i : Int) = n
    · refine ev_ifp h ?_
      have := ih (i + 1) o (by omega) (by omega)
      simpa [woG, h] using this
    · refine ev_ifn h (ev_ifp (by omega) ?_)
      have := ih (i + 1) (o ++ [rd l (i : Int)]) (by omega) (by simp; omega)
      have hb : (rd l (i : Int) != n) = true := by simpa using h
      simpa [woG, List.filter_cons, hb] using this
theorem spec_without_ev (l : List Int) (n : Int) (hl : l.length ≤ 1048576) : Ev (fun k => spec_l24Without.f k l n) (woG l n) := by
  unfold spec_l24Without.f
  simpa using spec_without_loop l n hl l.length 0 [] (by omega) (by simp)
/-- What is struck, in order, and what is left. -/
def strG : Nat → List Int → List Int → List Int → List Int × List Int
  | 0, left, _, _ => ([], left)
  | n + 1, left, a, b => if left.length > 1 then ((lwG left a) :: (strG n (woG left (lwG left a)) b a).1, (strG n (woG left (lwG left a)) b a).2) else ([], left)
theorem strG_len : ∀ (n : Nat) (left a b : List Int), (strG n left a b).1.length ≤ n ∧ (strG n left a b).2.length ≤ left.length
  | 0, left, _, _ => by simp [strG]
  | n + 1, left, a, b => by
    have ih := strG_len n (woG left (lwG left a)) b a
    have := woG_len left (lwG left a)
    unfold strG
    split
    · simp only [List.length_cons]; omega
    · simp
theorem strG_left : ∀ (n : Nat) (left a b : List Int), (strG n left a b).2 = (strG n left a b).1.foldl woG left
  | 0, left, _, _ => by simp [strG]
  | n + 1, left, a, b => by
    unfold strG
    split
    · simp only [List.foldl_cons]
      exact strG_left n _ b a
    · simp
theorem lw_lt (left a : List Int) (h : left.length > 1) : (woG left (lwG left a)).length < left.length := woG_lt _ _ (lwG_mem left a (by intro e; rw [e] at h; simp at h))
theorem impl_struck_loop (N : Nat) (hN : N ≤ 1048576) : ∀ (n : Nat) (left a b o : List Int), left.length ≤ n → left.length ≤ N → a.length ≤ 1048576 → b.length ≤ 1048576 → o.length + n ≤ N + 1 → Ev (fun k => impl_struck.l0 k left a b o) (o ++ (strG n left a b).1, (strG n left a b).2)
  | 0, left, a, b, o, hn, _, _, _, _ => by
    apply ev_succ
    simp only [impl_struck.l0]
    exact ev_ifn (by omega) (ev_some (by simp [strG]))
  | n + 1, left, a, b, o, hn, hl, ha, hb, ho => by
    apply ev_succ
    simp only [impl_struck.l0]
    by_cases h : left.length > 1
    · have hlt := lw_lt left a h
      have ih := impl_struck_loop N hN n (woG left (lwG left a)) b a (o ++ [lwG left a]) (by omega) (by omega) hb ha (by simp; omega)
      refine ev_ifp (by omega) (Ev.bind (impl_LeastWanted_ev left a (by omega) ha) (ev_ifp (by omega) (Ev.bind (impl_without_ev left _ (by omega)) ?_)))
      have e : (o ++ (strG (n + 1) left a b).1, (strG (n + 1) left a b).2) = (o ++ [lwG left a] ++ (strG n (woG left (lwG left a)) b a).1, (strG n (woG left (lwG left a)) b a).2) := by
        rw [strG, if_pos h]
        simp
      rw [e]
      exact ih
    · exact ev_ifn (by omega) (ev_some (by simp [strG, h]))
theorem impl_struck_ev (left a b : List Int) (hl : left.length ≤ 1048576) (ha : a.length ≤ 1048576) (hb : b.length ≤ 1048576) : Ev (fun k => impl_struck.f k left a b) (strG left.length left a b) := by
  unfold impl_struck.f
  simpa using impl_struck_loop left.length hl left.length left a b [] (by omega) (by omega) ha hb (by simp)
theorem spec_strike_loop (N : Nat) (hN : N ≤ 1048576) (a b : List Int) (ha : a.length ≤ 1048576) (hb : b.length ≤ 1048576) : ∀ (n : Nat) (left o : List Int), left.length ≤ n → left.length ≤ N → o.length + n ≤ N + 1 →
    Ev (fun k => spec_StrikeAll.l0 k a b o left) (o ++ (strG n left (if o.length % 2 = 1 then b else a) (if o.length % 2 = 1 then a else b)).1)
  | 0, left, o, hn, _, _ => by
    apply ev_succ
    simp only [spec_StrikeAll.l0]
    exact ev_ifn (by omega) (ev_some (by simp [strG]))
  | n + 1, left, o, hn, hl, ho => by
    apply ev_succ
    simp only [spec_StrikeAll.l0]
    by_cases h : left.length > 1
    · refine ev_ifp (by omega) ?_
      by_cases hp : o.length % 2 = 1
      · have hlt := lw_lt left b h
        have ih := spec_strike_loop N hN a b ha hb n (woG left (lwG left b)) (o ++ [lwG left b]) (by omega) (by omega) (by simp; omega)
        have hp' : ¬ (o ++ [lwG left b]).length % 2 = 1 := by simp; omega
        rw [if_neg hp', if_neg hp'] at ih
        rw [if_pos hp, if_pos hp]
        refine ev_ifp (by omega) (Ev.bind (spec_LeastWanted_ev left b (by omega) hb) (ev_ifp (by omega) (Ev.bind (spec_without_ev left _ (by omega)) ?_)))
        have e : o ++ (strG (n + 1) left b a).1 = o ++ [lwG left b] ++ (strG n (woG left (lwG left b)) a b).1 := by
          rw [strG, if_pos h]
          simp
        rw [e]
        exact ih
      · have hlt := lw_lt left a h
        have ih := spec_strike_loop N hN a b ha hb n (woG left (lwG left a)) (o ++ [lwG left a]) (by omega) (by omega) (by simp; omega)
        have hp' : (o ++ [lwG left a]).length % 2 = 1 := by simp; omega
        rw [if_pos hp', if_pos hp'] at ih
        rw [if_neg hp, if_neg hp]
        refine ev_ifn (by omega) (Ev.bind (spec_LeastWanted_ev left a (by omega) ha) (ev_ifp (by omega) (Ev.bind (spec_without_ev left _ (by omega)) ?_)))
        have e : o ++ (strG (n + 1) left a b).1 = o ++ [lwG left a] ++ (strG n (woG left (lwG left a)) b a).1 := by
          rw [strG, if_pos h]
          simp
        rw [e]
        exact ih
    · exact ev_ifn (by omega) (ev_some (by simp [strG, h]))
theorem spec_StrikeAll_ev (left a b : List Int) (hl : left.length ≤ 1048576) (ha : a.length ≤ 1048576) (hb : b.length ≤ 1048576) : Ev (fun k => spec_StrikeAll.f k left a b) (strG left.length left a b).1 := by
  unfold spec_StrikeAll.f
  simp only [Option.bind_some, List.nil_append, List.length_nil]
  refine ev_ifp (by omega) ?_
  simpa using spec_strike_loop left.length hl a b ha hb left.length left [] (by omega) (by omega) (by simp)
theorem FnExactStrikeAll : laws_FnExactStrikeAll.Pure := by
  intro l a b _ _ _ _ _ _ _ _ _
  apply Ev.rounds
  unfold laws_FnExactStrikeAll.f
  by_cases hl : (l.length : Int) > 1048576
  · exact ev_ifp hl (Ev.now _)
  by_cases ha : (a.length : Int) > 1048576
  · exact ev_ifn hl (ev_ifp ha (Ev.now _))
  by_cases hb : (b.length : Int) > 1048576
  · exact ev_ifn hl (ev_ifn ha (ev_ifp hb (Ev.now _)))
  have tl := toIntS_ev l (by omega)
  have ta := toIntS_ev a (by omega)
  have tb := toIntS_ev b (by omega)
  have el := eqIntS_ev l (by omega)
  have ea := eqIntS_ev a (by omega)
  have eb := eqIntS_ev b (by omega)
  have hlen := strG_len l.length l a b
  have hs := spec_StrikeAll_ev l a b (by omega) (by omega) (by omega)
  have hi : Ev (fun k => impl_StrikeAll.f k l a b) (strG l.length l a b).1 := by
    unfold impl_StrikeAll.f
    exact Ev.bind (impl_struck_ev l a b (by omega) (by omega) (by omega)) (Ev.now _)
  generalize (strG l.length l a b).1 = r at hs hi hlen
  have hq := eqIntS_ev r (by omega)
  obtain ⟨m, us, hm, hm0, hh⟩ := markInt_ev r (by omega)
  obtain ⟨y1, h1, _, _⟩ := markInt_at l (by omega) 1 (by omega) (by omega)
  obtain ⟨y2, h2, _, _⟩ := markInt_at a (by omega) (1 + (l.length : Int)) (by omega) (by omega)
  obtain ⟨y3, h3, _, _⟩ := markInt_at b (by omega) (1 + (l.length : Int) + (a.length : Int)) (by omega) (by omega)
  refine ev_ifn hl (ev_ifn ha (ev_ifn hb (Ev.bind tl (Ev.bind ta (Ev.bind tb (Ev.bind hs (Ev.bind tl (Ev.bind ta (Ev.bind tb (Ev.bind hi (Ev.bind hq (ev_ifp rfl (Ev.bind tl (Ev.bind el (ev_ifp rfl (Ev.bind ta (Ev.bind ea (ev_ifp rfl (Ev.bind tb (Ev.bind eb (ev_ifp rfl (Ev.bind h1 (Ev.bind h2 (Ev.bind h3 (ev_ifn (by simp only; omega) (Ev.bind hq ?_))))))))))))))))))))))))))
  apply ev_succ
  simp only [laws_FnExactStrikeAll.j0, Bool.not_true, Bool.false_eq_true, if_false]
  exact Ev.bind hm (Ev.bind hh (ev_ifn (by omega) (ev_ifp rfl (Ev.bind tl (Ev.bind ta (Ev.bind tb (Ev.bind hi (Ev.bind hq (ev_ifp rfl (Ev.bind hh (ev_ifn (by omega) (ev_ifp rfl (Ev.now _)))))))))))))

end Go.Proofs.Ytimikonnmcgljaa.Pure
