/- One motion is left, and it is what both did not strike: the law answers true at whatever bytes.
No condition: for every input. -/
import Derived.Test.YtimikonnmcgljaaQFnMotionsx5
set_option linter.unusedVariables false
set_option linter.unusedSimpArgs false
set_option maxHeartbeats 1000000
namespace Go.Proofs.Ytimikonnmcgljaa.Pure
open Go.RowKit Go.Proofs.Ytimikonnmcgljaa.QFnMotions Go.Proofs.YtimikonnmcgljaaW.PrintWords Go.Proofs.YtimikonnmcgljaaW.PrintLast

theorem w64 {x : Int} (h1 : -9223372036854775808 ≤ x) (h2 : x ≤ 9223372036854775807) : wrap64 x = x := by unfold wrap64; omega
theorem wf64 {x : Int} (h : (Lit.int .i64 x).wf = true) : -9223372036854775808 ≤ x ∧ x ≤ 9223372036854775807 := by
  simp only [Lit.wf, Bool.and_eq_true, decide_eq_true_eq] at h
  have e1 : IntKind.min .i64 = -9223372036854775808 := by decide
  have e2 : IntKind.max .i64 = 9223372036854775807 := by decide
  omega
theorem wfu8 {x : Int} (h : (Lit.int .u8 x).wf = true) : 0 ≤ x ∧ x ≤ 255 := by
  simp only [Lit.wf, Bool.and_eq_true, decide_eq_true_eq] at h
  have e1 : IntKind.min .u8 = 0 := by decide
  have e2 : IntKind.max .u8 = 255 := by decide
  omega
theorem ev_succ {α : Type} {g : Nat → Option α} {r : α} (h : Ev (fun k => g (k + 1)) r) : Ev g r := Ev.step (fun _ => rfl) h
theorem ev_some {α : Type} {r s : α} (h : r = s) : Ev (fun _ => some r) s := by subst h; exact Ev.now r
theorem ev_fix {α : Type} {o : Option α} {r : α} (h : o = some r) : Ev (fun _ => o) r := ⟨0, fun _ _ => h⟩
theorem ev_at {α : Type} {g : Nat → Option α} {r : α} (n : Nat) (h : ∀ k, g (k + n) = some r) : Ev g r :=
  ⟨n, fun k hk => by obtain ⟨m, rfl⟩ : ∃ m, k = m + n := ⟨k - n, by omega⟩; exact h m⟩
theorem ev_bindc {α β : Type} {o : Option α} {f : Nat → α → Option β} {a : α} {r : β} (h : o = some a) (k : Ev (fun n => f n a) r) : Ev (fun n => o.bind (f n)) r := by
  subst h; exact k
theorem ev_ifp {α : Type} {c : Prop} [Decidable c] {a b : Nat → Option α} {r : α} (h : c) (k : Ev a r) : Ev (fun n => if c then a n else b n) r := by
  simpa only [if_pos h] using k
theorem ev_ifn {α : Type} {c : Prop} [Decidable c] {a b : Nat → Option α} {r : α} (h : ¬ c) (k : Ev b r) : Ev (fun n => if c then a n else b n) r := by
  simpa only [if_neg h] using k
theorem drop_rd (xs : List Int) (i : Nat) (h : i < xs.length) : xs.drop i = rd xs (i : Int) :: xs.drop (i + 1) := by
  rw [List.drop_eq_getElem_cons h]
  simp [rd, List.getD_eq_getElem?_getD, h]
theorem impl_InRange_eq (a b c : Int) : impl_InRange.f a b c = some (decide (b ≤ a ∧ a ≤ c)) := by
  unfold impl_InRange.f
  by_cases h : b ≤ a <;> simp [h]
theorem and255 (a : Int) : 0 ≤ Go.bits .and .i64 a 255 ∧ Go.bits .and .i64 a 255 ≤ 255 := by
  have hle : (BitVec.ofInt 64 a &&& BitVec.ofInt 64 255).toNat ≤ 255 := by
    rw [BitVec.toNat_and]
    exact Nat.le_trans Nat.and_le_right (by decide)
  show 0 ≤ IntKind.i64.wrap ((BitVec.ofInt 64 a &&& BitVec.ofInt 64 255).toNat : Int) ∧ IntKind.i64.wrap ((BitVec.ofInt 64 a &&& BitVec.ofInt 64 255).toNat : Int) ≤ 255
  rw [IntKind.wrap_i64]
  omega
def CurOk (b : List Int) (i : Int) : Prop := 0 ≤ i ∧ i ≤ b.length ∧ b.length ≤ 1048576
theorem curOk0 {b : List Int} (hb : b.length ≤ 1048576) : CurOk b 0 := ⟨by omega, by omega, hb⟩
theorem l1Byte_ok {b : List Int} {i : Int} (h : Int) (hc : CurOk b i) : ∃ x i' h', spec_l1Byte.f b i h = some (x, i', h') ∧ 0 ≤ x ∧ x ≤ 255 ∧ CurOk b i' := by
  obtain ⟨h0, h1, h2⟩ := hc
  unfold spec_l1Byte.f
  by_cases hi : i < (b.length : Int)
  · rw [if_pos hi, if_pos h0]
    exact ⟨_, _, _, rfl, (and255 _).1, (and255 _).2, by rw [w64 (by omega) (by omega)]; exact ⟨by omega, by omega, h2⟩⟩
  · rw [if_neg hi]
    exact ⟨_, _, _, rfl, (and255 _).1, (and255 _).2, h0, h1, h2⟩
theorem l1Below_ok {b : List Int} {i : Int} (h n : Int) (hc : CurOk b i) : ∃ x i' h', spec_l1Below.f b i h n = some (x, i', h') ∧ 0 ≤ x ∧ (0 < n → x < n) ∧ (n ≤ 0 → x = 0) ∧ CurOk b i' := by
  unfold spec_l1Below.f
  by_cases h1 : n ≤ 0
  · rw [if_pos h1]
    exact ⟨0, i, h, rfl, by omega, by omega, fun _ => rfl, hc⟩
  · rw [if_neg h1]
    have hn : n ≠ 0 := by omega
    by_cases h2 : n ≤ 256
    · rw [if_pos h2]
      obtain ⟨x, i', h', e, hx0, hx1, hc'⟩ := l1Byte_ok h hc
      rw [e]
      simp only [Option.bind_some, if_neg hn]
      exact ⟨_, _, _, rfl, Int.tmod_nonneg _ hx0, fun hp => Int.tmod_lt_of_pos _ hp, fun hq => absurd hq h1, hc'⟩
    · rw [if_neg h2]
      obtain ⟨x, i1, g1, e1, hx0, hx1, c1⟩ := l1Byte_ok h hc
      obtain ⟨y, i2, g2, e2, hy0, hy1, c2⟩ := l1Byte_ok g1 c1
      obtain ⟨z, i3, g3, e3, hz0, hz1, c3⟩ := l1Byte_ok g2 c2
      simp only [e1, e2, e3, Option.bind_some, if_neg hn]
      refine ⟨_, _, _, rfl, Int.tmod_nonneg _ ?_, fun hp => Int.tmod_lt_of_pos _ hp, fun hq => absurd hq h1, c3⟩
      unfold wrap64
      omega
theorem l1New_loop (b : List Int) (hb : b.length ≤ 1048576) (d : Nat) : ∀ (i : Nat) (h : Int), i + d = b.length → ∃ h', Ev (fun k => spec_l1New.l0 k b h (i : Int)) (b, 0, h') := by
  induction d with
  | zero =>
    intro i h hd
    refine ⟨h, ?_⟩
    apply ev_succ
    simp only [spec_l1New.l0]
    refine ev_ifn (by omega) ?_
    exact Ev.now _
  | succ d ih =>
    intro i h hd
    by_cases h4 : (i : Int) < 4000
    · obtain ⟨h', e⟩ := ih (i + 1) (Go.bits .and .i64 (wrap64 ((wrap64 ((wrap64 (h * 137)) + (wrap64 (rd b (i : Int))))) + 11)) 1073741823) (by omega)
      refine ⟨h', ?_⟩
      apply ev_succ
      simp only [spec_l1New.l0]
      refine ev_ifp (by omega) (ev_ifp h4 (ev_ifp (by omega) ?_))
      rw [w64 (x := (i : Int) + 1) (by omega) (by omega)]
      simpa using e
    · refine ⟨h, ?_⟩
      apply ev_succ
      simp only [spec_l1New.l0]
      refine ev_ifp (by omega) (ev_ifn h4 ?_)
      exact Ev.now _
theorem l1New_ok (b : List Int) (hb : b.length ≤ 1048576) : ∃ h, Ev (fun k => spec_l1New.f k b) (b, 0, h) := by
  unfold spec_l1New.f
  exact l1New_loop b hb b.length 0 _ (by omega)
theorem l4Has_loop (xs : List Int) (n : Int) (hx : xs.length ≤ 17592186044416) (d : Nat) : ∀ i : Nat, i + d = xs.length → Ev (fun k => spec_l4Has.l0 k xs n (i : Int)) (decide (n ∈ xs.drop i)) := by
  induction d with
  | zero =>
    intro i hd
    apply ev_succ
    simp only [spec_l4Has.l0]
    refine ev_ifn (by omega) (ev_some ?_)
    rw [List.drop_eq_nil_of_le (by omega)]
    simp
  | succ d ih =>
    intro i hd
    apply ev_succ
    simp only [spec_l4Has.l0]
    refine ev_ifp (by omega) (ev_ifp (by omega) ?_)
    rw [w64 (by omega) (by omega), drop_rd xs i (by omega)]
    by_cases h : rd xs (i : Int) = n
    · exact ev_ifp h (ev_some (by simp [h]))
    · refine ev_ifn h ?_
      have := ih (i + 1) (by omega)
      have h' : ¬ n = rd xs (i : Int) := fun e => h e.symm
      simpa [h'] using this
theorem l4Has_ev (xs : List Int) (n : Int) (hx : xs.length ≤ 17592186044416) : Ev (fun k => spec_l4Has.f k xs n) (decide (n ∈ xs)) := by
  unfold spec_l4Has.f
  simpa using l4Has_loop xs n hx xs.length 0 (by omega)
def idxG : List Int → Int → Int
  | [], _ => -1
  | x :: xs, v => if v = x then 0 else if idxG xs v < 0 then -1 else idxG xs v + 1
theorem idxG_range (xs : List Int) (v : Int) : -1 ≤ idxG xs v ∧ idxG xs v < xs.length := by
  induction xs with
  | nil => simp [idxG]
  | cons x xs ih =>
    unfold idxG
    simp only [List.length_cons]
    split
    · omega
    · split <;> omega
theorem idxG_neg (xs : List Int) (v : Int) : idxG xs v < 0 ↔ v ∉ xs := by
  induction xs with
  | nil => simp [idxG]
  | cons x xs ih =>
    unfold idxG
    by_cases h : v = x
    · simp [h]
    · rw [if_neg h]
      by_cases h2 : idxG xs v < 0
      · rw [if_pos h2]
        simp [h, ih.1 h2]
      · rw [if_neg h2]
        have h3 : v ∈ xs := by
          rcases Decidable.em (v ∈ xs) with h4 | h4
          · exact h4
          · exact absurd (ih.2 h4) h2
        simp [h, h3]
        omega
theorem idxG_at (xs : List Int) (v : Int) (h : 0 ≤ idxG xs v) : rd xs (idxG xs v) = v ∧ v ∉ xs.take (idxG xs v).toNat := by
  induction xs with
  | nil => simp [idxG] at h
  | cons x xs ih =>
    unfold idxG at h ⊢
    by_cases h1 : v = x
    · subst h1
      simp [rd]
    · rw [if_neg h1] at h ⊢
      by_cases h2 : idxG xs v < 0
      · rw [if_pos h2] at h
        omega
      · rw [if_neg h2] at h ⊢
        obtain ⟨m, hm⟩ : ∃ m : Nat, idxG xs v = m := ⟨(idxG xs v).toNat, by omega⟩
        obtain ⟨e1, e2⟩ := ih (by omega)
        rw [hm] at e1 e2 ⊢
        have e3 : ((m : Int) + 1).toNat = m + 1 := by omega
        rw [rd, e3]
        rw [rd, Int.toNat_natCast] at e1
        rw [Int.toNat_natCast] at e2
        exact ⟨by simpa using e1, by simpa [h1] using e2⟩
theorem Index_loop (xs : List Int) (v : Int) (hx : xs.length ≤ 17592186044416) (d : Nat) : ∀ i : Nat, i + d = xs.length →
    Ev (fun k => slices_Index_int_int.l0 k xs v (xs.length : Int) (i : Int)) (if idxG (xs.drop i) v < 0 then -1 else idxG (xs.drop i) v + i) := by
  induction d with
  | zero =>
    intro i hd
    apply ev_succ
    simp only [slices_Index_int_int.l0]
    refine ev_ifn (by omega) (ev_some ?_)
    rw [List.drop_eq_nil_of_le (by omega)]
    simp [idxG]
  | succ d ih =>
    intro i hd
    apply ev_succ
    simp only [slices_Index_int_int.l0]
    refine ev_ifp (by omega) (ev_ifp (by omega) (ev_ifp (by omega) ?_))
    rw [w64 (by omega) (by omega), drop_rd xs i (by omega)]
    unfold idxG
    by_cases h : v = rd xs (i : Int)
    · refine ev_ifp h (ev_some ?_)
      rw [if_pos h]
      simp
    · refine ev_ifn h ?_
      have := ih (i + 1) (by omega)
      rw [if_neg h]
      have hr := idxG_range (xs.drop (i + 1)) v
      have e : (if (if idxG (xs.drop (i + 1)) v < 0 then -1 else idxG (xs.drop (i + 1)) v + 1) < 0 then (-1 : Int) else (if idxG (xs.drop (i + 1)) v < 0 then -1 else idxG (xs.drop (i + 1)) v + 1) + (i : Int)) = if idxG (xs.drop (i + 1)) v < 0 then -1 else idxG (xs.drop (i + 1)) v + ((i + 1 : Nat) : Int) := by
        split
        · simp
        · rw [if_neg (by omega)]
          omega
      rw [e]
      simpa using this
theorem Index_ev (xs : List Int) (v : Int) (hx : xs.length ≤ 17592186044416) : Ev (fun k => slices_Index_int_int.f k xs v) (idxG xs v) := by
  unfold slices_Index_int_int.f
  have := Index_loop xs v hx xs.length 0 (by omega)
  have hr := idxG_range xs v
  simp only [List.drop_zero] at this
  have e : (if idxG xs v < 0 then -1 else idxG xs v + ((0 : Nat) : Int)) = idxG xs v := by split <;> omega
  rw [e] at this
  exact this
theorem Contains_ev (xs : List Int) (v : Int) (hx : xs.length ≤ 17592186044416) : Ev (fun k => slices_Contains_int_int.f k xs v) (decide (v ∈ xs)) := by
  unfold slices_Contains_int_int.f
  refine Ev.bind (Index_ev xs v hx) (ev_some ?_)
  have := idxG_neg xs v
  by_cases h : v ∈ xs
  · have h2 : ¬ idxG xs v < 0 := fun h3 => this.1 h3 h
    simp [h]
    omega
  · have h2 := this.2 h
    simp [h]
    omega
/-- The least wanted, as the program finds it: the first that is not wanted at all, else the last in the order of wants. -/
def lwGo (wants : List Int) : List Int → Int → Int → Int
  | [], best, _ => best
  | x :: xs, best, last => if idxG wants x < 0 then x else if last < idxG wants x then lwGo wants xs x (idxG wants x) else lwGo wants xs best last
def lwG (left wants : List Int) : Int := lwGo wants left 0 (-1)
def LwIs (left wants : List Int) (r : Int) : Prop :=
  match left.find? (fun x => decide (x ∉ wants)) with
  | some x => r = x
  | none => (left = [] ∧ r = 0) ∨ (r ∈ left ∧ ∀ x ∈ left, idxG wants x ≤ idxG wants r)
theorem lw_one {left wants : List Int} {r s : Int} (h1 : LwIs left wants r) (h2 : LwIs left wants s) : r = s := by
  unfold LwIs at h1 h2
  revert h1 h2
  cases hf : left.find? (fun x => decide (x ∉ wants)) with
  | some x => intro h1 h2; exact h1.trans h2.symm
  | none =>
    intro h1 h2
    have hall : ∀ x ∈ left, x ∈ wants := by
      intro x hx
      have := List.find?_eq_none.1 hf x hx
      simpa using this
    rcases h1 with ⟨h1, rfl⟩ | ⟨h1, h1'⟩
    · rcases h2 with ⟨_, rfl⟩ | ⟨h2, _⟩
      · rfl
      · rw [h1] at h2; cases h2
    · rcases h2 with ⟨h2, _⟩ | ⟨h2, h2'⟩
      · rw [h2] at h1; cases h1
      · have e : idxG wants r = idxG wants s := Int.le_antisymm (h2' r h1) (h1' s h2)
        have hr : ¬ idxG wants r < 0 := fun h => (idxG_neg wants r).1 h (hall r h1)
        have hs : ¬ idxG wants s < 0 := fun h => (idxG_neg wants s).1 h (hall s h2)
        rw [← (idxG_at wants r (by omega)).1, e, (idxG_at wants s (by omega)).1]
theorem lwGo_is (wants : List Int) (all : List Int) : ∀ (xs pre : List Int) (best last : Int), all = pre ++ xs → (∀ x ∈ pre, x ∈ wants) → ((pre = [] ∧ best = 0 ∧ last = -1) ∨ (best ∈ pre ∧ last = idxG wants best ∧ ∀ x ∈ pre, idxG wants x ≤ last)) → LwIs all wants (lwGo wants xs best last)
  | [], pre, best, last, ha, hp, hb => by
    have hn : all.find? (fun x => decide (x ∉ wants)) = none := by
      rw [List.find?_eq_none]
      intro x hx
      rw [ha, List.append_nil] at hx
      simpa using hp x hx
    unfold LwIs lwGo
    rw [hn]
    rcases hb with ⟨h1, h2, _⟩ | ⟨h1, h2, h3⟩
    · exact .inl ⟨by rw [ha, h1]; rfl, h2⟩
    · refine .inr ⟨by rw [ha, List.append_nil]; exact h1, fun x hx => ?_⟩
      rw [ha, List.append_nil] at hx
      rw [← h2]
      exact h3 x hx
  | y :: xs, pre, best, last, ha, hp, hb => by
    unfold lwGo
    by_cases h1 : idxG wants y < 0
    · rw [if_pos h1]
      have hy := (idxG_neg wants y).1 h1
      have hn : all.find? (fun x => decide (x ∉ wants)) = some y := by
        rw [ha, List.find?_append]
        have : pre.find? (fun x => decide (x ∉ wants)) = none := by
          rw [List.find?_eq_none]
          intro x hx
          simpa using hp x hx
        rw [this]
        simp [hy]
      unfold LwIs
      rw [hn]
    · rw [if_neg h1]
      have hy : y ∈ wants := by
        rcases Decidable.em (y ∈ wants) with h | h
        · exact h
        · exact absurd ((idxG_neg wants y).2 h) h1
      have ha' : all = (pre ++ [y]) ++ xs := by rw [ha]; simp
      have hp' : ∀ x ∈ pre ++ [y], x ∈ wants := by
        intro x hx
        rcases List.mem_append.1 hx with h | h
        · exact hp x h
        · rw [List.mem_singleton.1 h]; exact hy
      by_cases h2 : last < idxG wants y
      · rw [if_pos h2]
        refine lwGo_is wants all xs (pre ++ [y]) y _ ha' hp' (.inr ⟨by simp, rfl, fun x hx => ?_⟩)
        rcases List.mem_append.1 hx with h | h
        · rcases hb with ⟨hb, _⟩ | ⟨_, _, hb⟩
          · rw [hb] at h; cases h
          · have := hb x h; omega
        · rw [List.mem_singleton.1 h]; exact Int.le_refl _
      · rw [if_neg h2]
        rcases hb with ⟨_, _, hb⟩ | ⟨hb, hb2, hb3⟩
        · omega
        · refine lwGo_is wants all xs (pre ++ [y]) best last ha' hp' (.inr ⟨List.mem_append_left _ hb, hb2, fun x hx => ?_⟩)
          rcases List.mem_append.1 hx with h | h
          · exact hb3 x h
          · rw [List.mem_singleton.1 h]; omega
theorem lwG_is (left wants : List Int) : LwIs left wants (lwG left wants) := lwGo_is wants left left [] 0 (-1) rfl (fun x hx => by cases hx) (.inl ⟨rfl, rfl, rfl⟩)
theorem lwG_mem (left wants : List Int) (h : left ≠ []) : lwG left wants ∈ left := by
  have := lwG_is left wants
  unfold LwIs at this
  revert this
  cases hf : left.find? (fun x => decide (x ∉ wants)) with
  | some x => intro e; rw [e]; exact List.mem_of_find?_eq_some hf
  | none =>
    rintro (⟨e, _⟩ | ⟨e, _⟩)
    · exact absurd e h
    · exact e
theorem impl_lw_loop (left wants : List Int) (hl : left.length ≤ 1048576) (hw : wants.length ≤ 1048576) (d : Nat) : ∀ (i : Nat) (best last : Int), i + d = left.length → Ev (fun k => impl_LeastWanted.l0 k wants best last left (left.length : Int) (i : Int)) (lwGo wants (left.drop i) best last) := by
  induction d with
  | zero =>
    intro i best last hd
    apply ev_succ
    simp only [impl_LeastWanted.l0]
    rw [List.drop_eq_nil_of_le (by omega)]
    exact ev_ifn (by omega) (Ev.now _)
  | succ d ih =>
    intro i best last hd
    apply ev_succ
    have e1 : wrap64 ((i : Int) + 1) = ((i + 1 : Nat) : Int) := by rw [w64 (by omega) (by omega)]; simp
    simp only [impl_LeastWanted.l0, e1]
    rw [drop_rd left i (by omega)]
    refine ev_ifp (by omega) (ev_ifp (by omega) (ev_ifp (by omega) (Ev.bind (Index_ev wants _ (by omega)) ?_)))
    unfold lwGo
    by_cases h1 : idxG wants (rd left (i : Int)) < 0
    · rw [if_pos h1]
      exact ev_ifp h1 (Ev.now _)
    · rw [if_neg h1]
      refine ev_ifn h1 ?_
      by_cases h2 : last < idxG wants (rd left (i : Int))
      · rw [if_pos h2]
        exact ev_ifp h2 (ih (i + 1) _ _ (by omega))
      · rw [if_neg h2]
        exact ev_ifn h2 (ih (i + 1) _ _ (by omega))
theorem impl_LeastWanted_ev (left wants : List Int) (hl : left.length ≤ 1048576) (hw : wants.length ≤ 1048576) : Ev (fun k => impl_LeastWanted.f k left wants) (lwG left wants) := by
  unfold impl_LeastWanted.f lwG
  simpa using impl_lw_loop left wants hl hw left.length 0 0 (-1) (by omega)
theorem spec_lw_down (left wants : List Int) (hl : left.length ≤ 1048576) (hw : wants.length ≤ 1048576) (hall : ∀ x ∈ left, x ∈ wants) (n : Nat) : n ≤ wants.length → (∀ x ∈ left, idxG wants x < n) → ∃ r, Ev (fun k => spec_LeastWanted.l1 k left wants ((n : Int) - 1)) r ∧ ((left = [] ∧ r = 0) ∨ (r ∈ left ∧ ∀ x ∈ left, idxG wants x ≤ idxG wants r)) := by
  induction n with
  | zero =>
    intro _ hn
    have hnil : left = [] := by
      rcases left with _ | ⟨x, l⟩
      · rfl
      · have h1 := hn x (by simp)
        have h2 := hall x (by simp)
        exact absurd h2 ((idxG_neg wants x).1 (by omega))
    refine ⟨0, ?_, .inl ⟨hnil, rfl⟩⟩
    apply ev_succ
    simp only [spec_LeastWanted.l1]
    exact ev_ifn (by omega) (Ev.now _)
  | succ n ih =>
    intro hnw hn
    have e0 : ((n + 1 : Nat) : Int) - 1 = (n : Int) := by omega
    have e1 : wrap64 ((n : Int) - 1) = (n : Int) - 1 := w64 (by omega) (by omega)
    rw [e0]
    have hrd : rd wants (n : Int) = wants[n] := by simp [rd, List.getD_eq_getElem?_getD, show n < wants.length by omega]
    by_cases h1 : rd wants (n : Int) ∈ left
    · by_cases h2 : rd wants (n : Int) ∈ wants.take n
      · have hn' : ∀ x ∈ left, idxG wants x < n := by
          intro x hx
          have h3 := hn x hx
          rcases Int.lt_or_eq_of_le (show idxG wants x ≤ n by omega) with h4 | h4
          · exact h4
          · have h5 := idxG_at wants x (by omega)
            rw [h4, Int.toNat_natCast] at h5
            rw [h5.1] at h2
            exact absurd h2 h5.2
        obtain ⟨r, hr, hp⟩ := ih (by omega) hn'
        refine ⟨r, ?_, hp⟩
        apply ev_succ
        simp only [spec_LeastWanted.l1, e1, Int.toNat_natCast]
        exact ev_ifp (by omega) (ev_ifp (by omega) (ev_ifp (by omega) (Ev.bind (l4Has_ev left _ (by omega)) (ev_ifp (by simpa using h1) (ev_ifp (by omega) (Ev.bind (l4Has_ev (wants.take n) _ (by simp; omega)) (ev_ifp (by simpa using h2) hr)))))))
      · refine ⟨rd wants (n : Int), ?_, .inr ⟨h1, fun x hx => ?_⟩⟩
        · apply ev_succ
          simp only [spec_LeastWanted.l1, e1, Int.toNat_natCast]
          exact ev_ifp (by omega) (ev_ifp (by omega) (ev_ifp (by omega) (Ev.bind (l4Has_ev left _ (by omega)) (ev_ifp (by simpa using h1) (ev_ifp (by omega) (Ev.bind (l4Has_ev (wants.take n) _ (by simp; omega)) (ev_ifn (by simpa using h2) (Ev.now _))))))))
        · have h3 := hn x hx
          have h6 := hn _ h1
          have h7 : ¬ idxG wants (rd wants (n : Int)) < 0 := fun h => (idxG_neg wants _).1 h (hall _ h1)
          have h8 := idxG_at wants (rd wants (n : Int)) (by omega)
          have h9 : ¬ idxG wants (rd wants (n : Int)) < n := by
            intro h
            obtain ⟨m, hm⟩ : ∃ m : Nat, idxG wants (rd wants (n : Int)) = m := ⟨(idxG wants (rd wants (n : Int))).toNat, by omega⟩
            rw [hm] at h8 h
            apply h2
            rw [← h8.1]
            have hm2 : rd wants (m : Int) = wants[m]'(by omega) := by simp [rd, List.getD_eq_getElem?_getD, show m < wants.length by omega]
            rw [hm2, List.mem_take_iff_getElem]
            exact ⟨m, by omega, rfl⟩
          omega
    · have hn' : ∀ x ∈ left, idxG wants x < n := by
        intro x hx
        have h3 := hn x hx
        rcases Int.lt_or_eq_of_le (show idxG wants x ≤ n by omega) with h4 | h4
        · exact h4
        · have h5 := idxG_at wants x (by omega)
          rw [h4] at h5
          rw [h5.1] at h1
          exact absurd hx h1
      obtain ⟨r, hr, hp⟩ := ih (by omega) hn'
      refine ⟨r, ?_, hp⟩
      apply ev_succ
      simp only [spec_LeastWanted.l1, e1]
      exact ev_ifp (by omega) (ev_ifp (by omega) (ev_ifp (by omega) (Ev.bind (l4Has_ev left _ (by omega)) (ev_ifn (by simpa using h1) hr))))
theorem spec_lw_loop (left wants : List Int) (hl : left.length ≤ 1048576) (hw : wants.length ≤ 1048576) (d : Nat) : ∀ i : Nat, i + d = left.length → (∀ x ∈ left.take i, x ∈ wants) → ∃ r, Ev (fun k => spec_LeastWanted.l0 k left wants (i : Int)) r ∧ LwIs left wants r := by
  induction d with
  | zero =>
    intro i hd hp
    rw [List.take_of_length_le (by omega)] at hp
    obtain ⟨r, hr, h⟩ := spec_lw_down left wants hl hw hp wants.length (by omega) (fun x hx => (idxG_range wants x).2)
    refine ⟨r, ?_, ?_⟩
    · apply ev_succ
      simp only [spec_LeastWanted.l0]
      rw [w64 (x := (wants.length : Int) - 1) (by omega) (by omega)]
      exact ev_ifn (by omega) hr
    · unfold LwIs
      have hn : left.find? (fun x => decide (x ∉ wants)) = none := by
        rw [List.find?_eq_none]
        intro x hx
        simpa using hp x hx
      rw [hn]
      exact h
  | succ d ih =>
    intro i hd hp
    have e1 : wrap64 ((i : Int) + 1) = ((i + 1 : Nat) : Int) := by rw [w64 (by omega) (by omega)]; simp
    have hrd : rd left (i : Int) = left[i] := by simp [rd, List.getD_eq_getElem?_getD, show i < left.length by omega]
    by_cases h1 : rd left (i : Int) ∈ wants
    · obtain ⟨r, hr, h⟩ := ih (i + 1) (by omega) (by
        intro x hx
        rw [List.take_succ_eq_append_getElem (by omega)] at hx
        rcases List.mem_append.1 hx with h | h
        · exact hp x h
        · rw [List.mem_singleton.1 h, ← hrd]; exact h1)
      refine ⟨r, ?_, h⟩
      apply ev_succ
      simp only [spec_LeastWanted.l0]
      rw [e1]
      exact ev_ifp (by omega) (ev_ifp (by omega) (Ev.bind (l4Has_ev wants _ (by omega)) (ev_ifp (by simpa using h1) hr)))
    · refine ⟨rd left (i : Int), ?_, ?_⟩
      · apply ev_succ
        simp only [spec_LeastWanted.l0]
        exact ev_ifp (by omega) (ev_ifp (by omega) (Ev.bind (l4Has_ev wants _ (by omega)) (ev_ifn (by simpa using h1) (Ev.now _))))
      · have hn : left.find? (fun x => decide (x ∉ wants)) = some (rd left (i : Int)) := by
          rw [← List.take_append_drop i left, List.find?_append]
          have : (left.take i).find? (fun x => decide (x ∉ wants)) = none := by
            rw [List.find?_eq_none]
            intro x hx
            simpa using hp x hx
          rw [this, List.take_append_drop, drop_rd left i (by omega)]
          simp [h1]
        unfold LwIs
        rw [hn]
theorem spec_LeastWanted_ev (left wants : List Int) (hl : left.length ≤ 1048576) (hw : wants.length ≤ 1048576) : Ev (fun k => spec_LeastWanted.f k left wants) (lwG left wants) := by
  unfold spec_LeastWanted.f
  obtain ⟨r, hr, h⟩ := spec_lw_loop left wants hl hw left.length 0 (by omega) (by simp)
  rw [lw_one (lwG_is left wants) h]
  exact hr
def woG (l : List Int) (n : Int) : List Int := l.filter (fun x => x != n)
theorem woG_len (l : List Int) (n : Int) : (woG l n).length ≤ l.length := List.length_filter_le _ _
theorem woG_lt (l : List Int) (n : Int) (h : n ∈ l) : (woG l n).length < l.length := by
  unfold woG
  induction l with
  | nil => cases h
  | cons x xs ih =>
    by_cases hx : x = n
    · subst hx
      simp only [List.filter_cons, bne_self_eq_false, Bool.false_eq_true, if_false, List.length_cons]
      have := List.length_filter_le (fun y => y != x) xs
      omega
    · have h' : n ∈ xs := by
        rcases List.mem_cons.1 h with h | h
        · exact absurd h.symm hx
        · exact h
      have hb : (x != n) = true := by simpa using hx
      simp only [List.filter_cons, hb, if_true, List.length_cons]
      have := ih h'
      omega
theorem impl_without_loop (l : List Int) (n : Int) (hl : l.length ≤ 1048576) (d : Nat) : ∀ (i : Nat) (o : List Int), i + d = l.length → o.length ≤ i → Ev (fun k => impl_without.l0 k n o l (l.length : Int) (i : Int)) (o ++ woG (l.drop i) n) := by
  induction d with
  | zero =>
    intro i o hd ho
    apply ev_succ
    simp only [impl_without.l0]
    rw [List.drop_eq_nil_of_le (by omega)]
    exact ev_ifn (by omega) (ev_some (by simp [woG]))
  | succ d ih =>
    intro i o hd ho
    apply ev_succ
    have e1 : wrap64 ((i : Int) + 1) = ((i + 1 : Nat) : Int) := by rw [w64 (by omega) (by omega)]; simp
    simp only [impl_without.l0, e1]
    rw [drop_rd l i (by omega)]
    refine ev_ifp (by omega) (ev_ifp (by omega) (ev_ifp (by omega) ?_))
    by_cases h : rd l (i : Int) = n
    · refine ev_ifp h ?_
      have := ih (i + 1) o (by omega) (by omega)
      simpa [woG, h] using this
    · refine ev_ifn h (ev_ifp (by omega) ?_)
      have := ih (i + 1) (o ++ [rd l (i : Int)]) (by omega) (by simp; omega)
      have hb : (rd l (i : Int) != n) = true := by simpa using h
      simpa [woG, List.filter_cons, hb] using this
theorem impl_without_ev (l : List Int) (n : Int) (hl : l.length ≤ 1048576) : Ev (fun k => impl_without.f k l n) (woG l n) := by
  unfold impl_without.f
  simpa using impl_without_loop l n hl l.length 0 [] (by omega) (by simp)
theorem spec_without_loop (l : List Int) (n : Int) (hl : l.length ≤ 1048576) (d : Nat) : ∀ (i : Nat) (o : List Int), i + d = l.length → o.length ≤ i → Ev (fun k => spec_l24Without.l0 k l n o (i : Int)) (o ++ woG (l.drop i) n) := by
  induction d with
  | zero =>
    intro i o hd ho
    apply ev_succ
    simp only [spec_l24Without.l0]
    rw [List.drop_eq_nil_of_le (by omega)]
    exact ev_ifn (by omega) (ev_some (by simp [woG]))
  | succ d ih =>
    intro i o hd ho
    apply ev_succ
    have e1 : wrap64 ((i : Int) + 1) = ((i + 1 : Nat) : Int) := by rw [w64 (by omega) (by omega)]; simp
    simp only [spec_l24Without.l0, e1]
    rw [drop_rd l i (by omega)]
    refine ev_ifp (by omega) (ev_ifp (by omega) ?_)
    by_cases h : rd l (i : Int) = n
    · refine ev_ifp h ?_
      have := ih (i + 1) o (by omega) (by omega)
      simpa [woG, h] using this
    · refine ev_ifn h (ev_ifp (by omega) ?_)
      have := ih (i + 1) (o ++ [rd l (i : Int)]) (by omega) (by simp; omega)
      have hb : (rd l (i : Int) != n) = true := by simpa using h
      simpa [woG, List.filter_cons, hb] using this
theorem spec_without_ev (l : List Int) (n : Int) (hl : l.length ≤ 1048576) : Ev (fun k => spec_l24Without.f k l n) (woG l n) := by
  unfold spec_l24Without.f
  simpa using spec_without_loop l n hl l.length 0 [] (by omega) (by simp)
/-- What is struck, in order, and what is left. -/
def strG : Nat → List Int → List Int → List Int → List Int × List Int
  | 0, left, _, _ => ([], left)
  | n + 1, left, a, b => if left.length > 1 then ((lwG left a) :: (strG n (woG left (lwG left a)) b a).1, (strG n (woG left (lwG left a)) b a).2) else ([], left)
theorem strG_len : ∀ (n : Nat) (left a b : List Int), (strG n left a b).1.length ≤ n ∧ (strG n left a b).2.length ≤ left.length
  | 0, left, _, _ => by simp [strG]
  | n + 1, left, a, b => by
    have ih := strG_len n (woG left (lwG left a)) b a
    have := woG_len left (lwG left a)
    unfold strG
    split
    · simp only [List.length_cons]; omega
    · simp
theorem strG_left : ∀ (n : Nat) (left a b : List Int), (strG n left a b).2 = (strG n left a b).1.foldl woG left
  | 0, left, _, _ => by simp [strG]
  | n + 1, left, a, b => by
    unfold strG
    split
    · simp only [List.foldl_cons]
      exact strG_left n _ b a
    · simp
theorem lw_lt (left a : List Int) (h : left.length > 1) : (woG left (lwG left a)).length < left.length := woG_lt _ _ (lwG_mem left a (by intro e; rw [e] at h; simp at h))
theorem impl_struck_loop (N : Nat) (hN : N ≤ 1048576) : ∀ (n : Nat) (left a b o : List Int), left.length ≤ n → left.length ≤ N → a.length ≤ 1048576 → b.length ≤ 1048576 → o.length + n ≤ N + 1 → Ev (fun k => impl_struck.l0 k left a b o) (o ++ (strG n left a b).1, (strG n left a b).2)
  | 0, left, a, b, o, hn, _, _, _, _ => by
    apply ev_succ
    simp only [impl_struck.l0]
    exact ev_ifn (by omega) (ev_some (by simp [strG]))
  | n + 1, left, a, b, o, hn, hl, ha, hb, ho => by
    apply ev_succ
    simp only [impl_struck.l0]
    by_cases h : left.length > 1
    · have hlt := lw_lt left a h
      have ih := impl_struck_loop N hN n (woG left (lwG left a)) b a (o ++ [lwG left a]) (by omega) (by omega) hb ha (by simp; omega)
      refine ev_ifp (by omega) (Ev.bind (impl_LeastWanted_ev left a (by omega) ha) (ev_ifp (by omega) (Ev.bind (impl_without_ev left _ (by omega)) ?_)))
      have e : (o ++ (strG (n + 1) left a b).1, (strG (n + 1) left a b).2) = (o ++ [lwG left a] ++ (strG n (woG left (lwG left a)) b a).1, (strG n (woG left (lwG left a)) b a).2) := by
        rw [strG, if_pos h]
        simp
      rw [e]
      exact ih
    · exact ev_ifn (by omega) (ev_some (by simp [strG, h]))
theorem impl_struck_ev (left a b : List Int) (hl : left.length ≤ 1048576) (ha : a.length ≤ 1048576) (hb : b.length ≤ 1048576) : Ev (fun k => impl_struck.f k left a b) (strG left.length left a b) := by
  unfold impl_struck.f
  simpa using impl_struck_loop left.length hl left.length left a b [] (by omega) (by omega) ha hb (by simp)
theorem spec_strike_loop (N : Nat) (hN : N ≤ 1048576) (a b : List Int) (ha : a.length ≤ 1048576) (hb : b.length ≤ 1048576) : ∀ (n : Nat) (left o : List Int), left.length ≤ n → left.length ≤ N → o.length + n ≤ N + 1 →
    Ev (fun k => spec_StrikeAll.l0 k a b o left) (o ++ (strG n left (if o.length % 2 = 1 then b else a) (if o.length % 2 = 1 then a else b)).1)
  | 0, left, o, hn, _, _ => by
    apply ev_succ
    simp only [spec_StrikeAll.l0]
    exact ev_ifn (by omega) (ev_some (by simp [strG]))
  | n + 1, left, o, hn, hl, ho => by
    apply ev_succ
    simp only [spec_StrikeAll.l0]
    by_cases h : left.length > 1
    · refine ev_ifp (by omega) ?_
      by_cases hp : o.length % 2 = 1
      · have hlt := lw_lt left b h
        have ih := spec_strike_loop N hN a b ha hb n (woG left (lwG left b)) (o ++ [lwG left b]) (by omega) (by omega) (by simp; omega)
        have hp' : ¬ (o ++ [lwG left b]).length % 2 = 1 := by simp; omega
        rw [if_neg hp', if_neg hp'] at ih
        rw [if_pos hp, if_pos hp]
        refine ev_ifp (by omega) (Ev.bind (spec_LeastWanted_ev left b (by omega) hb) (ev_ifp (by omega) (Ev.bind (spec_without_ev left _ (by omega)) ?_)))
        have e : o ++ (strG (n + 1) left b a).1 = o ++ [lwG left b] ++ (strG n (woG left (lwG left b)) a b).1 := by
          rw [strG, if_pos h]
          simp
        rw [e]
        exact ih
      · have hlt := lw_lt left a h
        have ih := spec_strike_loop N hN a b ha hb n (woG left (lwG left a)) (o ++ [lwG left a]) (by omega) (by omega) (by simp; omega)
        have hp' : (o ++ [lwG left a]).length % 2 = 1 := by simp; omega
        rw [if_pos hp', if_pos hp'] at ih
        rw [if_neg hp, if_neg hp]
        refine ev_ifn (by omega) (Ev.bind (spec_LeastWanted_ev left a (by omega) ha) (ev_ifp (by omega) (Ev.bind (spec_without_ev left _ (by omega)) ?_)))
        have e : o ++ (strG (n + 1) left a b).1 = o ++ [lwG left a] ++ (strG n (woG left (lwG left a)) b a).1 := by
          rw [strG, if_pos h]
          simp
        rw [e]
        exact ih
    · exact ev_ifn (by omega) (ev_some (by simp [strG, h]))
theorem spec_StrikeAll_ev (left a b : List Int) (hl : left.length ≤ 1048576) (ha : a.length ≤ 1048576) (hb : b.length ≤ 1048576) : Ev (fun k => spec_StrikeAll.f k left a b) (strG left.length left a b).1 := by
  unfold spec_StrikeAll.f
  simp only [Option.bind_some, List.nil_append, List.length_nil]
  refine ev_ifp (by omega) ?_
  simpa using spec_strike_loop left.length hl a b ha hb left.length left [] (by omega) (by omega) (by simp)
theorem nodup_take_succ {l : List Int} {i : Nat} (hi : i < l.length) (h : (l.take i).Nodup) (hn : rd l (i : Int) ∉ l.take i) : (l.take (i + 1)).Nodup := by
  rw [List.take_succ_eq_append_getElem hi, List.nodup_append]
  refine ⟨h, by simp, ?_⟩
  intro x hx y hy
  rw [List.mem_singleton] at hy
  subst hy
  intro e
  subst e
  apply hn
  have : rd l (i : Int) = l[i] := by simp [rd, List.getD_eq_getElem?_getD, hi]
  rw [this]
  exact hx
theorem not_nodup {l : List Int} {i : Nat} (hi : i < l.length) (hn : rd l (i : Int) ∈ l.take i) : ¬ l.Nodup := by
  intro h
  have h2 : (l.take (i + 1)).Nodup := h.sublist (List.take_sublist _ _)
  rw [List.take_succ_eq_append_getElem hi, List.nodup_append] at h2
  have : rd l (i : Int) = l[i] := by simp [rd, List.getD_eq_getElem?_getD, hi]
  rw [this] at hn
  exact h2.2.2 _ hn _ (List.mem_singleton.2 rfl) rfl
theorem nodup_le {a b : List Int} (h : a.Nodup) (hs : ∀ x ∈ a, x ∈ b) : a.length ≤ b.length := by
  induction a generalizing b with
  | nil => simp
  | cons x xs ih =>
    have hx : x ∈ b := hs x (by simp)
    have h1 := List.nodup_cons.1 h
    have h2 : xs.length ≤ (b.erase x).length := ih h1.2 fun y hy => by
      have hne : y ≠ x := fun e => h1.1 (e ▸ hy)
      exact (List.mem_erase_of_ne hne).2 (hs y (by simp [hy]))
    rw [List.length_erase_of_mem hx] at h2
    have h3 : 0 < b.length := List.length_pos_of_mem hx
    simp only [List.length_cons]
    omega
def restG (left : List Int) (gone : List Int) : List Int := left.filter (fun x => decide (x ∉ gone))
theorem rest_step (left gone : List Int) (n : Int) : woG (restG left gone) n = restG left (gone ++ [n]) := by
  unfold woG restG
  rw [List.filter_filter]
  apply List.filter_congr
  intro x _
  by_cases h1 : x = n <;> by_cases h2 : x ∈ gone <;> simp [h1, h2]
theorem find_filter (p : Int → Bool) : ∀ l : List Int, l.find? p = (l.filter p).head?
  | [] => rfl
  | x :: xs => by
    by_cases h : p x = true
    · simp [List.find?_cons, List.filter_cons, h]
    · simp only [Bool.not_eq_true] at h
      rw [List.find?_cons_of_neg (by simp [h]), List.filter_cons_of_neg (by simp [h]), find_filter p xs]
theorem impl_l1_loop (left who : List Int) (hl : left.length ≤ 1048576) (hw : who.length ≤ 1048576) (hlt : who.length < left.length) (hnl : left.Nodup) (d : Nat) : ∀ i : Nat, i + d = who.length → (who.take i).Nodup → (∀ x ∈ who.take i, x ∈ left) →
    Ev (fun k => impl_Strike.l1 k (restG left (who.take i)) who (who.length : Int) (i : Int)) (if who.Nodup ∧ (∀ x ∈ who, x ∈ left) then (match left.find? (fun x => decide (x ∉ who)) with | some x => (x, true) | none => (0, false)) else (0, false)) := by
  induction d with
  | zero =>
    intro i hd h1 h2
    rw [List.take_of_length_le (by omega)] at h1 h2 ⊢
    rw [if_pos ⟨h1, h2⟩]
    apply ev_succ
    simp only [impl_Strike.l1]
    refine ev_ifn (by omega) ?_
    rw [find_filter]
    show Ev _ (match (restG left who).head? with | some x => (x, true) | none => (0, false))
    have hne : restG left who ≠ [] := by
      intro e
      have hall : ∀ x ∈ left, x ∈ who := by
        intro x hx
        rcases Decidable.em (x ∈ who) with h | h
        · exact h
        · have : x ∈ restG left who := List.mem_filter.2 ⟨hx, by simpa using h⟩
          rw [e] at this
          cases this
      have := nodup_le hnl hall
      omega
    revert hne
    cases restG left who with
    | nil => intro h; exact absurd rfl h
    | cons x xs =>
      intro _
      refine ev_ifp (by simp <;> omega) (ev_some ?_)
      simp [rd]
  | succ d ih =>
    intro i hd h1 h2
    apply ev_succ
    have e1 : wrap64 ((i : Int) + 1) = ((i + 1 : Nat) : Int) := by rw [w64 (by omega) (by omega)]; simp
    have hrd : rd who (i : Int) = who[i] := by simp [rd, List.getD_eq_getElem?_getD, show i < who.length by omega]
    have hmem : rd who (i : Int) ∈ who := by rw [hrd]; exact List.getElem_mem _
    have hrl : (restG left (who.take i)).length ≤ left.length := List.length_filter_le _ _
    simp only [impl_Strike.l1, e1]
    refine ev_ifp (by omega) (ev_ifp (by omega) (ev_ifp (by omega) (Ev.bind (Contains_ev (restG left (who.take i)) _ (by omega)) ?_)))
    by_cases h : rd who (i : Int) ∈ restG left (who.take i)
    · have h' := List.mem_filter.1 h
      have h3 : rd who (i : Int) ∉ who.take i := by simpa using h'.2
      refine ev_ifp (by simpa using h) (Ev.bind (impl_without_ev _ _ (by omega)) ?_)
      have e2 : who.take i ++ [rd who (i : Int)] = who.take (i + 1) := by rw [List.take_succ_eq_append_getElem (by omega), hrd]
      rw [rest_step, e2]
      refine ih (i + 1) (by omega) (nodup_take_succ (by omega) h1 h3) ?_
      intro x hx
      rw [← e2] at hx
      rcases List.mem_append.1 hx with hx | hx
      · exact h2 x hx
      · rw [List.mem_singleton.1 hx]; exact h'.1
    · refine ev_ifn (by simpa using h) (ev_some ?_)
      rw [if_neg]
      rintro ⟨hn, ha⟩
      apply h
      refine List.mem_filter.2 ⟨ha _ hmem, ?_⟩
      have : rd who (i : Int) ∉ who.take i := fun hh => not_nodup (by omega) hh hn
      simpa using this
theorem impl_l0_loop (left who : List Int) (hl : left.length ≤ 1048576) (hw : who.length ≤ 1048576) (hlt : who.length < left.length) (d : Nat) : ∀ i : Nat, i + d = left.length → (left.take i).Nodup →
    Ev (fun k => impl_Strike.l0 k left who left (left.length : Int) (i : Int)) (if left.Nodup ∧ who.Nodup ∧ (∀ x ∈ who, x ∈ left) then (match left.find? (fun x => decide (x ∉ who)) with | some x => (x, true) | none => (0, false)) else (0, false)) := by
  induction d with
  | zero =>
    intro i hd h1
    rw [List.take_of_length_le (by omega)] at h1
    apply ev_succ
    simp only [impl_Strike.l0]
    refine ev_ifn (by omega) ?_
    have := impl_l1_loop left who hl hw hlt h1 who.length 0 (by omega) (by simp) (by simp)
    have e : restG left (who.take 0) = left := by simp [restG]
    rw [e] at this
    simpa [h1] using this
  | succ d ih =>
    intro i hd h1
    apply ev_succ
    have e1 : wrap64 ((i : Int) + 1) = ((i + 1 : Nat) : Int) := by rw [w64 (by omega) (by omega)]; simp
    simp only [impl_Strike.l0, e1, Int.toNat_natCast]
    refine ev_ifp (by omega) (ev_ifp (by omega) (ev_ifp (by omega) (ev_ifp (by omega) (Ev.bind (Contains_ev (left.take i) _ (by simp; omega)) ?_))))
    by_cases h : rd left (i : Int) ∈ left.take i
    · rw [if_neg (fun hh => not_nodup (by omega) h hh.1)]
      exact ev_ifp (by simpa using h) (Ev.now _)
    · exact ev_ifn (by simpa using h) (ih (i + 1) (by omega) (nodup_take_succ (by omega) h1 h))
def strikeG (left who : List Int) : Int × Bool := if left.Nodup ∧ (1 ≤ left.length ∧ left.length ≤ 9) ∧ who.length = left.length - 1 ∧ who.Nodup ∧ (∀ x ∈ who, x ∈ left) then (match left.find? (fun x => decide (x ∉ who)) with | some x => (x, true) | none => (0, false)) else (0, false)
theorem impl_Strike_ev (left who : List Int) (hl : left.length ≤ 1048576) (hw : who.length ≤ 1048576) : Ev (fun k => impl_Strike.f k left who) (strikeG left who) := by
  unfold impl_Strike.f strikeG
  simp only [impl_InRange_eq, Option.bind_some]
  by_cases h2 : 1 ≤ left.length ∧ left.length ≤ 9
  · have h2' : (1 : Int) ≤ (left.length : Int) ∧ (left.length : Int) ≤ 9 := by omega
    rw [w64 (x := (left.length : Int) - 1) (by omega) (by omega)]
    refine ev_ifp (by simpa using h2') ?_
    apply ev_succ
    simp only [impl_Strike.j0]
    by_cases h3 : who.length = left.length - 1
    · refine ev_ifn (by simp; omega) ?_
      have := impl_l0_loop left who hl hw (by omega) left.length 0 (by omega) (by simp)
      simpa [h2, h3] using this
    · rw [if_neg (fun hh => h3 hh.2.2.1)]
      exact ev_ifp (by simp; omega) (Ev.now _)
  · have h2' : ¬ ((1 : Int) ≤ (left.length : Int) ∧ (left.length : Int) ≤ 9) := by omega
    rw [if_neg (fun hh => h2 hh.2.1)]
    refine ev_ifn (by simpa using h2') ?_
    apply ev_succ
    simp only [impl_Strike.j0, if_true]
    exact Ev.now _
theorem contains_loop (xs : List Int) (v : Int) (hx : xs.length ≤ 1048576) (d : Nat) : ∀ i : Nat, i + d = xs.length → Ev (fun k => laws_contains.l0 k xs v (i : Int)) (decide (v ∈ xs.drop i)) := by
  induction d with
  | zero =>
    intro i hd
    apply ev_succ
    simp only [laws_contains.l0]
    rw [List.drop_eq_nil_of_le (by omega)]
    exact ev_ifn (by omega) (ev_some (by simp))
  | succ d ih =>
    intro i hd
    apply ev_succ
    have e1 : wrap64 ((i : Int) + 1) = ((i + 1 : Nat) : Int) := by rw [w64 (by omega) (by omega)]; simp
    simp only [laws_contains.l0, e1]
    refine ev_ifp (by omega) (ev_ifp (by omega) ?_)
    rw [drop_rd xs i (by omega)]
    by_cases h : rd xs (i : Int) = v
    · exact ev_ifp h (ev_some (by simp [h]))
    · refine ev_ifn h ?_
      have h' : ¬ v = rd xs (i : Int) := fun e => h e.symm
      simpa [h'] using ih (i + 1) (by omega)
theorem contains_ev (xs : List Int) (v : Int) (hx : xs.length ≤ 1048576) : Ev (fun k => laws_contains.f k xs v) (decide (v ∈ xs)) := by
  unfold laws_contains.f
  simpa using contains_loop xs v hx xs.length 0 (by omega)
def firstG (l : List Int) : Int := if l.length = 0 then 0 else rd l 0
/-- A list of one up to its length, in whatever order. -/
def OneTo (l : List Int) : Prop := l.Nodup ∧ ∀ x, x ∈ l ↔ 1 ≤ x ∧ x ≤ l.length
theorem oneTo_put (xs : List Int) (k : Nat) (h : OneTo xs) : OneTo (([] ++ xs.take k) ++ [((xs.length + 1 : Nat) : Int)] ++ xs.drop k) ∧ (([] ++ xs.take k) ++ [((xs.length + 1 : Nat) : Int)] ++ xs.drop k).length = xs.length + 1 := by
  have hp : (([] ++ xs.take k) ++ [((xs.length + 1 : Nat) : Int)] ++ xs.drop k).Perm (((xs.length + 1 : Nat) : Int) :: xs) := by
    have := @List.perm_middle _ ((xs.length + 1 : Nat) : Int) (xs.take k) (xs.drop k)
    rw [List.take_append_drop] at this
    simpa using this
  have hl := hp.length_eq
  rw [List.length_cons] at hl
  refine ⟨⟨hp.nodup_iff.mpr (List.nodup_cons.mpr ⟨fun hm => ?_, h.1⟩), fun x => ?_⟩, hl⟩
  · have := (h.2 _).mp hm
    omega
  · rw [hp.mem_iff, List.mem_cons, h.2, hl]
    omega
theorem list_loop (b : List Int) (d : Nat) : ∀ (i h : Int) (xs : List Int) (n : Int), CurOk b i → OneTo xs → (xs.length : Int) + 1 = n → n + d = 7 →
    ∃ l i' h', Ev (fun k => spec_l24List.l0 k xs n b i h) (l, i', h') ∧ OneTo l ∧ 1 ≤ l.length ∧ l.length ≤ 6 ∧ CurOk b i' := by
  induction d with
  | zero =>
    intro i h xs n hc ho hn hd
    obtain ⟨v, i1, h1, e1, v0, v1, _, c1⟩ := l1Below_ok h 6 hc
    have v2 := v1 (by omega)
    refine ⟨xs, i1, h1, ev_succ ?_, ho, by omega, by omega, c1⟩
    simp only [spec_l24List.l0, e1, Option.bind_some]
    rw [w64 (x := 1 + v) (by omega) (by omega)]
    exact ev_ifn (by omega) (Ev.now _)
  | succ d ih =>
    intro i h xs n hc ho hn hd
    obtain ⟨v, i1, h1, e1, v0, v1, _, c1⟩ := l1Below_ok h 6 hc
    have v2 := v1 (by omega)
    have w1 : wrap64 (1 + v) = 1 + v := w64 (by omega) (by omega)
    by_cases hv : n ≤ 1 + v
    · obtain ⟨p, i2, h2, e2, p0, p1, _, c2⟩ := l1Below_ok h1 n c1
      have p2 := p1 (by omega)
      obtain ⟨q, rfl⟩ : ∃ q : Nat, p = (q : Int) := ⟨p.toNat, by omega⟩
      have hn' : n = ((xs.length + 1 : Nat) : Int) := by omega
      obtain ⟨o1, o2⟩ := oneTo_put xs q ho
      rw [← hn'] at o1 o2
      have w2 : wrap64 (n + 1) = n + 1 := w64 (by omega) (by omega)
      obtain ⟨l, i', h', he, q'⟩ := ih i2 h2 _ (n + 1) c2 o1 (by omega) (by omega)
      refine ⟨l, i', h', ev_succ ?_, q'⟩
      simp only [spec_l24List.l0, e1, e2, Option.bind_some, w1, w2, Int.toNat_natCast]
      exact ev_ifp hv (ev_ifp (by omega) (ev_ifp (by omega) (ev_ifp (by simp; omega) (ev_ifp (by simp; omega) (ev_ifp (by simp; omega) he)))))
    · refine ⟨xs, i1, h1, ev_succ ?_, ho, by omega, by omega, c1⟩
      simp only [spec_l24List.l0, e1, Option.bind_some, w1]
      exact ev_ifn hv (Ev.now _)
theorem list_ok (b : List Int) (i h : Int) (hc : CurOk b i) : ∃ l i' h', Ev (fun k => spec_l24List.f k b i h) (l, i', h') ∧ OneTo l ∧ 1 ≤ l.length ∧ l.length ≤ 6 ∧ CurOk b i' := by
  unfold spec_l24List.f
  exact list_loop b 6 i h [] 1 hc ⟨List.nodup_nil, fun x => by simp; omega⟩ (by simp) (by omega)
theorem drawAll_ev (b : List Int) (hb : b.length ≤ 1048576) : ∃ l p q, Ev (fun k => spec_DrawStrikeAll.f k b) (l, p, q) ∧ (OneTo l ∧ 1 ≤ l.length ∧ l.length ≤ 6) ∧ (OneTo p ∧ 1 ≤ p.length ∧ p.length ≤ 6) ∧ (OneTo q ∧ 1 ≤ q.length ∧ q.length ≤ 6) := by
  obtain ⟨h, hn⟩ := l1New_ok b hb
  obtain ⟨l, i1, h1, e1, a1, b1, d1, c1⟩ := list_ok b 0 h (curOk0 hb)
  obtain ⟨p, i2, h2, e2, a2, b2, d2, c2⟩ := list_ok b i1 h1 c1
  obtain ⟨q, i3, h3, e3, a3, b3, d3, c3⟩ := list_ok b i2 h2 c2
  refine ⟨l, p, q, ?_, ⟨a1, b1, d1⟩, ⟨a2, b2, d2⟩, ⟨a3, b3, d3⟩⟩
  unfold spec_DrawStrikeAll.f
  exact Ev.bind hn (Ev.bind e1 (Ev.bind e2 (Ev.bind e3 (Ev.now _))))
theorem drawStrike_ev (b : List Int) (hb : b.length ≤ 1048576) : ∃ l w, Ev (fun k => spec_DrawStrike.f k b) (l, w) ∧ l.length ≤ 100 ∧ w.length ≤ 100 := by
  obtain ⟨h, hn⟩ := l1New_ok b hb
  obtain ⟨l, i1, h1, e1, a1, b1, d1, c1⟩ := list_ok b 0 h (curOk0 hb)
  obtain ⟨p, i2, h2, e2, a2, b2, d2, c2⟩ := list_ok b i1 h1 c1
  obtain ⟨q, i3, h3, e3, a3, b3, d3, c3⟩ := list_ok b i2 h2 c2
  obtain ⟨v, i4, h4, e4, _, _, _, c4⟩ := l1Below_ok h3 8 c3
  have hs := spec_StrikeAll_ev l p q (by omega) (by omega) (by omega)
  have hsl := (strG_len l.length l p q).1
  by_cases hv0 : v = 0
  · refine ⟨l, (strG l.length l p q).1 ++ [1], ?_, by omega, by simp; omega⟩
    unfold spec_DrawStrike.f
    refine Ev.bind hn (Ev.bind e1 (Ev.bind e2 (Ev.bind e3 (Ev.bind hs ?_))))
    simp only [e4, Option.bind_some]
    exact ev_ifp hv0 (ev_ifp (by omega) (Ev.now _))
  · by_cases hv1 : v = 1
    · refine ⟨l ++ [rd l 0], (strG l.length l p q).1, ?_, by simp; omega, by omega⟩
      unfold spec_DrawStrike.f
      refine Ev.bind hn (Ev.bind e1 (Ev.bind e2 (Ev.bind e3 (Ev.bind hs ?_))))
      simp only [e4, Option.bind_some]
      exact ev_ifn hv0 (ev_ifp hv1 (ev_ifp (by omega) (ev_ifp (by omega) (Ev.now _))))
    · refine ⟨l, (strG l.length l p q).1, ?_, by omega, by omega⟩
      unfold spec_DrawStrike.f
      refine Ev.bind hn (Ev.bind e1 (Ev.bind e2 (Ev.bind e3 (Ev.bind hs ?_))))
      simp only [e4, Option.bind_some]
      exact ev_ifn hv0 (ev_ifn hv1 (Ev.now _))
theorem wo_nodup {l : List Int} (h : l.Nodup) (n : Int) (hn : n ∈ l) : (woG l n).Nodup ∧ (woG l n).length = l.length - 1 ∧ ∀ x, x ∈ woG l n ↔ x ∈ l ∧ x ≠ n := by
  have e : l.erase n = woG l n := h.erase_eq_filter n
  refine ⟨h.sublist List.filter_sublist, ?_, fun x => ?_⟩
  · rw [← e, List.length_erase_of_mem hn]
  · unfold woG
    rw [List.mem_filter]
    simp
theorem str_one : ∀ (n : Nat) (left a b : List Int), left.length ≤ n → left.Nodup → 1 ≤ left.length →
    ∃ m, (strG n left a b).2 = [m] ∧ m ∈ left ∧ m ∉ (strG n left a b).1 ∧ (strG n left a b).1.Nodup ∧ (strG n left a b).1.length = left.length - 1 ∧ (∀ x ∈ (strG n left a b).1, x ∈ left) ∧ (∀ x ∈ left, x ∈ (strG n left a b).1 ∨ x = m)
  | 0, left, a, b, hn, _, h1 => by omega
  | n + 1, left, a, b, hn, hd, h1 => by
    unfold strG
    by_cases h : left.length > 1
    · rw [if_pos h]
      have hm := lwG_mem left a (by intro e; rw [e] at h; simp at h)
      obtain ⟨w1, w2, w3⟩ := wo_nodup hd _ hm
      obtain ⟨m, i1, i2, i3, i4, i5, i6, i7⟩ := str_one n (woG left (lwG left a)) b a (by omega) w1 (by omega)
      have hx : lwG left a ∉ (strG n (woG left (lwG left a)) b a).1 := fun e => ((w3 _).mp (i6 _ e)).2 rfl
      have i2' := (w3 m).mp i2
      refine ⟨m, i1, i2'.1, ?_, List.nodup_cons.mpr ⟨hx, i4⟩, ?_, ?_, ?_⟩
      · rw [List.mem_cons, not_or]
        exact ⟨i2'.2, i3⟩
      · simp only [List.length_cons]; omega
      · intro x hxm
        rcases List.mem_cons.mp hxm with rfl | hxm
        · exact hm
        · exact ((w3 _).mp (i6 _ hxm)).1
      · intro x hxl
        by_cases e : x = lwG left a
        · exact .inl (by rw [e]; exact List.mem_cons_self)
        · rcases i7 x ((w3 x).mpr ⟨hxl, e⟩) with h7 | h7
          · exact .inl (List.mem_cons_of_mem _ h7)
          · exact .inr h7
    · rw [if_neg h]
      obtain ⟨m, rfl⟩ := List.length_eq_one_iff.mp (show left.length = 1 by omega)
      exact ⟨m, rfl, by simp, by simp, List.nodup_nil, by simp, by simp, by simp⟩
theorem find_low (p : Int → Bool) : ∀ (a : List Int) (r : Int), a.find? p = some r → ∀ x, p x = true → x ∈ a → idxG a r ≤ idxG a x
  | [], r, h, x, _, hx => by cases hx
  | y :: ys, r, h, x, hp, hx => by
    have hx0 : ¬ idxG (y :: ys) x < 0 := fun e => (idxG_neg _ _).mp e hx
    by_cases hy : p y = true
    · rw [List.find?_cons_of_pos hy] at h
      have hr : r = y := (Option.some.inj h).symm
      have : idxG (y :: ys) r = 0 := by unfold idxG; rw [if_pos hr]
      omega
    · rw [List.find?_cons_of_neg hy] at h
      have hxy : x ≠ y := fun e => hy (e ▸ hp)
      have hry : r ≠ y := fun e => hy (e ▸ List.find?_some h)
      have hxm : x ∈ ys := (List.mem_cons.mp hx).resolve_left hxy
      have ih := find_low p ys r h x hp hxm
      have hr1 : ¬ idxG ys r < 0 := fun e => (idxG_neg _ _).mp e (List.mem_of_find?_eq_some h)
      have hx1 : ¬ idxG ys x < 0 := fun e => (idxG_neg _ _).mp e hxm
      unfold idxG
      rw [if_neg hxy, if_neg hry, if_neg hr1, if_neg hx1]
      omega
def fcG (left wants : List Int) : Int := match wants.find? (fun x => decide (x ∈ left)) with | some x => x | none => 0
theorem fc_loop (a b : List Int) (ha : a.length ≤ 1048576) (hb : b.length ≤ 1048576) (d : Nat) : ∀ i : Nat, i + d = b.length →
    Ev (fun k => impl_FirstChoice.l0 k a b (b.length : Int) (i : Int)) (match (b.drop i).find? (fun x => decide (x ∈ a)) with | some x => x | none => 0) := by
  induction d with
  | zero =>
    intro i hd
    apply ev_succ
    simp only [impl_FirstChoice.l0]
    rw [List.drop_eq_nil_of_le (by omega)]
    exact ev_ifn (by omega) (Ev.now _)
  | succ d ih =>
    intro i hd
    have e1 : wrap64 ((i : Int) + 1) = ((i + 1 : Nat) : Int) := by rw [w64 (by omega) (by omega)]; simp
    apply ev_succ
    simp only [impl_FirstChoice.l0]
    rw [e1, drop_rd b i (by omega)]
    refine ev_ifp (by omega) (ev_ifp (by omega) (ev_ifp (by omega) (Ev.bind (Contains_ev a _ (by omega)) ?_)))
    by_cases h1 : rd b (i : Int) ∈ a
    · rw [List.find?_cons_of_pos (by simpa using h1)]
      exact ev_ifp (by simpa using h1) (Ev.now _)
    · rw [List.find?_cons_of_neg (by simpa using h1)]
      exact ev_ifn (by simpa using h1) (ih (i + 1) (by omega))
theorem fc_ev (a b : List Int) (ha : a.length ≤ 1048576) (hb : b.length ≤ 1048576) : Ev (fun k => impl_FirstChoice.f k a b) (fcG a b) := by
  unfold impl_FirstChoice.f fcG
  simpa using fc_loop a b ha hb b.length 0 (by omega)
theorem fc_ne (left a : List Int) (hl : OneTo left) (ha : OneTo a) (h1 : left.length > 1) (hle : left.length ≤ a.length) : fcG left a ≠ lwG left a := by
  have hall : ∀ x ∈ left, x ∈ a := fun x hx => (ha.2 x).mpr (by have := (hl.2 x).mp hx; omega)
  have hlw := lwG_is left a
  unfold LwIs at hlw
  have hn : left.find? (fun x => decide (x ∉ a)) = none := by
    rw [List.find?_eq_none]
    intro x hx
    simpa using hall x hx
  rw [hn] at hlw
  have hne : left ≠ [] := by intro e; rw [e] at h1; simp at h1
  obtain ⟨hm, hmax⟩ := hlw.resolve_left (fun e => hne e.1)
  intro e
  unfold fcG at e
  cases hf : a.find? (fun x => decide (x ∈ left)) with
  | none =>
    have := List.find?_eq_none.mp hf _ (hall _ hm)
    simp [hm] at this
  | some r =>
    rw [hf] at e
    have e' : r = lwG left a := e
    have hlow := find_low _ a r hf
    have hone : ∀ x ∈ left, x = lwG left a := by
      intro x hx
      have l1 := hlow x (by simpa using hx) (hall x hx)
      have l2 := hmax x hx
      rw [e'] at l1
      have e3 : idxG a x = idxG a (lwG left a) := by omega
      have p1 : ¬ idxG a x < 0 := fun e => (idxG_neg _ _).mp e (hall x hx)
      rw [← (idxG_at a x (by omega)).1, e3, (idxG_at a _ (by omega)).1]
    have := nodup_le (a := left) (b := [lwG left a]) hl.1 (fun x hx => by rw [List.mem_singleton]; exact hone x hx)
    simp at this
    omega
theorem strike_str (left a b : List Int) (hl : OneTo left) (h1 : 1 ≤ left.length) (h6 : left.length ≤ 6) : ∃ m, firstG (strG left.length left a b).2 = m ∧ strikeG left (strG left.length left a b).1 = (m, true) ∧ m ∈ left ∧ m ∉ (strG left.length left a b).1 ∧ (strG left.length left a b).1.length = left.length - 1 := by
  obtain ⟨m, i1, i2, i3, i4, i5, i6, i7⟩ := str_one left.length left a b (by omega) hl.1 h1
  refine ⟨m, by rw [i1]; rfl, ?_, i2, i3, i5⟩
  unfold strikeG
  rw [if_pos ⟨hl.1, ⟨h1, by omega⟩, i5, i4, i6⟩]
  cases hf : left.find? (fun x => decide (x ∉ (strG left.length left a b).1)) with
  | none =>
    have := List.find?_eq_none.mp hf m i2
    simp [i3] at this
  | some y =>
    have hy := List.find?_some hf
    have hy2 := List.mem_of_find?_eq_some hf
    have := (i7 y hy2).resolve_left (by simpa using hy)
    rw [this]
theorem j1_ev (code : List Int) (hb : code.length ≤ 1048576) : Ev (fun k => laws_FnMotions.j1 k code false) true := by
  obtain ⟨l, w, hd, hl, hw⟩ := drawStrike_ev code hb
  apply ev_succ
  simp only [laws_FnMotions.j1, Bool.false_eq_true, if_false]
  refine Ev.bind hd (Ev.bind (impl_Strike_ev l w (by omega) (by omega)) ?_)
  by_cases h : (strikeG l w).2 = true
  · have hy : (strikeG l w).1 ∈ l ∧ (strikeG l w).1 ∉ w := by
      unfold strikeG at h ⊢
      split at h
      · rename_i hc
        rw [if_pos hc]
        cases hf : l.find? (fun x => decide (x ∉ w)) with
        | none => rw [hf] at h; exact absurd h (by simp)
        | some y => exact ⟨List.mem_of_find?_eq_some hf, by simpa using List.find?_some hf⟩
      · exact absurd h (by simp)
    exact ev_ifp h (Ev.bind (contains_ev l _ (by omega)) (ev_ifp (by simpa using hy.1) (Ev.bind (contains_ev w _ (by omega)) (ev_ifn (by simpa using hy.2) (Ev.now _)))))
  · refine ev_ifn h (ev_some ?_)
    have : (strikeG l w).1 = 0 := by
      unfold strikeG at h ⊢
      split
      · rename_i hc
        rw [if_pos hc] at h
        cases hf : l.find? (fun x => decide (x ∉ w)) with
        | none => rfl
        | some y => rw [hf] at h; exact absurd rfl h
      · rfl
    rw [this]
    rfl
theorem FnMotions : laws_FnMotions.Pure := by
  intro code _ _ _
  apply Ev.rounds
  unfold laws_FnMotions.f laws_big.f
  simp only [Option.bind_some]
  by_cases hb : (code.length : Int) > 1048576
  · exact ev_ifp (decide_eq_true hb) (Ev.now _)
  · refine ev_ifn (by simpa using hb) ?_
    have hb' : code.length ≤ 1048576 := by omega
    obtain ⟨l, a, b, hd, ⟨l1, l2, l3⟩, ⟨a1, a2, a3⟩, ⟨b1, b2, b3⟩⟩ := drawAll_ev code hb'
    obtain ⟨m, m1, m2, m3, m4, m5⟩ := strike_str l a b l1 l2 l3
    have hst := impl_struck_ev l a b (by omega) (by omega) (by omega)
    have hall : Ev (fun k => impl_StrikeAll.f k l a b) (strG l.length l a b).1 := by
      unfold impl_StrikeAll.f
      exact Ev.bind hst (Ev.now _)
    have hag : Ev (fun k => impl_Agreed.f k l a b) m := by
      unfold impl_Agreed.f
      rw [← m1]
      refine Ev.bind hst ?_
      unfold firstG
      by_cases h : (strG l.length l a b).2.length = 0
      · exact ev_ifp (by omega) (ev_some (if_pos h).symm)
      · exact ev_ifn (by omega) (ev_ifp (by omega) (ev_some (if_neg h).symm))
    have hse := impl_Strike_ev l (strG l.length l a b).1 (by omega) (by omega)
    rw [m2] at hse
    refine Ev.bind hd (Ev.bind hall (Ev.bind hag (Ev.bind hse (ev_ifp rfl (ev_ifp rfl (ev_ifp ?_ (Ev.bind (contains_ev _ m (by omega)) (ev_ifn (by simpa using m4) (Ev.bind (contains_ev l m (by omega)) ?_)))))))))
    · show ((strG l.length l a b).1.length : Int) = wrap64 ((l.length : Int) - 1)
      rw [w64 (by omega) (by omega)]; omega
    rw [decide_eq_true m3]
    apply ev_succ
    simp only [laws_FnMotions.j0, Bool.not_true, Bool.false_eq_true, if_false]
    by_cases h1 : l.length > 1
    · refine ev_ifp (by omega) (ev_ifp (by omega) (Ev.bind (impl_LeastWanted_ev l a (by omega) (by omega)) (ev_ifp ?_ ?_)))
      · obtain ⟨n, hn⟩ : ∃ n, l.length = n + 1 := ⟨l.length - 1, by omega⟩
        rw [hn, strG, if_pos h1]
        simp [rd]
      · by_cases h2 : l.length ≤ a.length
        · refine ev_ifp (by omega) (Ev.bind (fc_ev l a (by omega) (by omega)) ?_)
          have hne := fc_ne l a l1 a1 h1 h2
          have hrd : rd (strG l.length l a b).1 0 = lwG l a := by
            obtain ⟨n, hn⟩ : ∃ n, l.length = n + 1 := ⟨l.length - 1, by omega⟩
            rw [hn, strG, if_pos h1]
            simp [rd]
          rw [hrd, beq_eq_false_iff_ne.mpr hne]
          exact j1_ev code hb'
        · exact ev_ifn (by omega) (j1_ev code hb')
    · exact ev_ifn (by omega) (j1_ev code hb')

end Go.Proofs.Ytimikonnmcgljaa.Pure
