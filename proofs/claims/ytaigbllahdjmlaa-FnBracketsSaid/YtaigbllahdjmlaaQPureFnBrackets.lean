/- Every seed has one place, and the best two meet last: the law answers true at whatever bytes.
No condition: for every input. -/
import Derived.Test.YtaigbllahdjmlaaQFnBracketsx9
set_option linter.unusedVariables false
set_option linter.unusedSimpArgs false
set_option maxHeartbeats 1000000
namespace Go.Proofs.Ytaigbllahdjmlaa.Pure
open Go.RowKit Go.Proofs.Ytaigbllahdjmlaa.QFnBrackets Go.Proofs.YtaigbllahdjmlaaW.PrintWords Go.Proofs.YtaigbllahdjmlaaW.PrintLast

theorem w64 {x : Int} (h1 : -9223372036854775808 ≤ x) (h2 : x ≤ 9223372036854775807) : wrap64 x = x := by unfold wrap64; omega
theorem wf64 {x : Int} (h : (Lit.int .i64 x).wf = true) : -9223372036854775808 ≤ x ∧ x ≤ 9223372036854775807 := by
  simp only [Lit.wf, Bool.and_eq_true, decide_eq_true_eq] at h
  have e1 : IntKind.min .i64 = -9223372036854775808 := by decide
  have e2 : IntKind.max .i64 = 9223372036854775807 := by decide
  omega
theorem wfu8 {x : Int} (h : (Lit.int .u8 x).wf = true) : 0 ≤ x ∧ x ≤ 255 := by
  simp only [Lit.wf, Bool.and_eq_true, decide_eq_true_eq] at h
  have e1 : IntKind.min .u8 = 0 := by decide
  have e2 : IntKind.max .u8 = 255 := by decide
  omega
theorem ev_succ {α : Type} {g : Nat → Option α} {r : α} (h : Ev (fun k => g (k + 1)) r) : Ev g r := Ev.step (fun _ => rfl) h
theorem ev_some {α : Type} {r s : α} (h : r = s) : Ev (fun _ => some r) s := by subst h; exact Ev.now r
theorem ev_fix {α : Type} {o : Option α} {r : α} (h : o = some r) : Ev (fun _ => o) r := ⟨0, fun _ _ => h⟩
theorem ev_at {α : Type} {g : Nat → Option α} {r : α} (n : Nat) (h : ∀ k, g (k + n) = some r) : Ev g r :=
  ⟨n, fun k hk => by obtain ⟨m, rfl⟩ : ∃ m, k = m + n := ⟨k - n, by omega⟩; exact h m⟩
theorem ev_bindc {α β : Type} {o : Option α} {f : Nat → α → Option β} {a : α} {r : β} (h : o = some a) (k : Ev (fun n => f n a) r) : Ev (fun n => o.bind (f n)) r := by
  subst h; exact k
theorem ev_ifp {α : Type} {c : Prop} [Decidable c] {a b : Nat → Option α} {r : α} (h : c) (k : Ev a r) : Ev (fun n => if c then a n else b n) r := by
  simpa only [if_pos h] using k
theorem ev_ifn {α : Type} {c : Prop} [Decidable c] {a b : Nat → Option α} {r : α} (h : ¬ c) (k : Ev b r) : Ev (fun n => if c then a n else b n) r := by
  simpa only [if_neg h] using k
theorem drop_rd (xs : List Int) (i : Nat) (h : i < xs.length) : xs.drop i = rd xs (i : Int) :: xs.drop (i + 1) := by
  rw [List.drop_eq_getElem_cons h]
  simp [rd, List.getD_eq_getElem?_getD, h]
theorem l4Has_loop (xs : List Int) (n : Int) (hx : xs.length ≤ 17592186044416) (d : Nat) : ∀ i : Nat, i + d = xs.length → Ev (fun k => spec_l4Has.l0 k xs n (i : Int)) (decide (n ∈ xs.drop i)) := by
  induction d with
  | zero =>
    intro i hd
    apply ev_succ
    simp only [spec_l4Has.l0]
    refine ev_ifn (by omega) (ev_some ?_)
    rw [List.drop_eq_nil_of_le (by omega)]
    simp
  | succ d ih =>
    intro i hd
    apply ev_succ
    simp only [spec_l4Has.l0]
    refine ev_ifp (by omega) (ev_ifp (by omega) ?_)
    rw [w64 (by omega) (by omega), drop_rd xs i (by omega)]
    by_cases h : rd xs (i : Int) = n
    · exact ev_ifp h (ev_some (by simp [h]))
    · refine ev_ifn h ?_
      have := ih (i + 1) (by omega)
      have h' : ¬ n = rd xs (i : Int) := fun e => h e.symm
      simpa [h'] using this
theorem l4Has_ev (xs : List Int) (n : Int) (hx : xs.length ≤ 17592186044416) : Ev (fun k => spec_l4Has.f k xs n) (decide (n ∈ xs)) := by
  unfold spec_l4Has.f
  simpa using l4Has_loop xs n hx xs.length 0 (by omega)
def idxG : List Int → Int → Int
  | [], _ => -1
  | x :: xs, v => if v = x then 0 else if idxG xs v < 0 then -1 else idxG xs v + 1
theorem idxG_range (xs : List Int) (v : Int) : -1 ≤ idxG xs v ∧ idxG xs v < xs.length := by
  induction xs with
  | nil => simp [idxG]
  | cons x xs ih =>
    unfold idxG
    simp only [List.length_cons]
    split
    · omega
    · split <;> omega
theorem idxG_neg (xs : List Int) (v : Int) : idxG xs v < 0 ↔ v ∉ xs := by
  induction xs with
  | nil => simp [idxG]
  | cons x xs ih =>
    unfold idxG
    by_cases h : v = x
    · simp [h]
    · rw [if_neg h]
      by_cases h2 : idxG xs v < 0
      · rw [if_pos h2]
        simp [h, ih.1 h2]
      · rw [if_neg h2]
        have h3 : v ∈ xs := by
          rcases Decidable.em (v ∈ xs) with h4 | h4
          · exact h4
          · exact absurd (ih.2 h4) h2
        simp [h, h3]
        omega
theorem idxG_at (xs : List Int) (v : Int) (h : 0 ≤ idxG xs v) : rd xs (idxG xs v) = v ∧ v ∉ xs.take (idxG xs v).toNat := by
  induction xs with
  | nil => simp [idxG] at h
  | cons x xs ih =>
    unfold idxG at h ⊢
    by_cases h1 : v = x
    · subst h1
      simp [rd]
    · rw [if_neg h1] at h ⊢
      by_cases h2 : idxG xs v < 0
      · rw [if_pos h2] at h
        omega
      · rw [if_neg h2] at h ⊢
        obtain ⟨m, hm⟩ : ∃ m : Nat, idxG xs v = m := ⟨(idxG xs v).toNat, by omega⟩
        obtain ⟨e1, e2⟩ := ih (by omega)
        rw [hm] at e1 e2 ⊢
        have e3 : ((m : Int) + 1).toNat = m + 1 := by omega
        rw [rd, e3]
        rw [rd, Int.toNat_natCast] at e1
        rw [Int.toNat_natCast] at e2
        exact ⟨by simpa using e1, by simpa [h1] using e2⟩
theorem Index_loop (xs : List Int) (v : Int) (hx : xs.length ≤ 17592186044416) (d : Nat) : ∀ i : Nat, i + d = xs.length →
    Ev (fun k => slices_Index_int_int.l0 k xs v (xs.length : Int) (i : Int)) (if idxG (xs.drop i) v < 0 then -1 else idxG (xs.drop i) v + i) := by
  induction d with
  | zero =>
    intro i hd
    apply ev_succ
    simp only [slices_Index_int_int.l0]
    refine ev_ifn (by omega) (ev_some ?_)
    rw [List.drop_eq_nil_of_le (by omega)]
    simp [idxG]
  | succ d ih =>
    intro i hd
    apply ev_succ
    simp only [slices_Index_int_int.l0]
    refine ev_ifp (by omega) (ev_ifp (by omega) (ev_ifp (by omega) ?_))
    rw [w64 (by omega) (by omega), drop_rd xs i (by omega)]
    unfold idxG
    by_cases h : v = rd xs (i : Int)
    · refine ev_ifp h (ev_some ?_)
      rw [if_pos h]
      simp
    · refine ev_ifn h ?_
      have := ih (i + 1) (by omega)
      rw [if_neg h]
      have hr := idxG_range (xs.drop (i + 1)) v
      have e : (if (if idxG (xs.drop (i + 1)) v < 0 then -1 else idxG (xs.drop (i + 1)) v + 1) < 0 then (-1 : Int) else (if idxG (xs.drop (i + 1)) v < 0 then -1 else idxG (xs.drop (i + 1)) v + 1) + (i : Int)) = if idxG (xs.drop (i + 1)) v < 0 then -1 else idxG (xs.drop (i + 1)) v + ((i + 1 : Nat) : Int) := by
        split
        · simp
        · rw [if_neg (by omega)]
          omega
      rw [e]
      simpa using this
theorem Index_ev (xs : List Int) (v : Int) (hx : xs.length ≤ 17592186044416) : Ev (fun k => slices_Index_int_int.f k xs v) (idxG xs v) := by
  unfold slices_Index_int_int.f
  have := Index_loop xs v hx xs.length 0 (by omega)
  have hr := idxG_range xs v
  simp only [List.drop_zero] at this
  have e : (if idxG xs v < 0 then -1 else idxG xs v + ((0 : Nat) : Int)) = idxG xs v := by split <;> omega
  rw [e] at this
  exact this
theorem Contains_ev (xs : List Int) (v : Int) (hx : xs.length ≤ 17592186044416) : Ev (fun k => slices_Contains_int_int.f k xs v) (decide (v ∈ xs)) := by
  unfold slices_Contains_int_int.f
  refine Ev.bind (Index_ev xs v hx) (ev_some ?_)
  have := idxG_neg xs v
  by_cases h : v ∈ xs
  · have h2 : ¬ idxG xs v < 0 := fun h3 => this.1 h3 h
    simp [h]
    omega
  · have h2 := this.2 h
    simp [h]
    omega
def seedG (n : Int) : List Int :=
  if n = 2 then [1, 2] else if n = 4 then [1, 4, 2, 3] else if n = 8 then [1, 8, 4, 5, 2, 7, 3, 6] else if n = 16 then [1, 16, 8, 9, 4, 13, 5, 12, 2, 15, 7, 10, 3, 14, 6, 11] else []
theorem impl_RoundsOf_eq (n : Int) : impl_RoundsOf.f n = some (if n = 2 then 1 else if n = 4 then 2 else if n = 8 then 3 else if n = 16 then 4 else 0) := by
  unfold impl_RoundsOf.f
  repeat' split
  all_goals rfl
theorem impl_SeedOrder_ev (n : Int) : Ev (fun k => impl_SeedOrder.f k n) (seedG n) := by
  by_cases h2 : n = 2
  · subst h2
    exact Ev.of (fun k => impl_SeedOrder.mono 2 k) (k := 80) (by decide +kernel)
  by_cases h4 : n = 4
  · subst h4
    exact Ev.of (fun k => impl_SeedOrder.mono 4 k) (k := 80) (by decide +kernel)
  by_cases h8 : n = 8
  · subst h8
    exact Ev.of (fun k => impl_SeedOrder.mono 8 k) (k := 80) (by decide +kernel)
  by_cases h16 : n = 16
  · subst h16
    exact Ev.of (fun k => impl_SeedOrder.mono 16 k) (k := 80) (by decide +kernel)
  have e : seedG n = [] := by simp [seedG, h2, h4, h8, h16]
  rw [e]
  unfold impl_SeedOrder.f
  rw [impl_RoundsOf_eq]
  simp only [h2, h4, h8, h16, if_false, Option.bind_some, if_true]
  exact Ev.now _
theorem spec_SeedOrder_ev (n : Int) : Ev (fun k => spec_SeedOrder.f k n) (seedG n) := by
  by_cases h2 : n = 2
  · subst h2
    exact Ev.of (fun k => spec_SeedOrder.mono 2 k) (k := 80) (by decide +kernel)
  by_cases h4 : n = 4
  · subst h4
    exact Ev.of (fun k => spec_SeedOrder.mono 4 k) (k := 80) (by decide +kernel)
  by_cases h8 : n = 8
  · subst h8
    exact Ev.of (fun k => spec_SeedOrder.mono 8 k) (k := 80) (by decide +kernel)
  by_cases h16 : n = 16
  · subst h16
    exact Ev.of (fun k => spec_SeedOrder.mono 16 k) (k := 80) (by decide +kernel)
  have e : seedG n = [] := by simp [seedG, h2, h4, h8, h16]
  rw [e]
  apply ev_succ
  simp only [spec_SeedOrder.f, Option.bind_some]
  refine ev_ifn h2 (ev_ifn h4 (ev_ifn h8 ?_))
  apply ev_succ
  have hb : (n != 16) = true := by simpa using h16
  simp only [spec_SeedOrder.j0, hb, if_true]
  exact Ev.now _
def seedsOk (s : List Int) (n : Int) : Bool := decide (s.length % 2 = 0) && decide (s.length ≤ 16) && s.all (fun x => decide (1 ≤ x ∧ x ≤ n))
theorem seedG_ok (n : Int) : seedsOk (seedG n) n = true := by
  unfold seedG
  by_cases h2 : n = 2
  · subst h2; decide +kernel
  by_cases h4 : n = 4
  · subst h4; decide +kernel
  by_cases h8 : n = 8
  · subst h8; decide +kernel
  by_cases h16 : n = 16
  · subst h16; decide +kernel
  simp [h2, h4, h8, h16, seedsOk]
theorem seed_rd {s : List Int} {n : Int} (h : seedsOk s n = true) (i : Nat) (hi : i < s.length) : 1 ≤ rd s (i : Int) ∧ rd s (i : Int) ≤ n := by
  simp only [seedsOk, Bool.and_eq_true, List.all_eq_true, decide_eq_true_eq] at h
  have : rd s (i : Int) = s[i] := by simp [rd, List.getD_eq_getElem?_getD, hi]
  rw [this]
  exact h.2 _ (List.getElem_mem _)
theorem and255 (a : Int) : 0 ≤ Go.bits .and .i64 a 255 ∧ Go.bits .and .i64 a 255 ≤ 255 := by
  have hle : (BitVec.ofInt 64 a &&& BitVec.ofInt 64 255).toNat ≤ 255 := by
    rw [BitVec.toNat_and]
    exact Nat.le_trans Nat.and_le_right (by decide)
  show 0 ≤ IntKind.i64.wrap ((BitVec.ofInt 64 a &&& BitVec.ofInt 64 255).toNat : Int) ∧ IntKind.i64.wrap ((BitVec.ofInt 64 a &&& BitVec.ofInt 64 255).toNat : Int) ≤ 255
  rw [IntKind.wrap_i64]
  omega
def CurOk (b : List Int) (i : Int) : Prop := 0 ≤ i ∧ i ≤ b.length ∧ b.length ≤ 1048576
theorem curOk0 {b : List Int} (hb : b.length ≤ 1048576) : CurOk b 0 := ⟨by omega, by omega, hb⟩
theorem l1Byte_ok {b : List Int} {i : Int} (h : Int) (hc : CurOk b i) : ∃ x i' h', spec_l1Byte.f b i h = some (x, i', h') ∧ 0 ≤ x ∧ x ≤ 255 ∧ CurOk b i' := by
  obtain ⟨h0, h1, h2⟩ := hc
  unfold spec_l1Byte.f
  by_cases hi : i < (b.length : Int)
  · rw [if_pos hi, if_pos h0]
    exact ⟨_, _, _, rfl, (and255 _).1, (and255 _).2, by rw [w64 (by omega) (by omega)]; exact ⟨by omega, by omega, h2⟩⟩
  · rw [if_neg hi]
    exact ⟨_, _, _, rfl, (and255 _).1, (and255 _).2, h0, h1, h2⟩
theorem l1Below_ok {b : List Int} {i : Int} (h n : Int) (hc : CurOk b i) : ∃ x i' h', spec_l1Below.f b i h n = some (x, i', h') ∧ 0 ≤ x ∧ (0 < n → x < n) ∧ (n ≤ 0 → x = 0) ∧ CurOk b i' := by
  unfold spec_l1Below.f
  by_cases h1 : n ≤ 0
  · rw [if_pos h1]
    exact ⟨0, i, h, rfl, by omega, by omega, fun _ => rfl, hc⟩
  · rw [if_neg h1]
    have hn : n ≠ 0 := by omega
    by_cases h2 : n ≤ 256
    · rw [if_pos h2]
      obtain ⟨x, i', h', e, hx0, hx1, hc'⟩ := l1Byte_ok h hc
      rw [e]
      simp only [Option.bind_some, if_neg hn]
      exact ⟨_, _, _, rfl, Int.tmod_nonneg _ hx0, fun hp => Int.tmod_lt_of_pos _ hp, fun hq => absurd hq h1, hc'⟩
    · rw [if_neg h2]
      obtain ⟨x, i1, g1, e1, hx0, hx1, c1⟩ := l1Byte_ok h hc
      obtain ⟨y, i2, g2, e2, hy0, hy1, c2⟩ := l1Byte_ok g1 c1
      obtain ⟨z, i3, g3, e3, hz0, hz1, c3⟩ := l1Byte_ok g2 c2
      simp only [e1, e2, e3, Option.bind_some, if_neg hn]
      refine ⟨_, _, _, rfl, Int.tmod_nonneg _ ?_, fun hp => Int.tmod_lt_of_pos _ hp, fun hq => absurd hq h1, c3⟩
      unfold wrap64
      omega
theorem l1New_loop (b : List Int) (hb : b.length ≤ 1048576) (d : Nat) : ∀ (i : Nat) (h : Int), i + d = b.length → ∃ h', Ev (fun k => spec_l1New.l0 k b h (i : Int)) (b, 0, h') := by
  induction d with
  | zero =>
    intro i h hd
    refine ⟨h, ?_⟩
    apply ev_succ
    simp only [spec_l1New.l0]
    refine ev_ifn (by omega) ?_
    exact Ev.now _
  | succ d ih =>
    intro i h hd
    by_cases h4 : (i : Int) < 4000
    · obtain ⟨h', e⟩ := ih (i + 1) (Go.bits .and .i64 (wrap64 ((wrap64 ((wrap64 (h * 137)) + (wrap64 (rd b (i : Int))))) + 11)) 1073741823) (by omega)
      refine ⟨h', ?_⟩
      apply ev_succ
      simp only [spec_l1New.l0]
      refine ev_ifp (by omega) (ev_ifp h4 (ev_ifp (by omega) ?_))
      rw [w64 (x := (i : Int) + 1) (by omega) (by omega)]
      simpa using e
    · refine ⟨h, ?_⟩
      apply ev_succ
      simp only [spec_l1New.l0]
      refine ev_ifp (by omega) (ev_ifn h4 ?_)
      exact Ev.now _
theorem l1New_ok (b : List Int) (hb : b.length ≤ 1048576) : ∃ h, Ev (fun k => spec_l1New.f k b) (b, 0, h) := by
  unfold spec_l1New.f
  exact l1New_loop b hb b.length 0 _ (by omega)
theorem rd_mem (l : List Int) (j : Int) (h0 : 0 ≤ j) (h1 : j < l.length) : rd l j ∈ l := by
  unfold rd
  have h : j.toNat < l.length := by omega
  simp [List.getD_eq_getElem?_getD, h]
theorem l1Int_ok {b : List Int} {i : Int} (h : Int) (l : List Int) (hl : 0 < l.length) (hc : CurOk b i) : ∃ v i' h', spec_l1Int.f b i h l = some (v, i', h') ∧ v ∈ l ∧ CurOk b i' := by
  obtain ⟨x, i', h', e, h0, h1, _, c⟩ := l1Below_ok h (l.length : Int) hc
  unfold spec_l1Int.f
  rw [e]
  simp only [Option.bind_some]
  rw [if_pos h0, if_pos (h1 (by omega))]
  exact ⟨_, _, _, rfl, rd_mem l x h0 (h1 (by omega)), c⟩
theorem l1Once_ok {b : List Int} {i : Int} (h n : Int) (hc : CurOk b i) : ∃ t i' h', spec_l1Once.f b i h n = some (t, i', h') ∧ CurOk b i' := by
  obtain ⟨x, i', h', e, h0, h1, _, c⟩ := l1Below_ok h n hc
  unfold spec_l1Once.f
  rw [e]
  simp only [Option.bind_some]
  exact ⟨_, _, _, rfl, c⟩
theorem contains_loop (xs : List Int) (v : Int) (hx : xs.length ≤ 1048576) (d : Nat) : ∀ i : Nat, i + d = xs.length → Ev (fun k => laws_contains.l0 k xs v (i : Int)) (decide (v ∈ xs.drop i)) := by
  induction d with
  | zero =>
    intro i hd
    apply ev_succ
    simp only [laws_contains.l0]
    rw [List.drop_eq_nil_of_le (by omega)]
    exact ev_ifn (by omega) (ev_some (by simp))
  | succ d ih =>
    intro i hd
    apply ev_succ
    have e1 : wrap64 ((i : Int) + 1) = ((i + 1 : Nat) : Int) := by rw [w64 (by omega) (by omega)]; simp
    simp only [laws_contains.l0, e1]
    refine ev_ifp (by omega) (ev_ifp (by omega) ?_)
    rw [drop_rd xs i (by omega)]
    by_cases h : rd xs (i : Int) = v
    · exact ev_ifp h (ev_some (by simp [h]))
    · refine ev_ifn h ?_
      have h' : ¬ v = rd xs (i : Int) := fun e => h e.symm
      simpa [h'] using ih (i + 1) (by omega)
theorem contains_ev (xs : List Int) (v : Int) (hx : xs.length ≤ 1048576) : Ev (fun k => laws_contains.f k xs v) (decide (v ∈ xs)) := by
  unfold laws_contains.f
  simpa using contains_loop xs v hx xs.length 0 (by omega)
/-- the order of seeds: each in its bounds, none twice, neighbours add up -/
def ordOk (s : List Int) (n : Int) : Bool := (List.range s.length).all fun i => decide (1 ≤ rd s (i : Int)) && decide (rd s (i : Int) ≤ n) && !decide (rd s (i : Int) ∈ s.take i) && (decide (i % 2 = 0) || decide (rd s ((i : Int) - 1) + rd s (i : Int) = n + 1))
def meetOk (n : Int) (L : Nat) : Bool := (List.range L).all fun a => (List.range L).all fun b => match impl_MeetIn.f 100 n ((a : Int) + 1) ((b : Int) + 1), impl_MeetIn.f 100 n ((b : Int) + 1) ((a : Int) + 1) with
  | some m, some m' => m == m' && ((m == 0) == (a == b))
  | _, _ => false
def topOk (n : Int) : Bool := match impl_MeetIn.f 100 n 1 2, impl_RoundsOf.f n with
  | some m, some m' => m == m'
  | _, _ => false
theorem all_ok (n : Int) (h : n = 2 ∨ n = 4 ∨ n = 8 ∨ n = 16) : ordOk (seedG n) n = true ∧ meetOk n (seedG n).length = true ∧ topOk n = true ∧ (seedG n).length ≤ 16 := by
  rcases h with rfl | rfl | rfl | rfl
  · exact ⟨by decide +kernel, by decide +kernel, by decide +kernel, by decide +kernel⟩
  · exact ⟨by decide +kernel, by decide +kernel, by decide +kernel, by decide +kernel⟩
  · exact ⟨by decide +kernel, by decide +kernel, by decide +kernel, by decide +kernel⟩
  · exact ⟨by decide +kernel, by decide +kernel, by decide +kernel, by decide +kernel⟩
theorem meet_ev (n : Int) (L : Nat) (h : meetOk n L = true) (a b : Int) (ha : 1 ≤ a ∧ a ≤ L) (hb : 1 ≤ b ∧ b ≤ L) : ∃ m, Ev (fun k => impl_MeetIn.f k n a b) m ∧ Ev (fun k => impl_MeetIn.f k n b a) m ∧ ((m == 0) != (a == b)) = false := by
  unfold meetOk at h
  rw [List.all_eq_true] at h
  have h1 := h (a.toNat - 1) (by rw [List.mem_range]; omega)
  rw [List.all_eq_true] at h1
  have h2 := h1 (b.toNat - 1) (by rw [List.mem_range]; omega)
  rw [show ((a.toNat - 1 : Nat) : Int) + 1 = a by omega, show ((b.toNat - 1 : Nat) : Int) + 1 = b by omega] at h2
  split at h2
  · next m m' e1 e2 =>
    rw [Bool.and_eq_true, beq_iff_eq, beq_iff_eq] at h2
    obtain ⟨rfl, h3⟩ := h2
    refine ⟨m, Ev.of (fun k => impl_MeetIn.mono n a b k) e1, Ev.of (fun k => impl_MeetIn.mono n b a k) e2, ?_⟩
    rw [h3]
    by_cases e : a = b
    · subst e; simp
    · have : ¬ (a.toNat - 1 = b.toNat - 1) := by omega
      rw [beq_eq_false_iff_ne.mpr e, beq_eq_false_iff_ne.mpr this]
      rfl
  · cases h2
theorem brk_l2 (x0 s : List Int) (n : Int) (hs : s.length ≤ 16) (hm : meetOk n s.length = true) (a : Nat) (ha : 1 ≤ a ∧ a ≤ s.length) (R : Ev (fun k => laws_FnBrackets.l1 k x0 n s ((a + 1 : Nat) : Int)) true) (d : Nat) :
    ∀ b : Nat, 1 ≤ b → b + d = s.length + 1 → Ev (fun k => laws_FnBrackets.l2 k x0 n s (a : Int) (b : Int)) true := by
  have w1 : wrap64 ((a : Int) + 1) = ((a + 1 : Nat) : Int) := by rw [w64 (by omega) (by omega)]; simp
  induction d with
  | zero =>
    intro b h1 h2
    apply ev_succ
    simp only [laws_FnBrackets.l2, w1]
    exact ev_ifn (by omega) R
  | succ d ih =>
    intro b h1 h2
    have w2 : wrap64 ((b : Int) + 1) = ((b + 1 : Nat) : Int) := by rw [w64 (by omega) (by omega)]; simp
    obtain ⟨m, e1, e2, e3⟩ := meet_ev n s.length hm (a : Int) (b : Int) (by omega) (by omega)
    apply ev_succ
    simp only [laws_FnBrackets.l2, w2]
    refine ev_ifp (by omega) (Ev.bind e1 (ev_ifn (by rw [e3]; decide) (Ev.bind e1 (Ev.bind e2 (ev_ifp rfl (ih (b + 1) (by omega) (by omega)))))))
theorem brk_l1 (x0 s : List Int) (n : Int) (hs : s.length ≤ 16) (hm : meetOk n s.length = true) (R : Ev (fun k => (spec_DrawFirstRound.f k x0).bind fun t301 => ((impl_FirstRound.f k t301).bind fun t304 => (laws_FnBrackets.l3 k x0 t301 t304 0))) true) (d : Nat) :
    ∀ a : Nat, 1 ≤ a → a + d = s.length + 1 → Ev (fun k => laws_FnBrackets.l1 k x0 n s (a : Int)) true := by
  induction d with
  | zero =>
    intro a h1 h2
    apply ev_succ
    simp only [laws_FnBrackets.l1]
    exact ev_ifn (by omega) R
  | succ d ih =>
    intro a h1 h2
    apply ev_succ
    simp only [laws_FnBrackets.l1]
    exact ev_ifp (by omega) (brk_l2 x0 s n hs hm a (by omega) (ih (a + 1) (by omega) (by omega)) s.length 1 (by omega) (by omega))
theorem brk_l0 (x0 s : List Int) (n : Int) (hn : n = 2 ∨ n = 4 ∨ n = 8 ∨ n = 16) (hs : s.length ≤ 16) (ho : ordOk s n = true) (hm : meetOk n s.length = true) (ht : topOk n = true) (R : Ev (fun k => (spec_DrawFirstRound.f k x0).bind fun t301 => ((impl_FirstRound.f k t301).bind fun t304 => (laws_FnBrackets.l3 k x0 t301 t304 0))) true) (d : Nat) :
    ∀ i : Nat, i + d = s.length → Ev (fun k => laws_FnBrackets.l0 k x0 n s (i : Int)) true := by
  have hj : ∀ v : Bool, v = false → Ev (fun k => laws_FnBrackets.j1 k x0 n s v) true := by
    intro v hv
    apply ev_succ
    simp only [laws_FnBrackets.j1, hv, Bool.false_eq_true, if_false]
    exact brk_l1 x0 s n hs hm R s.length 1 (by omega) (by omega)
  induction d with
  | zero =>
    intro i hd
    apply ev_succ
    simp only [laws_FnBrackets.l0]
    refine ev_ifn (by omega) ?_
    by_cases hl : (s.length : Int) > 0
    · refine ev_ifp hl ?_
      unfold topOk at ht
      split at ht
      · next m m' e1 e2 =>
        rw [beq_iff_eq] at ht
        subst ht
        rw [e2]
        exact Ev.bind (Ev.of (fun k => impl_MeetIn.mono n 1 2 k) e1) (by simpa only [Option.bind_some] using hj _ (by simp))
      · cases ht
    · exact ev_ifn hl (hj _ rfl)
  | succ d ih =>
    intro i hd
    have hi : i < s.length := by omega
    have h0 := ho
    unfold ordOk at h0
    rw [List.all_eq_true] at h0
    have h1 := h0 i (by rw [List.mem_range]; omega)
    simp only [Bool.and_eq_true, Bool.or_eq_true, decide_eq_true_eq, Bool.not_eq_true', decide_eq_false_iff_not] at h1
    obtain ⟨⟨⟨a1, a2⟩, a3⟩, a4⟩ := h1
    have w1 : wrap64 ((i : Int) + 1) = ((i + 1 : Nat) : Int) := by rw [w64 (by omega) (by omega)]; simp
    have w2 : wrap64 ((i : Int) - 1) = (i : Int) - 1 := w64 (by omega) (by omega)
    have w3 : wrap64 (n + 1) = n + 1 := w64 (by omega) (by omega)
    have ht : Int.tmod (i : Int) 2 = ((i % 2 : Nat) : Int) := by
      rw [Int.tmod_eq_emod_of_nonneg (by omega)]
      omega
    apply ev_succ
    simp only [laws_FnBrackets.l0, w1, w2, w3, ht, Int.toNat_natCast]
    refine ev_ifp (by omega) (ev_ifp (by omega) (ev_ifn (by omega) (ev_ifn (by omega) (ev_ifp (by omega) (Ev.bind (contains_ev (s.take i) _ (by simp; omega)) (ev_ifn (by simpa using a3) ?_))))))
    by_cases hp : i % 2 = 1
    · have a5 := a4.resolve_left (by omega)
      have hpre := h0 (i - 1) (by rw [List.mem_range]; omega)
      simp only [Bool.and_eq_true, Bool.or_eq_true, decide_eq_true_eq, Bool.not_eq_true', decide_eq_false_iff_not] at hpre
      have c : ((i - 1 : Nat) : Int) = (i : Int) - 1 := by omega
      rw [c] at hpre
      have b1 := hpre.1.1.1
      have b2 := hpre.1.1.2
      refine ev_ifp (by omega) (ev_ifp (by omega) (ev_ifp (by omega) (ev_ifp ?_ (ih (i + 1) (by omega)))))
      rw [w64 (by omega) (by omega)]
      exact a5
    · exact ev_ifn (by omega) (ih (i + 1) (by omega))
theorem ids_loop (b : List Int) (d : Nat) : ∀ (i h : Int) (ys : List Int) (x : Int), CurOk b i → (ys.length : Int) + 1 = x → x + d = 17 → ∃ ids i' h', Ev (fun k => spec_l23Ids.l0 k ys x b i h) (ids, i', h') ∧ ids.length ≤ 16 ∧ CurOk b i' := by
  induction d with
  | zero =>
    intro i h ys x hc hy hx
    obtain ⟨v, i1, h1, e1, hv, c1⟩ := l1Int_ok h [2, 4, 8, 16, 3, 0] (by decide) hc
    have hv' : v ≤ 16 := by simp at hv; omega
    obtain ⟨t, i2, h2, e2, c2⟩ := l1Once_ok h1 8 c1
    have w1 : wrap64 ((ys.length : Int) - 1) = (ys.length : Int) - 1 := w64 (by omega) (by omega)
    by_cases ht : t = true
    · refine ⟨ys.set (0 : Int).toNat (rd ys ((ys.length : Int) - 1)), i2, h2, ev_succ ?_, by rw [List.length_set]; omega, c2⟩
      simp only [spec_l23Ids.l0, e1, e2, Option.bind_some, w1]
      exact ev_ifn (by omega) (ev_ifp (by omega) (ev_ifp ht (ev_ifp (by omega) (ev_ifp (by omega) (ev_ifp (by omega) (Ev.now _))))))
    · refine ⟨ys, i2, h2, ev_succ ?_, by omega, c2⟩
      simp only [spec_l23Ids.l0, e1, e2, Option.bind_some, w1]
      exact ev_ifn (by omega) (ev_ifp (by omega) (ev_ifn ht (Ev.now _)))
  | succ d ih =>
    intro i h ys x hc hy hx
    obtain ⟨v, i1, h1, e1, hv, c1⟩ := l1Int_ok h [2, 4, 8, 16, 3, 0] (by decide) hc
    have w0 : wrap64 (x + 1) = x + 1 := w64 (by omega) (by omega)
    by_cases hx1 : x ≤ v
    · obtain ⟨ids, i', h', he, hl, hc'⟩ := ih i1 h1 (ys ++ [wrap64 (5 * x)]) (x + 1) c1 (by simp; omega) (by omega)
      refine ⟨ids, i', h', ev_succ ?_, hl, hc'⟩
      simp only [spec_l23Ids.l0, e1, Option.bind_some, w0]
      exact ev_ifp hx1 (ev_ifp (by omega) he)
    · obtain ⟨t, i2, h2, e2, c2⟩ := l1Once_ok h1 8 c1
      have w1 : wrap64 ((ys.length : Int) - 1) = (ys.length : Int) - 1 := w64 (by omega) (by omega)
      by_cases h0 : (ys.length : Int) > 0
      · by_cases ht : t = true
        · refine ⟨ys.set (0 : Int).toNat (rd ys ((ys.length : Int) - 1)), i2, h2, ev_succ ?_, by rw [List.length_set]; omega, c2⟩
          simp only [spec_l23Ids.l0, e1, e2, Option.bind_some, w1]
          exact ev_ifn hx1 (ev_ifp h0 (ev_ifp ht (ev_ifp (by omega) (ev_ifp (by omega) (ev_ifp (by omega) (Ev.now _))))))
        · refine ⟨ys, i2, h2, ev_succ ?_, by omega, c2⟩
          simp only [spec_l23Ids.l0, e1, e2, Option.bind_some, w1]
          exact ev_ifn hx1 (ev_ifp h0 (ev_ifn ht (Ev.now _)))
      · refine ⟨ys, i1, h1, ev_succ ?_, by omega, c1⟩
        simp only [spec_l23Ids.l0, e1, Option.bind_some, w1]
        exact ev_ifn hx1 (ev_ifn h0 (Ev.now _))
theorem ids_ok (b : List Int) (i h : Int) (hc : CurOk b i) : ∃ ids i' h', Ev (fun k => spec_l23Ids.f k b i h) (ids, i', h') ∧ ids.length ≤ 16 ∧ CurOk b i' := by
  unfold spec_l23Ids.f
  exact ids_loop b 16 i h [] 1 hc (by simp) (by omega)
/-- what the law asks of the pairs of a first round -/
def Good (a : List Int) (r : List S63) : Prop := ∀ p, p ∈ r → p.f0 ∈ a ∧ p.f1 ∈ a ∧ p.f0 ≠ p.f1
def partsOk (s : List Int) : Bool := (List.range s.length).all fun i => (List.range s.length).all fun j => decide (i = j) || decide (rd s (i : Int) ≠ rd s (j : Int))
theorem seed_parts (n : Int) : partsOk (seedG n) = true ∧ ((seedG n).length = 0 ∨ ((seedG n).length : Int) = n) := by
  unfold seedG
  by_cases h2 : n = 2
  · subst h2; exact ⟨by decide +kernel, .inr (by decide +kernel)⟩
  by_cases h4 : n = 4
  · subst h4; exact ⟨by decide +kernel, .inr (by decide +kernel)⟩
  by_cases h8 : n = 8
  · subst h8; exact ⟨by decide +kernel, .inr (by decide +kernel)⟩
  by_cases h16 : n = 16
  · subst h16; exact ⟨by decide +kernel, .inr (by decide +kernel)⟩
  simp [h2, h4, h8, h16, partsOk]
theorem parts_ne {s : List Int} (h : partsOk s = true) (i j : Nat) (hi : i < s.length) (hj : j < s.length) (hne : i ≠ j) : rd s (i : Int) ≠ rd s (j : Int) := by
  unfold partsOk at h
  rw [List.all_eq_true] at h
  have h1 := h i (by rw [List.mem_range]; exact hi)
  rw [List.all_eq_true] at h1
  have h2 := h1 j (by rw [List.mem_range]; exact hj)
  simp only [Bool.or_eq_true, decide_eq_true_eq] at h2
  exact h2.resolve_left hne
theorem first_l1_same (a s : List Int) : ∀ (k : Nat) (o : List S63) (i : Int), spec_FirstRound.l1 k a o s i = impl_FirstRound.l1 k a o s i
  | 0, _, _ => rfl
  | k + 1, o, i => by
    simp only [spec_FirstRound.l1, impl_FirstRound.l1, first_l1_same a s k]
theorem first_l1 (a s : List Int) (n : Int) (hn : n = a.length) (ha : a.length ≤ 1048576) (hs : seedsOk s n = true) (hq : partsOk s = true) (hd0 : ∀ i j : Nat, i < a.length → j < a.length → i ≠ j → rd a (i : Int) ≠ rd a (j : Int)) (d : Nat) : ∀ (j : Nat) (o : List S63), 2 * (j + d) = s.length → o.length = j → Good a o →
    ∃ r : List S63, 2 * r.length = s.length ∧ Good a r ∧ Ev (fun k => impl_FirstRound.l1 k a o s (2 * (j : Int))) r := by
  have hl : s.length ≤ 16 := by
    simp only [seedsOk, Bool.and_eq_true, decide_eq_true_eq] at hs
    exact hs.1.2
  induction d with
  | zero =>
    intro j o hd ho hg
    refine ⟨o, by omega, hg, ?_⟩
    apply ev_succ
    simp only [impl_FirstRound.l1]
    rw [w64 (x := 2 * (j : Int) + 1) (by omega) (by omega)]
    exact ev_ifn (by omega) (Ev.now _)
  | succ d ih =>
    intro j o hd ho hg
    have r1 := seed_rd hs (2 * j) (by omega)
    have r2 := seed_rd hs (2 * j + 1) (by omega)
    have r3 := parts_ne hq (2 * j) (2 * j + 1) (by omega) (by omega) (by omega)
    have c1 : ((2 * j : Nat) : Int) = 2 * (j : Int) := by omega
    have c2 : ((2 * j + 1 : Nat) : Int) = 2 * (j : Int) + 1 := by omega
    rw [c1] at r1
    rw [c2] at r2
    rw [c1, c2] at r3
    have w1 : wrap64 (2 * (j : Int) + 1) = 2 * (j : Int) + 1 := w64 (by omega) (by omega)
    have w2 : wrap64 (2 * (j : Int) + 2) = 2 * ((j + 1 : Nat) : Int) := by rw [w64 (by omega) (by omega)]; omega
    have w3 : wrap64 (rd s (2 * (j : Int)) - 1) = rd s (2 * (j : Int)) - 1 := w64 (by omega) (by omega)
    have w4 : wrap64 (rd s (2 * (j : Int) + 1) - 1) = rd s (2 * (j : Int) + 1) - 1 := w64 (by omega) (by omega)
    have hg' : Good a (o ++ [⟨rd a (rd s (2 * (j : Int)) - 1), rd a (rd s (2 * (j : Int) + 1) - 1)⟩]) := by
      intro p hp
      rcases List.mem_append.mp hp with hp | hp
      · exact hg p hp
      · rw [List.mem_singleton.mp hp]
        refine ⟨rd_mem a _ (by omega) (by omega), rd_mem a _ (by omega) (by omega), ?_⟩
        have := hd0 (rd s (2 * (j : Int)) - 1).toNat (rd s (2 * (j : Int) + 1) - 1).toNat (by omega) (by omega) (by omega)
        rwa [show (((rd s (2 * (j : Int)) - 1).toNat : Nat) : Int) = rd s (2 * (j : Int)) - 1 by omega, show (((rd s (2 * (j : Int) + 1) - 1).toNat : Nat) : Int) = rd s (2 * (j : Int) + 1) - 1 by omega] at this
    obtain ⟨r, hr, hgr, he⟩ := ih (j + 1) (o ++ [⟨rd a (rd s (2 * (j : Int)) - 1), rd a (rd s (2 * (j : Int) + 1) - 1)⟩]) (by omega) (by simp [ho]) hg'
    refine ⟨r, hr, hgr, ?_⟩
    apply ev_succ
    simp only [impl_FirstRound.l1, w1, w2, w3, w4]
    exact ev_ifp (by omega) (ev_ifp (by omega) (ev_ifp (by omega) (ev_ifp (by omega) (ev_ifp (by omega) (ev_ifp (by omega) (ev_ifp (by omega) (ev_ifp (by omega) (ev_ifp (by omega) he))))))))
theorem take_rd {a : List Int} {i j : Nat} (h : ¬ rd a (i : Int) ∈ a.take i) (hi : i < a.length) (hj : j < i) : rd a (j : Int) ≠ rd a (i : Int) := by
  intro e
  apply h
  rw [← e]
  have hj' : j < a.length := by omega
  have : rd a (j : Int) = a[j] := by simp [rd, List.getD_eq_getElem?_getD, hj']
  rw [this]
  rw [List.mem_iff_getElem]
  exact ⟨j, by simp; omega, by simp⟩
theorem first_both (a : List Int) (ha : a.length ≤ 1048576) (d : Nat) : ∀ i : Nat, i + d = a.length → (∀ p q : Nat, p < q → q < i → rd a (p : Int) ≠ rd a (q : Int)) →
    ∃ r : List S63, (r.length = 0 ∨ 2 * r.length = a.length) ∧ Good a r ∧ Ev (fun k => spec_FirstRound.l0 k a [] (seedG a.length) (i : Int)) r ∧ Ev (fun k => impl_FirstRound.l0 k a [] a (a.length : Int) (i : Int)) r := by
  induction d with
  | zero =>
    intro i hd hne
    have hs := seedG_ok (a.length : Int)
    have he : (seedG (a.length : Int)).length % 2 = 0 := by
      simp only [seedsOk, Bool.and_eq_true, decide_eq_true_eq] at hs
      exact hs.1.1
    have hp := seed_parts (a.length : Int)
    obtain ⟨r, hr, hg, h1⟩ := first_l1 a (seedG a.length) _ rfl ha hs hp.1 (fun p q hp hq hpq => by
      rcases Nat.lt_or_gt_of_ne hpq with h | h
      · exact hne p q h (by omega)
      · exact (hne q p h (by omega)).symm) ((seedG (a.length : Int)).length / 2) 0 [] (by omega) rfl (fun p hp => by cases hp)
    refine ⟨r, by have := hp.2; omega, hg, ?_, ?_⟩
    · apply ev_succ
      simp only [spec_FirstRound.l0, first_l1_same]
      exact ev_ifn (by omega) (by simpa using h1)
    · apply ev_succ
      simp only [impl_FirstRound.l0]
      exact ev_ifn (by omega) (Ev.bind (impl_SeedOrder_ev _) (by simpa using h1))
  | succ d ih =>
    intro i hd hne
    have e1 : wrap64 ((i : Int) + 1) = ((i + 1 : Nat) : Int) := by rw [w64 (by omega) (by omega)]; simp
    by_cases h : rd a (i : Int) ∈ a.take i
    · refine ⟨[], .inl rfl, (fun p hp => by cases hp), ?_, ?_⟩
      · apply ev_succ
        simp only [spec_FirstRound.l0, Int.toNat_natCast]
        exact ev_ifp (by omega) (ev_ifp (by omega) (ev_ifp (by omega) (Ev.bind (l4Has_ev (a.take i) _ (by simp; omega)) (ev_ifp (by simpa using h) (Ev.now _)))))
      · apply ev_succ
        simp only [impl_FirstRound.l0, Int.toNat_natCast]
        exact ev_ifp (by omega) (ev_ifp (by omega) (ev_ifp (by omega) (ev_ifp (by omega) (Ev.bind (Contains_ev (a.take i) _ (by simp; omega)) (ev_ifp (by simpa using h) (Ev.now _))))))
    · obtain ⟨r, hr, hg, hs, hi⟩ := ih (i + 1) (by omega) (fun p q h1 h2 => by
        by_cases e : q = i
        · rw [e]; exact take_rd h (by omega) (by omega)
        · exact hne p q h1 (by omega))
      refine ⟨r, hr, hg, ?_, ?_⟩
      · apply ev_succ
        simp only [spec_FirstRound.l0, Int.toNat_natCast, e1]
        exact ev_ifp (by omega) (ev_ifp (by omega) (ev_ifp (by omega) (Ev.bind (l4Has_ev (a.take i) _ (by simp; omega)) (ev_ifn (by simpa using h) hs))))
      · apply ev_succ
        simp only [impl_FirstRound.l0, Int.toNat_natCast, e1]
        exact ev_ifp (by omega) (ev_ifp (by omega) (ev_ifp (by omega) (ev_ifp (by omega) (Ev.bind (Contains_ev (a.take i) _ (by simp; omega)) (ev_ifn (by simpa using h) hi)))))
theorem first_ev (a : List Int) (ha : a.length ≤ 1048576) : ∃ r : List S63, (r.length = 0 ∨ 2 * r.length = a.length) ∧ Good a r ∧ Ev (fun k => spec_FirstRound.f k a) r ∧ Ev (fun k => impl_FirstRound.f k a) r := by
  obtain ⟨r, hr, hg, hs, hi⟩ := first_both a ha a.length 0 (by omega) (fun p q _ h => by omega)
  refine ⟨r, hr, hg, ?_, ?_⟩
  · unfold spec_FirstRound.f
    exact Ev.bind (spec_SeedOrder_ev _) (by simpa using hs)
  · unfold impl_FirstRound.f
    simpa using hi
def okAt (r : List S63) (w : List Int) (i : Nat) : Prop := rd w (i : Int) = (rd_T63 r (i : Int)).f0 ∨ rd w (i : Int) = (rd_T63 r (i : Int)).f1
instance (r : List S63) (w : List Int) (i : Nat) : Decidable (okAt r w i) := by unfold okAt; infer_instance
/-- The pairs of the first i winners. -/
def pairsG (w : List Int) : Nat → List S63
  | 0 => []
  | j + 1 => pairsG w j ++ [⟨rd w (2 * (j : Int)), rd w (2 * (j : Int) + 1)⟩]
theorem pairsG_len (w : List Int) (j : Nat) : (pairsG w j).length = j := by
  induction j with
  | zero => rfl
  | succ j ih => simp [pairsG, ih]
theorem pairsG_mem (w : List Int) (j : Nat) (hj : 2 * j ≤ w.length) : ∀ p, p ∈ pairsG w j → p.f0 ∈ w ∧ p.f1 ∈ w := by
  induction j with
  | zero => intro p hp; cases hp
  | succ j ih =>
    intro p hp
    rcases List.mem_append.mp hp with hp | hp
    · exact ih (by omega) p hp
    · rw [List.mem_singleton.mp hp]
      exact ⟨rd_mem w _ (by omega) (by omega), rd_mem w _ (by omega) (by omega)⟩
theorem impl_next_l1 (w : List Int) (hw : w.length ≤ 1048576) (m : Nat) (hm : w.length = 2 * m) (d : Nat) : ∀ j : Nat, j + d = m → Ev (fun k => impl_NextRound.l1 k w (pairsG w j) (2 * (j : Int))) (pairsG w m) := by
  induction d with
  | zero =>
    intro j hd
    apply ev_succ
    simp only [impl_NextRound.l1]
    refine ev_ifn (by omega) (ev_some ?_)
    rw [show j = m by omega]
  | succ d ih =>
    intro j hd
    apply ev_succ
    have e1 : wrap64 (2 * (j : Int) + 1) = 2 * (j : Int) + 1 := w64 (by omega) (by omega)
    have e2 : wrap64 (2 * (j : Int) + 2) = 2 * ((j + 1 : Nat) : Int) := by rw [w64 (by omega) (by omega)]; omega
    have hl := pairsG_len w j
    simp only [impl_NextRound.l1, e1, e2]
    exact ev_ifp (by omega) (ev_ifp (by omega) (ev_ifp (by omega) (ev_ifp (by omega) (ev_ifp (by omega) (ih (j + 1) (by omega))))))
theorem impl_next_loop (r : List S63) (w : List Int) (hr : r.length ≤ 1048576) (hw : w.length = r.length) (m : Nat) (hm : r.length = 2 * m) (d : Nat) : ∀ i : Nat, i + d = r.length →
    Ev (fun k => impl_NextRound.l0 k w [] r (r.length : Int) (i : Int)) (if ∀ j, j < r.length → i ≤ j → okAt r w j then pairsG w m else []) := by
  induction d with
  | zero =>
    intro i hd
    apply ev_succ
    simp only [impl_NextRound.l0]
    rw [if_pos (fun j h1 h2 => by omega)]
    refine ev_ifn (by omega) ?_
    simpa [pairsG] using impl_next_l1 w (by omega) m (by omega) m 0 (by omega)
  | succ d ih =>
    intro i hd
    have e1 : wrap64 ((i : Int) + 1) = ((i + 1 : Nat) : Int) := by rw [w64 (by omega) (by omega)]; simp
    have ih' := ih (i + 1) (by omega)
    have e : okAt r w i → ((∀ j, j < r.length → i ≤ j → okAt r w j) ↔ (∀ j, j < r.length → i + 1 ≤ j → okAt r w j)) := by
      intro ho
      constructor
      · intro h j h1 h2
        exact h j h1 (by omega)
      · intro h j h1 h2
        by_cases hj : j = i
        · rw [hj]; exact ho
        · exact h j h1 (by omega)
    apply ev_succ
    simp only [impl_NextRound.l0, e1]
    refine ev_ifp (by omega) (ev_ifp (by omega) (ev_ifp (by omega) (ev_ifp (by omega) ?_)))
    by_cases h1 : rd w (i : Int) = (rd_T63 r (i : Int)).f0
    · simp only [e (.inl h1)]
      exact ev_ifp h1 ih'
    · refine ev_ifn h1 ?_
      by_cases h2 : rd w (i : Int) = (rd_T63 r (i : Int)).f1
      · simp only [e (.inr h2)]
        exact ev_ifp h2 ih'
      · rw [if_neg (fun h => by rcases h i (by omega) (by omega) with h | h; exact h1 h; exact h2 h)]
        exact ev_ifn h2 (Ev.now _)
theorem next_ev (r : List S63) (w : List Int) (hr : r.length ≤ 1048576) (hw : w.length ≤ 1048576) : ∃ o : List S63, (o.length = 0 ∨ 2 * o.length = r.length) ∧ (∀ p, p ∈ o → p.f0 ∈ w ∧ p.f1 ∈ w) ∧ Ev (fun k => impl_NextRound.f k r w) o := by
  have stop : (w.length ≠ r.length ∨ r.length % 2 = 1) → ∃ o : List S63, (o.length = 0 ∨ 2 * o.length = r.length) ∧ (∀ p, p ∈ o → p.f0 ∈ w ∧ p.f1 ∈ w) ∧ Ev (fun k => impl_NextRound.f k r w) o := by
    intro h
    have hi : ∀ v : Bool, v = true → Ev (fun k => impl_NextRound.j0 k r w [] v) [] := by
      intro v hv
      apply ev_succ
      simp only [impl_NextRound.j0, hv, if_true]
      exact Ev.now _
    refine ⟨[], .inl rfl, (fun p hp => by cases hp), ?_⟩
    unfold impl_NextRound.f
    simp only [Option.bind_some]
    by_cases hl : (w.length : Int) = (r.length : Int)
    · refine ev_ifp hl (hi _ ?_)
      rw [beq_iff_eq]
      omega
    · exact ev_ifn hl (hi true rfl)
  by_cases hl : w.length = r.length
  · by_cases hp : r.length % 2 = 1
    · exact stop (.inr hp)
    · obtain ⟨m, hm⟩ : ∃ m, r.length = 2 * m := ⟨r.length / 2, by omega⟩
      have hb : ((r.length : Int) % 2 == 1) = false := by rw [beq_eq_false_iff_ne]; omega
      refine ⟨if ∀ j, j < r.length → 0 ≤ j → okAt r w j then pairsG w m else [], ?_, ?_, ?_⟩
      · split
        · rw [pairsG_len]; omega
        · exact .inl rfl
      · split
        · exact pairsG_mem w m (by omega)
        · intro p hp; cases hp
      · unfold impl_NextRound.f
        simp only [Option.bind_some, hb]
        refine ev_ifp (by omega) ?_
        apply ev_succ
        simp only [impl_NextRound.j0, Bool.false_eq_true, if_false]
        simpa using impl_next_loop r w hr hl m hm r.length 0 (by omega)
  · exact stop (.inl hl)
theorem drawn_loop (b : List Int) (r : List S63) (hr : r.length ≤ 1048576) (d : Nat) : ∀ (n : Nat) (i h : Int) (ys : List Int), CurOk b i → ys.length = n → n + d = r.length → ∃ w : List Int, w.length = r.length ∧ Ev (fun k => spec_DrawNextRound.l0 k r ys (n : Int) b i h) (r, w) := by
  induction d with
  | zero =>
    intro n i h ys hc hy hd
    obtain ⟨t, i2, h2, e2, c2⟩ := l1Once_ok h 6 hc
    by_cases h0 : (ys.length : Int) > 0
    · by_cases ht : t = true
      · refine ⟨ys.set (0 : Int).toNat 3, by simp; omega, ev_succ ?_⟩
        simp only [spec_DrawNextRound.l0, e2, Option.bind_some]
        exact ev_ifn (by omega) (ev_ifp h0 (ev_ifp ht (ev_ifp (by omega) (Ev.now _))))
      · refine ⟨ys, by omega, ev_succ ?_⟩
        simp only [spec_DrawNextRound.l0, e2, Option.bind_some]
        exact ev_ifn (by omega) (ev_ifp h0 (ev_ifn ht (Ev.now _)))
    · refine ⟨ys, by omega, ev_succ ?_⟩
      simp only [spec_DrawNextRound.l0, e2, Option.bind_some]
      exact ev_ifn (by omega) (ev_ifn h0 (Ev.now _))
  | succ d ih =>
    intro n i h ys hc hy hd
    obtain ⟨v, i1, h1, e1, hv, c1⟩ := l1Int_ok h [(rd_T63 r (n : Int)).f0, (rd_T63 r (n : Int)).f1] (by simp) hc
    have w0 : wrap64 ((n : Int) + 1) = ((n + 1 : Nat) : Int) := by rw [w64 (by omega) (by omega)]; simp
    obtain ⟨w, hw, he⟩ := ih (n + 1) i1 h1 (ys ++ [v]) c1 (by simp; omega) (by omega)
    refine ⟨w, hw, ev_succ ?_⟩
    simp only [spec_DrawNextRound.l0, e1, Option.bind_some, w0]
    exact ev_ifp (by omega) (ev_ifp (by omega) (ev_ifp (by omega) he))
theorem rd63 (xs : List S63) (i : Nat) (h : i < xs.length) : rd_T63 xs (i : Int) ∈ xs := by
  have : rd_T63 xs (i : Int) = xs[i] := by simp [rd_T63, List.getD_eq_getElem?_getD, h]
  rw [this]
  exact List.getElem_mem h
theorem brk_l4 (ids w : List Int) (r x y : List S63) (hw : w.length ≤ 1048576) (hi : ids.length ≤ 1048576) (hx : x.length ≤ 1048576) (hr : r.length = 0 ∨ 2 * r.length = ids.length) (hy : y.length = 0 ∨ 2 * y.length = x.length) (hm : ∀ p, p ∈ y → p.f0 ∈ w ∧ p.f1 ∈ w) (d : Nat) :
    ∀ i : Nat, i + d = y.length → Ev (fun k => laws_FnBrackets.l4 k ids r x w y (i : Int)) true := by
  induction d with
  | zero =>
    intro i hd
    apply ev_succ
    simp only [laws_FnBrackets.l4]
    refine ev_ifn (by omega) ?_
    have fin : Ev (fun _ => if (y.length : Int) = 0 then some true else some ((wrap64 (2 * (y.length : Int))) == (x.length : Int))) true := by
      by_cases h0 : (y.length : Int) = 0
      · exact ev_ifp h0 (Ev.now _)
      · refine ev_ifn h0 (ev_some ?_)
        rw [beq_iff_eq, w64 (by omega) (by omega)]
        omega
    by_cases h1 : (r.length : Int) = 0
    · exact ev_ifp h1 fin
    · refine ev_ifn h1 (ev_ifp ?_ fin)
      rw [w64 (by omega) (by omega)]
      omega
  | succ d ih =>
    intro i hd
    have e1 : wrap64 ((i : Int) + 1) = ((i + 1 : Nat) : Int) := by rw [w64 (by omega) (by omega)]; simp
    have hp := hm _ (rd63 y i (by omega))
    apply ev_succ
    simp only [laws_FnBrackets.l4, e1]
    exact ev_ifp (by omega) (ev_ifp (by omega) (Ev.bind (contains_ev w _ hw) (ev_ifp (by simpa using hp.1) (Ev.bind (contains_ev w _ hw) (ev_ifp (by simpa using hp.2) (ih (i + 1) (by omega)))))))
theorem brk_l3 (x0 ids : List Int) (r : List S63) (hi : ids.length ≤ 1048576) (hg : Good ids r) (hr : r.length = 0 ∨ 2 * r.length = ids.length) (R : Ev (fun k => (spec_DrawNextRound.f k x0).bind fun bt313 => ((impl_NextRound.f k bt313.1 bt313.2).bind fun t319 => (laws_FnBrackets.l4 k ids r bt313.1 bt313.2 t319 0))) true) (d : Nat) :
    ∀ i : Nat, i + d = r.length → Ev (fun k => laws_FnBrackets.l3 k x0 ids r (i : Int)) true := by
  induction d with
  | zero =>
    intro i hd
    apply ev_succ
    simp only [laws_FnBrackets.l3]
    exact ev_ifn (by omega) R
  | succ d ih =>
    intro i hd
    have e1 : wrap64 ((i : Int) + 1) = ((i + 1 : Nat) : Int) := by rw [w64 (by omega) (by omega)]; simp
    have hp := hg _ (rd63 r i (by omega))
    apply ev_succ
    simp only [laws_FnBrackets.l3, e1]
    exact ev_ifp (by omega) (ev_ifp (by omega) (Ev.bind (contains_ev ids _ hi) (ev_ifp (by simpa using hp.1) (Ev.bind (contains_ev ids _ hi) (ev_ifp (by simpa using hp.2.1) (ev_ifn hp.2.2 (ih (i + 1) (by omega))))))))
theorem FnBrackets : laws_FnBrackets.Pure := by
  intro b _ _ _
  apply Ev.rounds
  unfold laws_FnBrackets.f
  simp only [laws_big.f, Option.bind_some, decide_eq_true_eq]
  by_cases hb : (b.length : Int) > 1048576
  · exact ev_ifp hb (Ev.now _)
  refine ev_ifn hb ?_
  obtain ⟨h, hnew⟩ := l1New_ok b (by omega)
  have c0 : CurOk b 0 := curOk0 (by omega)
  have R2 : ∀ (ids : List Int) (r : List S63), ids.length ≤ 1048576 → (r.length = 0 ∨ 2 * r.length = ids.length) → Ev (fun k => (spec_DrawNextRound.f k b).bind fun bt313 => ((impl_NextRound.f k bt313.1 bt313.2).bind fun t319 => (laws_FnBrackets.l4 k ids r bt313.1 bt313.2 t319 0))) true := by
    intro ids r hids hr
    obtain ⟨ids2, i2, h2, e2, hl2, c2⟩ := ids_ok b 0 h c0
    obtain ⟨r2, hr2, _, hs2, _⟩ := first_ev ids2 (by omega)
    obtain ⟨w, hw, he⟩ := drawn_loop b r2 (by omega) r2.length 0 i2 h2 [] c2 rfl (by omega)
    obtain ⟨y, hy, hm, hy2⟩ := next_ev r2 w (by omega) (by omega)
    have hd : Ev (fun k => spec_DrawNextRound.f k b) (r2, w) := by
      unfold spec_DrawNextRound.f
      exact Ev.bind hnew (Ev.bind e2 (Ev.bind hs2 (by simpa using he)))
    exact Ev.bind hd (Ev.bind hy2 (by simpa using brk_l4 ids w r r2 y (by omega) hids (by omega) hr hy hm y.length 0 (by omega)))
  have R1 : Ev (fun k => (spec_DrawFirstRound.f k b).bind fun t301 => ((impl_FirstRound.f k t301).bind fun t304 => (laws_FnBrackets.l3 k b t301 t304 0))) true := by
    obtain ⟨ids, i1, h1, e1, hl1, c1⟩ := ids_ok b 0 h c0
    obtain ⟨r, hr, hg, _, hi⟩ := first_ev ids (by omega)
    have hd : Ev (fun k => spec_DrawFirstRound.f k b) ids := by
      unfold spec_DrawFirstRound.f
      exact Ev.bind hnew (Ev.bind e1 (Ev.now _))
    exact Ev.bind hd (Ev.bind hi (by simpa using brk_l3 b ids r (by omega) hg hr (R2 ids r (by omega) hr) r.length 0 (by omega)))
  obtain ⟨n, i1, h1, e1, hn, c1⟩ := l1Int_ok h [2, 4, 8, 16, 0, 1, 3, 6, 32, (-2)] (by decide) c0
  have hd : Ev (fun k => spec_DrawSeedOrder.f k b) n := by
    unfold spec_DrawSeedOrder.f
    refine Ev.bind hnew ?_
    simp only [e1, Option.bind_some]
    exact Ev.now _
  refine Ev.bind hd (Ev.bind (impl_SeedOrder_ev n) (Ev.bind (spec_SeedOrder_ev n) (ev_ifp rfl ?_)))
  rw [impl_RoundsOf_eq]
  simp only [Option.bind_some]
  by_cases hc : n = 2 ∨ n = 4 ∨ n = 8 ∨ n = 16
  · obtain ⟨ho, hm, ht, hl⟩ := all_ok n hc
    refine ev_ifn ?_ (by simpa using brk_l0 b (seedG n) n hc hl ho hm ht R1 (seedG n).length 0 (by omega))
    rcases hc with rfl | rfl | rfl | rfl <;> decide +kernel
  · have e0 : seedG n = [] := by
      simp only [not_or] at hc
      simp [seedG, hc.1, hc.2.1, hc.2.2.1, hc.2.2.2]
    have e2 : (if n = 2 then (1 : Int) else if n = 4 then 2 else if n = 8 then 3 else if n = 16 then 4 else 0) = 0 := by
      simp only [not_or] at hc
      simp [hc.1, hc.2.1, hc.2.2.1, hc.2.2.2]
    rw [e0, e2]
    refine ev_ifn (by decide) ?_
    apply ev_succ
    simp only [laws_FnBrackets.l0]
    refine ev_ifn (by simp) (ev_ifn (by simp) ?_)
    apply ev_succ
    simp only [laws_FnBrackets.j1, Bool.false_eq_true, if_false]
    apply ev_succ
    simp only [laws_FnBrackets.l1]
    exact ev_ifn (by simp) R1

end Go.Proofs.Ytaigbllahdjmlaa.Pure
