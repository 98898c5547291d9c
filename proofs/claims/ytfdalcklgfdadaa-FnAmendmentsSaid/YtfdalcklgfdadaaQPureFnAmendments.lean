/- Every amendment can be undone, and the difference is one: the law answers true at whatever bytes.
No condition: for every input. -/
import Derived.Test.YtfdalcklgfdadaaQFnAmendmentsx6
set_option linter.unusedVariables false
set_option linter.unusedSimpArgs false
set_option maxHeartbeats 1000000
namespace Go.Proofs.Ytfdalcklgfdadaa.Pure
open Go.RowKit Go.Proofs.Ytfdalcklgfdadaa.QFnAmendments Go.Proofs.YtfdalcklgfdadaaW.PrintWords Go.Proofs.YtfdalcklgfdadaaW.PrintLast

theorem w64 {x : Int} (h1 : -9223372036854775808 ≤ x) (h2 : x ≤ 9223372036854775807) : wrap64 x = x := by unfold wrap64; omega
theorem wf64 {x : Int} (h : (Lit.int .i64 x).wf = true) : -9223372036854775808 ≤ x ∧ x ≤ 9223372036854775807 := by
  simp only [Lit.wf, Bool.and_eq_true, decide_eq_true_eq] at h
  have e1 : IntKind.min .i64 = -9223372036854775808 := by decide
  have e2 : IntKind.max .i64 = 9223372036854775807 := by decide
  omega
theorem wfu8 {x : Int} (h : (Lit.int .u8 x).wf = true) : 0 ≤ x ∧ x ≤ 255 := by
  simp only [Lit.wf, Bool.and_eq_true, decide_eq_true_eq] at h
  have e1 : IntKind.min .u8 = 0 := by decide
  have e2 : IntKind.max .u8 = 255 := by decide
  omega
theorem ev_succ {α : Type} {g : Nat → Option α} {r : α} (h : Ev (fun k => g (k + 1)) r) : Ev g r := Ev.step (fun _ => rfl) h
theorem ev_some {α : Type} {r s : α} (h : r = s) : Ev (fun _ => some r) s := by subst h; exact Ev.now r
theorem ev_fix {α : Type} {o : Option α} {r : α} (h : o = some r) : Ev (fun _ => o) r := ⟨0, fun _ _ => h⟩
theorem ev_at {α : Type} {g : Nat → Option α} {r : α} (n : Nat) (h : ∀ k, g (k + n) = some r) : Ev g r :=
  ⟨n, fun k hk => by obtain ⟨m, rfl⟩ : ∃ m, k = m + n := ⟨k - n, by omega⟩; exact h m⟩
theorem ev_bindc {α β : Type} {o : Option α} {f : Nat → α → Option β} {a : α} {r : β} (h : o = some a) (k : Ev (fun n => f n a) r) : Ev (fun n => o.bind (f n)) r := by
  subst h; exact k
theorem ev_ifp {α : Type} {c : Prop} [Decidable c] {a b : Nat → Option α} {r : α} (h : c) (k : Ev a r) : Ev (fun n => if c then a n else b n) r := by
  simpa only [if_pos h] using k
theorem ev_ifn {α : Type} {c : Prop} [Decidable c] {a b : Nat → Option α} {r : α} (h : ¬ c) (k : Ev b r) : Ev (fun n => if c then a n else b n) r := by
  simpa only [if_neg h] using k
theorem drop_rd (xs : List Int) (i : Nat) (h : i < xs.length) : xs.drop i = rd xs (i : Int) :: xs.drop (i + 1) := by
  rw [List.drop_eq_getElem_cons h]
  simp [rd, List.getD_eq_getElem?_getD, h]
theorem spec_l1In_eq (a b c : Int) : spec_l1In.f a b c = some (decide (b ≤ a ∧ a ≤ c)) := by
  unfold spec_l1In.f
  by_cases h : a ≥ b
  · have h' : b ≤ a := h
    simp [h']
  · have h' : ¬ b ≤ a := h
    simp [h']
theorem impl_InRange_eq (a b c : Int) : impl_InRange.f a b c = some (decide (b ≤ a ∧ a ≤ c)) := by
  unfold impl_InRange.f
  by_cases h : b ≤ a <;> simp [h]
theorem Clone_eq (l : List Int) (hl : l.length ≤ 1100000) : slices_Clone_int_int.f l = some l := by
  unfold slices_Clone_int_int.f
  simp only [Option.bind_some, List.nil_append, List.length_nil]
  rw [if_pos (by omega)]
def mayG (l : List Int) (a b : Int) (m : List Int) : Bool := decide (0 ≤ a ∧ a ≤ (l.length : Int)) && (decide (0 ≤ b ∧ b ≤ (l.length : Int) - a) && decide ((l.length : Int) - b + (m.length : Int) ≤ 60))
def amendG (l : List Int) (a b : Int) (m : List Int) : List Int × Bool := if mayG l a b m = true then (l.take a.toNat ++ m ++ l.drop (a + b).toNat, true) else (l, false)
theorem mayG_iff (l : List Int) (a b : Int) (m : List Int) : mayG l a b m = true ↔ (0 ≤ a ∧ a ≤ (l.length : Int)) ∧ (0 ≤ b ∧ b ≤ (l.length : Int) - a) ∧ (l.length : Int) - b + (m.length : Int) ≤ 60 := by
  simp [mayG]
theorem amendG_len (l : List Int) (a b : Int) (m : List Int) : (amendG l a b m).1.length ≤ l.length + 60 := by
  unfold amendG
  by_cases h : mayG l a b m = true
  · rw [if_pos h]
    rw [mayG_iff] at h
    simp only [List.length_append, List.length_take, List.length_drop]
    omega
  · rw [if_neg h]
    show l.length ≤ l.length + 60
    omega
theorem amendG_short (l : List Int) (a b : Int) (m : List Int) (h : l.length ≤ 1048576) : (amendG l a b m).1.length ≤ 1048576 := by
  unfold amendG
  by_cases h2 : mayG l a b m = true
  · rw [if_pos h2]
    rw [mayG_iff] at h2
    simp only [List.length_append, List.length_take, List.length_drop]
    omega
  · rw [if_neg h2]
    exact h
theorem spec_May (l : List Int) (a b : Int) (m : List Int) (hl : l.length ≤ 1100000) (hm : m.length ≤ 1100000) : spec_MayAmend.f l a b m = some (mayG l a b m) := by
  simp only [spec_MayAmend.f, spec_l1In_eq, Option.bind_some]
  by_cases h1 : 0 ≤ a ∧ a ≤ (l.length : Int)
  · rw [w64 (x := (l.length : Int) - a) (by omega) (by omega), decide_eq_true h1, if_pos rfl]
    by_cases h2 : 0 ≤ b ∧ b ≤ (l.length : Int) - a
    · rw [decide_eq_true h2, if_pos rfl, w64 (x := (l.length : Int) - b) (by omega) (by omega), w64 (by omega) (by omega)]
      simp [mayG, h1, h2]
    · rw [decide_eq_false h2, if_neg (by simp)]
      simp [mayG, h2]
  · rw [decide_eq_false h1, if_neg (by simp)]
    simp [mayG, h1]
theorem spec_Amended_eq (l : List Int) (a b : Int) (m : List Int) (hl : l.length ≤ 1100000) (hm : m.length ≤ 1100000) : spec_Amended.f l a b m = some (amendG l a b m) := by
  unfold spec_Amended.f amendG
  rw [spec_May l a b m hl hm]
  simp only [Option.bind_some]
  by_cases h : mayG l a b m = true
  · rw [if_pos h, if_pos h]
    have h' := (mayG_iff l a b m).mp h
    have w2 : wrap64 (a + b) = a + b := w64 (by omega) (by omega)
    simp only [Option.bind_some, w2, List.nil_append, List.length_nil, List.length_append, List.length_take, List.length_drop]
    rw [if_pos (by omega), if_pos (by omega), if_pos (by omega), if_pos (by omega), if_pos (by omega), if_pos (by omega), if_pos (by omega)]
  · rw [if_neg h, if_neg h]
    simp only [Option.bind_some, List.nil_append, List.length_nil]
    rw [if_pos (by omega)]
theorem impl_May (l : List Int) (a b : Int) (m : List Int) (hl : l.length ≤ 1100000) (hm : m.length ≤ 1100000) : impl_MayAmend.f l a b m = some (mayG l a b m) := by
  simp only [impl_MayAmend.f, impl_InRange_eq, Option.bind_some]
  by_cases h1 : 0 ≤ a ∧ a ≤ (l.length : Int)
  · rw [w64 (x := (l.length : Int) - a) (by omega) (by omega), decide_eq_true h1, if_pos rfl]
    by_cases h2 : 0 ≤ b ∧ b ≤ (l.length : Int) - a
    · rw [decide_eq_true h2, if_pos rfl, w64 (x := (l.length : Int) - b) (by omega) (by omega), w64 (by omega) (by omega)]
      simp [mayG, h1, h2]
    · rw [decide_eq_false h2, if_neg (by simp)]
      simp [mayG, h2]
  · rw [decide_eq_false h1, if_neg (by simp)]
    simp [mayG, h1]
theorem impl_Amended_eq (l : List Int) (a b : Int) (m : List Int) (hl : l.length ≤ 1100000) (hm : m.length ≤ 1100000) : impl_Amended.f l a b m = some (amendG l a b m) := by
  unfold impl_Amended.f amendG
  rw [impl_May l a b m hl hm]
  simp only [Option.bind_some]
  by_cases h : mayG l a b m = true
  · rw [if_pos h, if_pos h]
    have h' := (mayG_iff l a b m).mp h
    have w2 : wrap64 (a + b) = a + b := w64 (by omega) (by omega)
    simp only [Option.bind_some, w2, List.nil_append, List.length_nil, List.length_append, List.length_take, List.length_drop]
    rw [if_pos (by omega), if_pos (by omega), if_pos (by omega), if_pos (by omega), if_pos (by omega), if_pos (by omega), if_pos (by omega)]
  · rw [if_neg h, if_neg h]
    simp only [Option.bind_some, List.nil_append, List.length_nil]
    rw [if_pos (by omega)]
theorem and255 (a : Int) : 0 ≤ Go.bits .and .i64 a 255 ∧ Go.bits .and .i64 a 255 ≤ 255 := by
  have hle : (BitVec.ofInt 64 a &&& BitVec.ofInt 64 255).toNat ≤ 255 := by
    rw [BitVec.toNat_and]
    exact Nat.le_trans Nat.and_le_right (by decide)
  show 0 ≤ IntKind.i64.wrap ((BitVec.ofInt 64 a &&& BitVec.ofInt 64 255).toNat : Int) ∧ IntKind.i64.wrap ((BitVec.ofInt 64 a &&& BitVec.ofInt 64 255).toNat : Int) ≤ 255
  rw [IntKind.wrap_i64]
  omega
def CurOk (b : List Int) (i : Int) : Prop := 0 ≤ i ∧ i ≤ b.length ∧ b.length ≤ 1048576
theorem curOk0 {b : List Int} (hb : b.length ≤ 1048576) : CurOk b 0 := ⟨by omega, by omega, hb⟩
theorem l1Byte_ok {b : List Int} {i : Int} (h : Int) (hc : CurOk b i) : ∃ x i' h', spec_l1Byte.f b i h = some (x, i', h') ∧ 0 ≤ x ∧ x ≤ 255 ∧ CurOk b i' := by
  obtain ⟨h0, h1, h2⟩ := hc
  unfold spec_l1Byte.f
  by_cases hi : i < (b.length : Int)
  · rw [if_pos hi, if_pos h0]
    exact ⟨_, _, _, rfl, (and255 _).1, (and255 _).2, by rw [w64 (by omega) (by omega)]; exact ⟨by omega, by omega, h2⟩⟩
  · rw [if_neg hi]
    exact ⟨_, _, _, rfl, (and255 _).1, (and255 _).2, h0, h1, h2⟩
theorem l1Below_ok {b : List Int} {i : Int} (h n : Int) (hc : CurOk b i) : ∃ x i' h', spec_l1Below.f b i h n = some (x, i', h') ∧ 0 ≤ x ∧ (0 < n → x < n) ∧ (n ≤ 0 → x = 0) ∧ CurOk b i' := by
  unfold spec_l1Below.f
  by_cases h1 : n ≤ 0
  · rw [if_pos h1]
    exact ⟨0, i, h, rfl, by omega, by omega, fun _ => rfl, hc⟩
  · rw [if_neg h1]
    have hn : n ≠ 0 := by omega
    by_cases h2 : n ≤ 256
    · rw [if_pos h2]
      obtain ⟨x, i', h', e, hx0, hx1, hc'⟩ := l1Byte_ok h hc
      rw [e]
      simp only [Option.bind_some, if_neg hn]
      exact ⟨_, _, _, rfl, Int.tmod_nonneg _ hx0, fun hp => Int.tmod_lt_of_pos _ hp, fun hq => absurd hq h1, hc'⟩
    · rw [if_neg h2]
      obtain ⟨x, i1, g1, e1, hx0, hx1, c1⟩ := l1Byte_ok h hc
      obtain ⟨y, i2, g2, e2, hy0, hy1, c2⟩ := l1Byte_ok g1 c1
      obtain ⟨z, i3, g3, e3, hz0, hz1, c3⟩ := l1Byte_ok g2 c2
      simp only [e1, e2, e3, Option.bind_some, if_neg hn]
      refine ⟨_, _, _, rfl, Int.tmod_nonneg _ ?_, fun hp => Int.tmod_lt_of_pos _ hp, fun hq => absurd hq h1, c3⟩
      unfold wrap64
      omega
theorem l1New_loop (b : List Int) (hb : b.length ≤ 1048576) (d : Nat) : ∀ (i : Nat) (h : Int), i + d = b.length → ∃ h', Ev (fun k => spec_l1New.l0 k b h (i : Int)) (b, 0, h') := by
  induction d with
  | zero =>
    intro i h hd
    refine ⟨h, ?_⟩
    apply ev_succ
    simp only [spec_l1New.l0]
    refine ev_ifn (by omega) ?_
    exact Ev.now _
  | succ d ih =>
    intro i h hd
    by_cases h4 : (i : Int) < 4000
    · obtain ⟨h', e⟩ := ih (i + 1) (Go.bits .and .i64 (wrap64 ((wrap64 ((wrap64 (h * 137)) + (wrap64 (rd b (i : Int))))) + 11)) 1073741823) (by omega)
      refine ⟨h', ?_⟩
      apply ev_succ
      simp only [spec_l1New.l0]
      refine ev_ifp (by omega) (ev_ifp h4 (ev_ifp (by omega) ?_))
      rw [w64 (x := (i : Int) + 1) (by omega) (by omega)]
      simpa using e
    · refine ⟨h, ?_⟩
      apply ev_succ
      simp only [spec_l1New.l0]
      refine ev_ifp (by omega) (ev_ifn h4 ?_)
      exact Ev.now _
theorem l1New_ok (b : List Int) (hb : b.length ≤ 1048576) : ∃ h, Ev (fun k => spec_l1New.f k b) (b, 0, h) := by
  unfold spec_l1New.f
  exact l1New_loop b hb b.length 0 _ (by omega)
theorem rd_mem (l : List Int) (j : Int) (h0 : 0 ≤ j) (h1 : j < l.length) : rd l j ∈ l := by
  unfold rd
  have h : j.toNat < l.length := by omega
  simp [List.getD_eq_getElem?_getD, h]
theorem l1Int_ok {b : List Int} {i : Int} (h : Int) (l : List Int) (hl : 0 < l.length) (hc : CurOk b i) : ∃ v i' h', spec_l1Int.f b i h l = some (v, i', h') ∧ v ∈ l ∧ CurOk b i' := by
  obtain ⟨x, i', h', e, h0, h1, _, c⟩ := l1Below_ok h (l.length : Int) hc
  unfold spec_l1Int.f
  rw [e]
  simp only [Option.bind_some]
  rw [if_pos h0, if_pos (h1 (by omega))]
  exact ⟨_, _, _, rfl, rd_mem l x h0 (h1 (by omega)), c⟩
theorem l1Once_ok {b : List Int} {i : Int} (h n : Int) (hc : CurOk b i) : ∃ t i' h', spec_l1Once.f b i h n = some (t, i', h') ∧ CurOk b i' := by
  obtain ⟨x, i', h', e, h0, h1, _, c⟩ := l1Below_ok h n hc
  unfold spec_l1Once.f
  rw [e]
  simp only [Option.bind_some]
  exact ⟨_, _, _, rfl, c⟩
theorem same_loop (l m : List Int) (hl : l.length ≤ 1100000) (he : l.length = m.length) (d : Nat) : ∀ i : Nat, i + d = l.length → Ev (fun k => laws_sameInts.l0 k l m (i : Int)) (decide (l.drop i = m.drop i)) := by
  induction d with
  | zero =>
    intro i hd
    apply ev_succ
    simp only [laws_sameInts.l0]
    rw [List.drop_eq_nil_of_le (by omega), List.drop_eq_nil_of_le (by omega)]
    exact ev_ifn (by omega) (ev_some (by simp))
  | succ d ih =>
    intro i hd
    have e1 : wrap64 ((i : Int) + 1) = ((i + 1 : Nat) : Int) := by rw [w64 (by omega) (by omega)]; simp
    have hi : i < l.length := by omega
    have hi2 : i < m.length := by omega
    have r1 : rd l (i : Int) = l[i] := by simp [rd, List.getD_eq_getElem?_getD, hi]
    have r2 : rd m (i : Int) = m[i] := by simp [rd, List.getD_eq_getElem?_getD, hi2]
    have ih' := ih (i + 1) (by omega)
    apply ev_succ
    simp only [laws_sameInts.l0, e1, r1, r2]
    rw [List.drop_eq_getElem_cons hi, List.drop_eq_getElem_cons hi2]
    refine ev_ifp (by omega) (ev_ifp (by omega) (ev_ifp (by omega) ?_))
    by_cases h : l[i] = m[i]
    · rw [h]
      refine ev_ifp rfl ?_
      rw [show decide (m[i] :: l.drop (i + 1) = m[i] :: m.drop (i + 1)) = decide (l.drop (i + 1) = m.drop (i + 1)) from decide_eq_decide.mpr ⟨fun e => (List.cons.inj e).2, fun e => by rw [e]⟩]
      exact ih'
    · refine ev_ifn h (ev_some ?_)
      exact (decide_eq_false (fun e => h (List.cons.inj e).1)).symm
theorem same_ev (l m : List Int) (hl : l.length ≤ 1100000) : Ev (fun k => laws_sameInts.f k l m) (decide (l = m)) := by
  unfold laws_sameInts.f
  by_cases h : l.length = m.length
  · refine ev_ifp (by omega) ?_
    simpa using same_loop l m hl h l.length 0 (by omega)
  · refine ev_ifn (by omega) (ev_some ?_)
    rw [decide_eq_false (fun e => h (by rw [e]))]
theorem same_yes (l m : List Int) (hl : l.length ≤ 1100000) (h : l = m) : Ev (fun k => laws_sameInts.f k l m) true := by
  have := same_ev l m hl
  rwa [decide_eq_true h] at this
theorem text_loop (b : List Int) (d : Nat) : ∀ (i h : Int) (xs : List Int), CurOk b i → xs.length + d ≤ 1000 → ∃ l i' h', Ev (fun k => spec_l30Text.l0 k xs (d : Int) b i h) (l, i', h') ∧ l.length = xs.length + d ∧ CurOk b i' := by
  induction d with
  | zero =>
    intro i h xs hc hl
    refine ⟨xs, i, h, ev_succ ?_, rfl, hc⟩
    simp only [spec_l30Text.l0]
    exact ev_ifn (by omega) (Ev.now _)
  | succ d ih =>
    intro i h xs hc hl
    obtain ⟨v, i1, h1, e1, v0, v1, _, c1⟩ := l1Below_ok h 5 hc
    obtain ⟨l, i', h', he, hn, hc'⟩ := ih i1 h1 (xs ++ [v]) c1 (by simp; omega)
    refine ⟨l, i', h', ev_succ ?_, by rw [hn]; simp; omega, hc'⟩
    have w1 : wrap64 (((d + 1 : Nat) : Int) - 1) = (d : Int) := by rw [w64 (by omega) (by omega)]; omega
    simp only [spec_l30Text.l0, e1, Option.bind_some, w1]
    exact ev_ifp (by omega) (ev_ifp (by omega) he)
theorem text_ok (b : List Int) (i h : Int) (n : Int) (hn : 0 < n ∧ n ≤ 100) (hc : CurOk b i) : ∃ l i' h', Ev (fun k => spec_l30Text.f k b i h n) (l, i', h') ∧ (l.length : Int) < n ∧ CurOk b i' := by
  obtain ⟨v, i1, h1, e1, v0, v1, _, c1⟩ := l1Below_ok h n hc
  have v2 := v1 hn.1
  obtain ⟨c, rfl⟩ : ∃ c : Nat, v = (c : Int) := ⟨v.toNat, by omega⟩
  obtain ⟨l, i', h', he, hl, hc'⟩ := text_loop b c i1 h1 [] c1 (by simp; omega)
  refine ⟨l, i', h', ?_, by rw [hl]; simpa using v2, hc'⟩
  unfold spec_l30Text.f
  exact ev_bindc e1 he
theorem raw_ok {b : List Int} {i : Int} (h : Int) (hc : CurOk b i) : ∃ v i' h', spec_l4Raw.f b i h = some (v, i', h') ∧ CurOk b i' := by
  obtain ⟨v, i', h', e, _, c⟩ := l1Int_ok h [(-1), 0, 5, 10, 11, 9223372036854775807, (-9223372036854775808)] (by simp) hc
  unfold spec_l4Raw.f
  rw [e]
  exact ⟨_, _, _, rfl, c⟩
theorem amend_ok (b : List Int) (i h : Int) (t : List Int) (hc : CurOk b i) : ∃ x y m i' h', Ev (fun k => spec_l30Amend.f k b i h t) (x, y, m, i', h') ∧ m.length ≤ 4 ∧ CurOk b i' := by
  obtain ⟨x, i1, h1, e1, _, _, _, c1⟩ := l1Below_ok h (wrap64 ((t.length : Int) + 1)) hc
  obtain ⟨y, i2, h2, e2, _, _, _, c2⟩ := l1Below_ok h1 (wrap64 ((wrap64 ((t.length : Int) - x)) + 1)) c1
  obtain ⟨m, i3, h3, e3, hm, c3⟩ := text_ok b i2 h2 4 (by omega) c2
  obtain ⟨v, i4, h4, e4, _, _, _, c4⟩ := l1Below_ok h3 12 c3
  obtain ⟨r, i5, h5, e5, c5⟩ := raw_ok h4 c4
  by_cases v0 : v = 0
  · refine ⟨r, y, m, i5, h5, ?_, by omega, c5⟩
    unfold spec_l30Amend.f
    refine ev_bindc e1 (ev_bindc e2 (Ev.bind e3 ?_))
    simp only [e4, e5, Option.bind_some]
    exact ev_ifp v0 (Ev.now _)
  · by_cases v1 : v = 1
    · refine ⟨x, r, m, i5, h5, ?_, by omega, c5⟩
      unfold spec_l30Amend.f
      refine ev_bindc e1 (ev_bindc e2 (Ev.bind e3 ?_))
      simp only [e4, e5, Option.bind_some]
      exact ev_ifn v0 (ev_ifp v1 (Ev.now _))
    · refine ⟨x, y, m, i4, h4, ?_, by omega, c4⟩
      unfold spec_l30Amend.f
      refine ev_bindc e1 (ev_bindc e2 (Ev.bind e3 ?_))
      simp only [e4, e5, Option.bind_some]
      exact ev_ifn v0 (ev_ifn v1 (Ev.now _))
theorem drawMay_ok (b : List Int) (hb : b.length ≤ 1048576) : ∃ t x y m, Ev (fun k => spec_DrawMayAmend.f k b) (t, x, y, m) ∧ t.length ≤ 100 ∧ m.length ≤ 4 := by
  obtain ⟨h, hn⟩ := l1New_ok b hb
  obtain ⟨t, i1, h1, e1, ht, c1⟩ := text_ok b 0 h 10 (by omega) (curOk0 hb)
  obtain ⟨o, i2, h2, e2, c2⟩ := l1Once_ok h1 8 c1
  cases o with
  | true =>
    obtain ⟨x, y, m, i3, h3, e3, hm, c3⟩ := amend_ok b i2 h2 (List.replicate 58 0 ++ t) c2
    refine ⟨List.replicate 58 0 ++ t, x, y, m, ?_, by rw [List.length_append, List.length_replicate]; omega, hm⟩
    unfold spec_DrawMayAmend.f
    have h58 : (58 : Nat) ≤ 35184372088832 := Nat.le_of_ble_eq_true rfl
    have hrl : (List.replicate 58 (0 : Int)).length + t.length < 17592186044416 := by rw [List.length_replicate]; omega
    exact Ev.bind hn (Ev.bind e1 (ev_bindc e2 (ev_ifp rfl (ev_ifp h58 (ev_bindc rfl (ev_ifp hrl (ev_bindc rfl (Ev.bind e3 (Ev.now _)))))))))
  | false =>
    obtain ⟨x, y, m, i3, h3, e3, hm, c3⟩ := amend_ok b i2 h2 t c2
    refine ⟨t, x, y, m, ?_, by omega, hm⟩
    unfold spec_DrawMayAmend.f
    exact Ev.bind hn (Ev.bind e1 (ev_bindc e2 (ev_ifn (by simp) (Ev.bind e3 (Ev.now _)))))
def goodL (l : List S28) : Prop := ∀ j : Nat, j < l.length → (rd_T28 l (j : Int)).f2.length ≤ 4
theorem good_snoc {l : List S28} {s : S28} (h : goodL l) (hs : s.f2.length ≤ 4) : goodL (l ++ [s]) := by
  intro j hj
  rw [List.length_append, List.length_singleton] at hj
  have h1 := h j
  unfold rd_T28 at *
  rw [Int.toNat_natCast, List.getD_eq_getElem?_getD] at *
  by_cases e : j < l.length
  · rw [List.getElem?_append_left e]
    exact h1 e
  · have : j = l.length := by omega
    subst this
    simpa using hs
theorem drawAll_loop (b t : List Int) (d : Nat) : ∀ (i h : Int) (xs : List S28), CurOk b i → xs.length + d ≤ 100 → goodL xs → ∃ l, Ev (fun k => spec_DrawAmendAll.l0 k t xs (d : Int) b i h) (t, l) ∧ l.length = xs.length + d ∧ goodL l := by
  induction d with
  | zero =>
    intro i h xs hc hl hg
    refine ⟨xs, ev_succ ?_, rfl, hg⟩
    simp only [spec_DrawAmendAll.l0]
    exact ev_ifn (by omega) (Ev.now _)
  | succ d ih =>
    intro i h xs hc hl hg
    obtain ⟨x, y, m, i1, h1, e1, hm, c1⟩ := amend_ok b i h t hc
    obtain ⟨l, he, hn, hg'⟩ := ih i1 h1 (xs ++ [⟨x, y, m⟩]) c1 (by simp; omega) (good_snoc hg hm)
    refine ⟨l, ev_succ ?_, by rw [hn]; simp; omega, hg'⟩
    have w1 : wrap64 (((d + 1 : Nat) : Int) - 1) = (d : Int) := by rw [w64 (by omega) (by omega)]; omega
    simp only [spec_DrawAmendAll.l0, w1]
    exact ev_ifp (by omega) (Ev.bind e1 (ev_ifp (by omega) he))
theorem drawAll_ok (b : List Int) (hb : b.length ≤ 1048576) : ∃ t l, Ev (fun k => spec_DrawAmendAll.f k b) (t, l) ∧ t.length ≤ 100 ∧ l.length ≤ 100 ∧ goodL l := by
  obtain ⟨h, hn⟩ := l1New_ok b hb
  obtain ⟨t, i1, h1, e1, ht, c1⟩ := text_ok b 0 h 10 (by omega) (curOk0 hb)
  obtain ⟨v, i2, h2, e2, v0, v1, _, c2⟩ := l1Below_ok h1 4 c1
  have v2 := v1 (by omega)
  obtain ⟨c, rfl⟩ : ∃ c : Nat, v = (c : Int) := ⟨v.toNat, by omega⟩
  obtain ⟨l, he, hl, hg⟩ := drawAll_loop b t c i2 h2 [] c2 (by simp; omega) (fun j hj => by simp at hj)
  refine ⟨t, l, ?_, by omega, by rw [hl]; simp; omega, hg⟩
  unfold spec_DrawAmendAll.f
  exact Ev.bind hn (Ev.bind e1 (ev_bindc e2 he))
theorem drawClash_ok (b : List Int) (hb : b.length ≤ 1048576) : ∃ x y m u v n, Ev (fun k => spec_DrawClash.f k b) (x, y, m, u, v, n) := by
  obtain ⟨h, hn⟩ := l1New_ok b hb
  obtain ⟨t, i1, h1, e1, ht, c1⟩ := text_ok b 0 h 10 (by omega) (curOk0 hb)
  obtain ⟨x, y, m, i2, h2, e2, _, c2⟩ := amend_ok b i1 h1 t c1
  obtain ⟨u, v, n, i3, h3, e3, _, c3⟩ := amend_ok b i2 h2 t c2
  refine ⟨x, y, m, u, v, n, ?_⟩
  unfold spec_DrawClash.f
  exact Ev.bind hn (Ev.bind e1 (Ev.bind e2 (Ev.bind e3 (Ev.now _))))
theorem all_loop (l : List S28) (hg : goodL l) (hl : l.length ≤ 100) (d : Nat) : ∀ (i : Nat) (out : List Int) (n : Int), i + d = l.length → out.length ≤ 1048576 → 0 ≤ n → n ≤ (i : Int) → ∃ r m, Ev (fun k => impl_AmendAll.l0 k out n l (l.length : Int) (i : Int)) (r, m) ∧ 0 ≤ m ∧ m ≤ (l.length : Int) := by
  induction d with
  | zero =>
    intro i out n hd ho h0 h1
    refine ⟨out, n, ev_succ ?_, h0, by omega⟩
    simp only [impl_AmendAll.l0]
    exact ev_ifn (by omega) (Ev.now _)
  | succ d ih =>
    intro i out n hd ho h0 h1
    have e1 : wrap64 ((i : Int) + 1) = ((i + 1 : Nat) : Int) := by rw [w64 (by omega) (by omega)]; simp
    have e2 : wrap64 (n + 1) = n + 1 := w64 (by omega) (by omega)
    have hA := impl_Amended_eq out (rd_T28 l (i : Int)).f0 (rd_T28 l (i : Int)).f1 (rd_T28 l (i : Int)).f2 (by omega) (by have := hg i (by omega); omega)
    have hs := amendG_short out (rd_T28 l (i : Int)).f0 (rd_T28 l (i : Int)).f1 (rd_T28 l (i : Int)).f2 ho
    generalize amendG out (rd_T28 l (i : Int)).f0 (rd_T28 l (i : Int)).f1 (rd_T28 l (i : Int)).f2 = g at hA hs
    obtain ⟨x, ok⟩ := g
    cases ok with
    | true =>
      obtain ⟨r, m, he, m0, m1⟩ := ih (i + 1) x (n + 1) (by omega) hs (by omega) (by omega)
      refine ⟨r, m, ev_succ ?_, m0, m1⟩
      simp only [impl_AmendAll.l0, e1, e2, hA, Option.bind_some]
      exact ev_ifp (by omega) (ev_ifp (by omega) (ev_ifp (by omega) (ev_ifp trivial he)))
    | false =>
      obtain ⟨r, m, he, m0, m1⟩ := ih (i + 1) x n (by omega) hs (by omega) (by omega)
      refine ⟨r, m, ev_succ ?_, m0, m1⟩
      simp only [impl_AmendAll.l0, e1, e2, hA, Option.bind_some]
      exact ev_ifp (by omega) (ev_ifp (by omega) (ev_ifp (by omega) (ev_ifn (by simp) he)))
theorem all_ok (t : List Int) (l : List S28) (hg : goodL l) (hl : l.length ≤ 100) (ht : t.length ≤ 100) : ∃ r m, Ev (fun k => impl_AmendAll.f k t l) (r, m) ∧ 0 ≤ m ∧ m ≤ (l.length : Int) := by
  obtain ⟨r, m, he, h0, h1⟩ := all_loop l hg hl l.length 0 t 0 (by omega) (by omega) (by omega) (by omega)
  refine ⟨r, m, ?_, h0, h1⟩
  unfold impl_AmendAll.f
  rw [Clone_eq t (by omega)]
  exact he
theorem clash_both (a0 a1 : Int) (l : List Int) (b0 b1 : Int) (m : List Int) : ∃ v, impl_Clash.f a0 a1 l b0 b1 m = some v ∧ impl_Clash.f b0 b1 m a0 a1 l = some v := by
  have tot : ∀ u v w z : Int, ∃ q, ((impl_InRange.f u 0 1000).bind fun t106 => (if t106 = true then ((impl_InRange.f v 0 1000).bind fun t107 => (if t107 = true then (if w > 0 then (if z > 0 then (some (decide ((wrap64 (v - u)) < w))) else (some false)) else (some false)) else (some false))) else (some false))) = some q := by
    intro u v w z
    simp only [impl_InRange_eq, Option.bind_some]
    by_cases c1 : decide (0 ≤ u ∧ u ≤ 1000) = true
    · rw [if_pos c1]
      by_cases c2 : decide (0 ≤ v ∧ v ≤ 1000) = true
      · rw [if_pos c2]
        by_cases c3 : w > 0
        · rw [if_pos c3]
          by_cases c4 : z > 0
          · rw [if_pos c4]; exact ⟨_, rfl⟩
          · rw [if_neg c4]; exact ⟨_, rfl⟩
        · rw [if_neg c3]; exact ⟨_, rfl⟩
      · rw [if_neg c2]; exact ⟨_, rfl⟩
    · rw [if_neg c1]; exact ⟨_, rfl⟩
  by_cases h : a0 = b0
  · subst h
    exact ⟨true, by simp [impl_Clash.f], by simp [impl_Clash.f]⟩
  · by_cases h2 : b0 < a0
    · obtain ⟨q, hq⟩ := tot b0 a0 b1 a1
      refine ⟨q, ?_, ?_⟩
      · unfold impl_Clash.f
        rw [if_neg h, if_pos h2]
        exact hq
      · unfold impl_Clash.f
        rw [if_neg (fun e => h e.symm), if_neg (by omega)]
        exact hq
    · obtain ⟨q, hq⟩ := tot a0 b0 a1 b1
      refine ⟨q, ?_, ?_⟩
      · unfold impl_Clash.f
        rw [if_neg h, if_neg h2]
        exact hq
      · unfold impl_Clash.f
        rw [if_neg (fun e => h e.symm), if_pos (by omega)]
        exact hq
theorem impl_Undo_eq (t : List Int) (a b : Int) (m : List Int) (hl : t.length ≤ 1000) (hm : m.length ≤ 1000) : impl_Undo.f t a b m = some (if mayG t a b m = true then (a, (m.length : Int), (t.take (a + b).toNat).drop a.toNat, true) else (0, 0, [], false)) := by
  unfold impl_Undo.f
  rw [impl_May t a b m (by omega) (by omega)]
  simp only [Option.bind_some]
  by_cases h : mayG t a b m = true
  · have h' := (mayG_iff t a b m).mp h
    have w2 : wrap64 (a + b) = a + b := w64 (by omega) (by omega)
    have hc := Clone_eq ((t.take (a + b).toNat).drop a.toNat) (by rw [List.length_drop, List.length_take]; omega)
    rw [if_pos h, if_pos h, w2, if_pos (by omega), if_pos (by omega), if_pos (by omega), hc]
    rfl
  · rw [if_neg h, if_neg h]
/-- what a difference is: the lists agree ahead of it and behind it -/
def DiffOk (a b : List Int) (i e : Nat) (r : Int × Int × List Int) : Prop :=
  i + e ≤ a.length ∧ i + e ≤ b.length ∧ a.take i = b.take i ∧ a.drop (a.length - e) = b.drop (b.length - e) ∧ r = ((i : Int), (a.length : Int) - i - e, (b.take (b.length - e)).drop i)
theorem rdN (l : List Int) (i : Nat) (h : i < l.length) : rd l (i : Int) = l[i] := by simp [rd, List.getD_eq_getElem?_getD, h]
theorem diff_l1 (a b : List Int) (ha : a.length ≤ 1000) (hb : b.length ≤ 1000) (i : Nat) (hp : a.take i = b.take i) (d : Nat) : ∀ e : Nat, i + e + d = a.length → i + e ≤ b.length → a.drop (a.length - e) = b.drop (b.length - e) →
    ∃ (r : Int × Int × List Int) (e' : Nat), DiffOk a b i e' r ∧ Ev (fun k => impl_Difference.l1 k a b (i : Int) ((a.length : Int) - e) ((b.length : Int) - e)) r := by
  have stop : ∀ e : Nat, i + e ≤ a.length → i + e ≤ b.length → a.drop (a.length - e) = b.drop (b.length - e) → (¬ ((e : Int) < (a.length : Int) - i) ∨ ¬ ((e : Int) < (b.length : Int) - i) ∨ ¬ rd a ((a.length : Int) - 1 - e) = rd b ((b.length : Int) - 1 - e)) →
      ∃ (r : Int × Int × List Int) (e' : Nat), DiffOk a b i e' r ∧ Ev (fun k => impl_Difference.l1 k a b (i : Int) ((a.length : Int) - e) ((b.length : Int) - e)) r := by
    intro e h1 h2 hs hst
    have hc := Clone_eq ((b.take (b.length - e)).drop i) (by rw [List.length_drop, List.length_take]; omega)
    have w9 : wrap64 ((a.length : Int) - e - 1) = (a.length : Int) - 1 - e := by rw [w64 (by omega) (by omega)]; omega
    have w10 : wrap64 ((b.length : Int) - e - 1) = (b.length : Int) - 1 - e := by rw [w64 (by omega) (by omega)]; omega
    have w11 : wrap64 ((a.length : Int) - e - i) = (a.length : Int) - i - e := by rw [w64 (by omega) (by omega)]; omega
    have t1 : ((b.length : Int) - e).toNat = b.length - e := by omega
    refine ⟨((i : Int), (a.length : Int) - i - e, (b.take (b.length - e)).drop i), e, ⟨h1, h2, hp, hs, rfl⟩, ev_succ ?_⟩
    simp only [impl_Difference.l1, w9, w10, w11, Int.toNat_natCast, t1, hc, Option.bind_some]
    clear w9 w10 w11 hc hs hp
    by_cases c1 : (e : Int) < (a.length : Int) - i
    · refine ev_ifp (by omega) ?_
      by_cases c2 : (e : Int) < (b.length : Int) - i
      · have c3 : ¬ rd a ((a.length : Int) - 1 - e) = rd b ((b.length : Int) - 1 - e) := by
          rcases hst with h | h | h
          · exact absurd c1 h
          · exact absurd c2 h
          · exact h
        exact ev_ifp (by omega) (ev_ifp (by omega) (ev_ifp (by omega) (ev_ifp (by omega) (ev_ifp (by omega) (ev_ifn c3 (ev_ifp (by omega) (ev_ifp (by omega) (ev_ifp (by omega) (Ev.now _)))))))))
      · exact ev_ifn (by omega) (ev_ifp (by omega) (ev_ifp (by omega) (ev_ifp (by omega) (Ev.now _))))
    · exact ev_ifn (by omega) (ev_ifp (by omega) (ev_ifp (by omega) (ev_ifp (by omega) (Ev.now _))))
  induction d with
  | zero =>
    intro e h1 h2 hs
    exact stop e (by omega) h2 hs (.inl (by omega))
  | succ d ih =>
    intro e h1 h2 hs
    by_cases c2 : (e : Int) < (b.length : Int) - i
    · by_cases c3 : rd a ((a.length : Int) - 1 - e) = rd b ((b.length : Int) - 1 - e)
      · have hs' : a.drop (a.length - (e + 1)) = b.drop (b.length - (e + 1)) := by
          have i1 : a.length - (e + 1) < a.length := by omega
          have i2 : b.length - (e + 1) < b.length := by omega
          rw [List.drop_eq_getElem_cons i1, List.drop_eq_getElem_cons i2, show a.length - (e + 1) + 1 = a.length - e by omega, show b.length - (e + 1) + 1 = b.length - e by omega, hs, ← rdN a _ i1, ← rdN b _ i2]
          rw [show ((a.length - (e + 1) : Nat) : Int) = (a.length : Int) - 1 - e by omega, show ((b.length - (e + 1) : Nat) : Int) = (b.length : Int) - 1 - e by omega, c3]
        obtain ⟨r, e', hr, hi⟩ := ih (e + 1) (by omega) (by omega) hs'
        have w9 : wrap64 ((a.length : Int) - e - 1) = (a.length : Int) - 1 - e := by rw [w64 (by omega) (by omega)]; omega
        have w10 : wrap64 ((b.length : Int) - e - 1) = (b.length : Int) - 1 - e := by rw [w64 (by omega) (by omega)]; omega
        refine ⟨r, e', hr, ev_succ ?_⟩
        simp only [impl_Difference.l1, w9, w10]
        have e1 : (a.length : Int) - ((e + 1 : Nat) : Int) = (a.length : Int) - 1 - e := by omega
        have e2 : (b.length : Int) - ((e + 1 : Nat) : Int) = (b.length : Int) - 1 - e := by omega
        rw [e1, e2] at hi
        clear w9 w10 ih stop hs hs' hp hr
        exact ev_ifp (by omega) (ev_ifp (by omega) (ev_ifp (by omega) (ev_ifp (by omega) (ev_ifp (by omega) (ev_ifp (by omega) (ev_ifp c3 hi))))))
      · exact stop e (by omega) h2 hs (.inr (.inr c3))
    · exact stop e (by omega) h2 hs (.inr (.inl c2))
theorem diff_j1 (a b : List Int) (ha : a.length ≤ 1000) (hb : b.length ≤ 1000) (i : Nat) (h1 : i ≤ a.length) (h2 : i ≤ b.length) (hp : a.take i = b.take i) :
    ∃ (r : Int × Int × List Int) (e' : Nat), DiffOk a b i e' r ∧ Ev (fun k => impl_Difference.j1 k a b (i : Int)) r := by
  obtain ⟨r, e', hr, hi⟩ := diff_l1 a b ha hb i hp (a.length - i) 0 (by omega) (by omega) (by simp)
  refine ⟨r, e', hr, ev_succ ?_⟩
  simp only [impl_Difference.j1]
  simpa using hi
theorem diff_l0 (a b : List Int) (ha : a.length ≤ 1000) (hb : b.length ≤ 1000) (d : Nat) : ∀ i : Nat, i + d = a.length → i ≤ b.length → a.take i = b.take i →
    ∃ (r : Int × Int × List Int) (j e' : Nat), DiffOk a b j e' r ∧ (a = b → j = a.length) ∧ Ev (fun k => impl_Difference.l0 k a b (i : Int)) r := by
  induction d with
  | zero =>
    intro i h1 h2 hp
    obtain ⟨r, e', hr, hi⟩ := diff_j1 a b ha hb i (by omega) h2 hp
    refine ⟨r, i, e', hr, fun _ => by omega, ev_succ ?_⟩
    simp only [impl_Difference.l0]
    exact ev_ifn (by omega) hi
  | succ d ih =>
    intro i h1 h2 hp
    have w12 : wrap64 ((i : Int) + 1) = ((i + 1 : Nat) : Int) := (w64 (x := (i : Int) + 1) (by omega) (by omega)).trans (by omega)
    by_cases c2 : i < b.length
    · have i1 : i < a.length := by omega
      by_cases c3 : rd a (i : Int) = rd b (i : Int)
      · have hp' : a.take (i + 1) = b.take (i + 1) := by
          rw [List.take_succ_eq_append_getElem i1, List.take_succ_eq_append_getElem c2, hp, ← rdN a _ i1, ← rdN b _ c2, c3]
        obtain ⟨r, j, e', hr, hq, hi⟩ := ih (i + 1) (by omega) (by omega) hp'
        refine ⟨r, j, e', hr, hq, ev_succ ?_⟩
        simp only [impl_Difference.l0, w12]
        exact ev_ifp (by omega) (ev_ifp (by omega) (ev_ifp (by omega) (ev_ifp c3 hi)))
      · obtain ⟨r, e', hr, hi⟩ := diff_j1 a b ha hb i (by omega) h2 hp
        refine ⟨r, i, e', hr, fun e => absurd (by rw [e]) c3, ev_succ ?_⟩
        simp only [impl_Difference.l0]
        exact ev_ifp (by omega) (ev_ifp (by omega) (ev_ifp (by omega) (ev_ifn c3 hi)))
    · obtain ⟨r, e', hr, hi⟩ := diff_j1 a b ha hb i (by omega) h2 hp
      refine ⟨r, i, e', hr, fun e => by subst e; omega, ev_succ ?_⟩
      simp only [impl_Difference.l0]
      exact ev_ifp (by omega) (ev_ifn (by omega) hi)
theorem diff_ok (a b : List Int) (ha : a.length ≤ 1000) (hb : b.length ≤ 1000) : ∃ (r : Int × Int × List Int) (j e' : Nat), DiffOk a b j e' r ∧ (a = b → j = a.length) ∧ Ev (fun k => impl_Difference.f k a b) r := by
  obtain ⟨r, j, e', h1, h2, h3⟩ := diff_l0 a b ha hb a.length 0 (by omega) (by omega) (by simp)
  exact ⟨r, j, e', h1, h2, h3⟩
theorem split3 (c : List Int) (i e : Nat) (h : i + e ≤ c.length) : c.take i ++ (c.take (c.length - e)).drop i ++ c.drop (c.length - e) = c := by
  have h1 : c.take i ++ (c.take (c.length - e)).drop i = c.take (c.length - e) := by
    have := List.take_append_drop i (c.take (c.length - e))
    rwa [List.take_take, Nat.min_eq_left (by omega)] at this
  rw [h1, List.take_append_drop]
theorem diff_amend (a c : List Int) (i e : Nat) (r : Int × Int × List Int) (h : DiffOk a c i e r) (hc : c.length ≤ 60) : amendG a r.1 r.2.1 r.2.2 = (c, true) := by
  obtain ⟨h1, h2, h3, h4, rfl⟩ := h
  have hm : mayG a (i : Int) ((a.length : Int) - i - e) ((c.take (c.length - e)).drop i) = true := by
    rw [mayG_iff, List.length_drop, List.length_take]
    omega
  unfold amendG
  simp only [hm, if_true, Int.toNat_natCast]
  rw [show ((i : Int) + ((a.length : Int) - i - e)).toNat = a.length - e by omega, h3, h4, split3 c i e h2]
/-- An amendment is undone. -/
theorem undo_back (t : List Int) (a b : Int) (m : List Int) (h : mayG t a b m = true) (ht : t.length ≤ 60) :
    amendG (t.take a.toNat ++ m ++ t.drop (a + b).toNat) a (m.length : Int) ((t.take (a + b).toNat).drop a.toNat) = (t, true) := by
  have h' := (mayG_iff t a b m).mp h
  obtain ⟨i, rfl⟩ : ∃ i : Nat, a = (i : Int) := ⟨a.toNat, by omega⟩
  obtain ⟨j, rfl⟩ : ∃ j : Nat, b = (j : Int) := ⟨b.toNat, by omega⟩
  have e1 : ((i : Int) + (j : Int)).toNat = i + j := by omega
  have e2 : ((i : Int) + (m.length : Int)).toNat = i + m.length := by omega
  have lx : (t.take i ++ m ++ t.drop (i + j)).length = i + m.length + (t.length - (i + j)) := by
    rw [List.length_append, List.length_append, List.length_take, List.length_drop]; omega
  have hm : mayG (t.take i ++ m ++ t.drop (i + j)) (i : Int) (m.length : Int) ((t.take (i + j)).drop i) = true := by
    rw [mayG_iff, lx, List.length_drop, List.length_take]
    omega
  unfold amendG
  simp only [Int.toNat_natCast, e1, e2]
  rw [if_pos hm]
  have t1 : (t.take i ++ m ++ t.drop (i + j)).take i = t.take i := by
    rw [List.append_assoc, List.take_append_of_le_length (by rw [List.length_take]; omega), List.take_of_length_le (by rw [List.length_take]; omega)]
  have t2 : (t.take i ++ m ++ t.drop (i + j)).drop (i + m.length) = t.drop (i + j) := by
    rw [List.drop_append_of_le_length (by rw [List.length_append, List.length_take]; omega), List.drop_eq_nil_of_le (by rw [List.length_append, List.length_take]; omega), List.nil_append]
  rw [t1, t2]
  congr 1
  have := split3 t i (t.length - (i + j)) (by omega)
  rwa [show t.length - (t.length - (i + j)) = i + j by omega] at this
theorem FnAmendments : laws_FnAmendments.Pure := by
  intro b hb _ _
  apply Ev.rounds
  unfold laws_FnAmendments.f laws_big.f
  simp only [Option.bind_some]
  by_cases hbig : (b.length : Int) > 1048576
  · exact ev_ifp (decide_eq_true hbig) (Ev.now _)
  refine ev_ifn (by simpa using hbig) ?_
  have hb' : b.length ≤ 1048576 := by omega
  obtain ⟨t, x, y, m, hD, ht, hm⟩ := drawMay_ok b hb'
  have hU : Ev (fun k => spec_DrawUndo.f k b) (t, x, y, m) := by
    unfold spec_DrawUndo.f
    exact Ev.bind hD (Ev.now _)
  -- the last part
  have J3 : Ev (fun k => laws_FnAmendments.j3 k b) true := by
    obtain ⟨e, l, hE, he, hl, hg⟩ := drawAll_ok b hb'
    obtain ⟨r, n, hA, h0, h1⟩ := all_ok e l hg hl he
    obtain ⟨p, q, s, u, v, w, hC⟩ := drawClash_ok b hb'
    obtain ⟨z, hz1, hz2⟩ := clash_both p q s u v w
    apply ev_succ
    simp only [laws_FnAmendments.j3]
    refine Ev.bind hE (Ev.bind hA (Ev.bind hC (ev_ifp h0 (ev_ifp h1 (ev_bindc hz1 (ev_bindc hz2 (ev_some ?_)))))))
    simp
  -- the difference
  have J2 : Ev (fun k => laws_FnAmendments.j2 k b) true := by
    have hS := spec_Amended_eq t x y m (by omega) (by omega)
    have hl := amendG_short t x y m (by omega)
    have hl2 := amendG_len t x y m
    generalize amendG t x y m = g at hS hl hl2
    obtain ⟨c, ok⟩ := g
    have hc : c.length ≤ 1000 := by have : c.length ≤ t.length + 60 := hl2; omega
    obtain ⟨r, j, e, hr, hq, hF⟩ := diff_ok t c (by omega) hc
    have hD2 : Ev (fun k => spec_DrawDifference.f k b) (t, c) := by
      unfold spec_DrawDifference.f
      exact Ev.bind hD (ev_bindc hS (Ev.now _))
    apply ev_succ
    simp only [laws_FnAmendments.j2]
    refine Ev.bind hD2 (Ev.bind hF ?_)
    by_cases h60 : (c.length : Int) ≤ 60
    · have hA := diff_amend t c j e r hr (by omega)
      have hI := impl_Amended_eq t r.1 r.2.1 r.2.2 (by omega) (by rw [hr.2.2.2.2]; simp only [List.length_drop, List.length_take]; omega)
      rw [hA] at hI
      have hd : r.2.1 = (t.length : Int) - j - e := by rw [hr.2.2.2.2]
      have hp : r.2.2 = (c.take (c.length - e)).drop j := by rw [hr.2.2.2.2]
      refine ev_ifp h60 (ev_bindc hI (ev_ifp rfl (Ev.bind (same_yes c c (by omega) rfl) (ev_ifp rfl (ev_ifn (by show ¬ (r.2.1 > (t.length : Int)); omega) (Ev.bind (same_ev t c (by omega)) ?_))))))
      by_cases hs : t = c
      · have hj := hq hs
        have f1 := hr.1
        have f2 := hr.2.1
        have hcl : c.length = t.length := by rw [hs]
        refine ev_ifp (decide_eq_true hs) (ev_ifp (by show r.2.1 = 0; omega) (ev_ifp ?_ J3))
        show (r.2.2.length : Int) = 0
        rw [hp, List.length_drop, List.length_take]
        omega
      · exact ev_ifn (by simp [hs]) J3
    · exact ev_ifn h60 J3
  have hI := impl_Amended_eq t x y m (by omega) (by omega)
  have hMy := impl_May t x y m (by omega) (by omega)
  have hUn := impl_Undo_eq t x y m (by omega) (by omega)
  refine Ev.bind hU (ev_bindc hI (ev_bindc hUn ?_))
  by_cases h : mayG t x y m = true
  · have h' := (mayG_iff t x y m).mp h
    have hg : amendG t x y m = (t.take x.toNat ++ m ++ t.drop (x + y).toNat, true) := by unfold amendG; rw [if_pos h]
    have hx : ((t.take x.toNat ++ m ++ t.drop (x + y).toNat).length : Int) = (t.length : Int) - y + (m.length : Int) := by
      simp only [List.length_append, List.length_take, List.length_drop]; omega
    simp only [hg, if_pos h]
    refine ev_ifn (by simp) (ev_bindc hMy (ev_ifn (by simp [h]) (ev_ifp trivial (ev_ifp ?_ (ev_ifn ?_ ?_)))))
    · rw [hx, w64 (x := (t.length : Int) - y) (by omega) (by omega), w64 (by omega) (by omega)]
    · rw [hx]; omega
    · apply ev_succ
      simp only [laws_FnAmendments.j0]
      refine ev_ifn (by simp) (ev_ifp trivial ?_)
      apply ev_succ
      simp only [laws_FnAmendments.j1]
      by_cases ht60 : (t.length : Int) ≤ 60
      · have hb1 := undo_back t x y m h (by omega)
        have hI2 := impl_Amended_eq (t.take x.toNat ++ m ++ t.drop (x + y).toNat) x (m.length : Int) ((t.take (x + y).toNat).drop x.toNat) (by simp only [List.length_append, List.length_take, List.length_drop]; omega) (by rw [List.length_drop, List.length_take]; omega)
        rw [hb1] at hI2
        exact ev_ifp (decide_eq_true ht60) (ev_bindc hI2 (ev_ifp rfl (Ev.bind (same_yes t t (by omega) rfl) (ev_ifp rfl J2))))
      · exact ev_ifn (by simpa using ht60) J2
  · have hg : amendG t x y m = (t, false) := by unfold amendG; rw [if_neg h]
    simp only [hg, if_neg h]
    refine ev_ifn (by simp) (ev_bindc hMy (ev_ifn (by simp [h]) (ev_ifn (by simp) (Ev.bind (same_yes t t (by omega) rfl) ?_))))
    apply ev_succ
    simp only [laws_FnAmendments.j0]
    refine ev_ifn (by simp) (ev_ifn (by simp) ?_)
    apply ev_succ
    simp only [laws_FnAmendments.j1]
    exact ev_ifn (by simp) J2

end Go.Proofs.Ytfdalcklgfdadaa.Pure
