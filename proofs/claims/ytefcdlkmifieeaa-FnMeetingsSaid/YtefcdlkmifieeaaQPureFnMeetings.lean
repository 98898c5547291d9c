/- Nothing is decided by fewer than enough, and one vote more never turns a yes into a no: the law FnMeetings answers true.
No condition: for every input. -/
import Derived.Test.YtefcdlkmifieeaaQFnMeetingsx3
set_option linter.unusedVariables false
set_option linter.unusedSimpArgs false
set_option maxHeartbeats 1000000
namespace Go.Proofs.Ytefcdlkmifieeaa.Pure
open Go.RowKit Go.Proofs.Ytefcdlkmifieeaa.QFnMeetings Go.Proofs.YtefcdlkmifieeaaW.PrintWords Go.Proofs.YtefcdlkmifieeaaW.PrintLast

theorem w64 {x : Int} (h1 : -9223372036854775808 ≤ x) (h2 : x ≤ 9223372036854775807) : wrap64 x = x := by unfold wrap64; omega
theorem wf64 {x : Int} (h : (Lit.int .i64 x).wf = true) : -9223372036854775808 ≤ x ∧ x ≤ 9223372036854775807 := by
  simp only [Lit.wf, Bool.and_eq_true, decide_eq_true_eq] at h
  have e1 : IntKind.min .i64 = -9223372036854775808 := by decide
  have e2 : IntKind.max .i64 = 9223372036854775807 := by decide
  omega
theorem wfu8 {x : Int} (h : (Lit.int .u8 x).wf = true) : 0 ≤ x ∧ x ≤ 255 := by
  simp only [Lit.wf, Bool.and_eq_true, decide_eq_true_eq] at h
  have e1 : IntKind.min .u8 = 0 := by decide
  have e2 : IntKind.max .u8 = 255 := by decide
  omega
theorem ev_succ {α : Type} {g : Nat → Option α} {r : α} (h : Ev (fun k => g (k + 1)) r) : Ev g r := Ev.step (fun _ => rfl) h
theorem ev_some {α : Type} {r s : α} (h : r = s) : Ev (fun _ => some r) s := by subst h; exact Ev.now r
theorem ev_fix {α : Type} {o : Option α} {r : α} (h : o = some r) : Ev (fun _ => o) r := ⟨0, fun _ _ => h⟩
theorem ev_at {α : Type} {g : Nat → Option α} {r : α} (n : Nat) (h : ∀ k, g (k + n) = some r) : Ev g r :=
  ⟨n, fun k hk => by obtain ⟨m, rfl⟩ : ∃ m, k = m + n := ⟨k - n, by omega⟩; exact h m⟩
theorem ev_bindc {α β : Type} {o : Option α} {f : Nat → α → Option β} {a : α} {r : β} (h : o = some a) (k : Ev (fun n => f n a) r) : Ev (fun n => o.bind (f n)) r := by
  subst h; exact k
theorem ev_ifp {α : Type} {c : Prop} [Decidable c] {a b : Nat → Option α} {r : α} (h : c) (k : Ev a r) : Ev (fun n => if c then a n else b n) r := by
  simpa only [if_pos h] using k
theorem ev_ifn {α : Type} {c : Prop} [Decidable c] {a b : Nat → Option α} {r : α} (h : ¬ c) (k : Ev b r) : Ev (fun n => if c then a n else b n) r := by
  simpa only [if_neg h] using k
theorem impl_InRange_eq (a b c : Int) : impl_InRange.f a b c = some (decide (b ≤ a ∧ a ≤ c)) := by
  unfold impl_InRange.f
  by_cases h : b ≤ a <;> simp [h]
def passG (y n : Int) (t : Bool) : Bool := decide (0 ≤ y ∧ y ≤ 1000) && decide (0 ≤ n ∧ n ≤ 1000) && (if t = true then decide (2 * n ≤ y ∧ 0 < y) else decide (n < y))
theorem impl_Passes_eq (k : Nat) (y n : Int) (t : Bool) : impl_Passes.f (k + 1) y n t = some (passG y n t) := by
  simp only [impl_Passes.f, impl_Passes.j0, impl_InRange_eq, Option.bind_some, passG]
  by_cases h1 : 0 ≤ y ∧ y ≤ 1000
  · by_cases h2 : 0 ≤ n ∧ n ≤ 1000
    · have e : wrap64 (2 * n) = 2 * n := w64 (by omega) (by omega)
      cases t
      · simp [h1, h2]
      · by_cases h3 : y ≥ 2 * n <;> simp [h1, h2, e, h3] <;> omega
    · simp [h1, h2]
  · simp [h1]
theorem impl_Passes_ev (y n : Int) (t : Bool) : Ev (fun k => impl_Passes.f k y n t) (passG y n t) := ev_at 1 fun k => impl_Passes_eq k y n t
theorem and255 (a : Int) : 0 ≤ Go.bits .and .i64 a 255 ∧ Go.bits .and .i64 a 255 ≤ 255 := by
  have hle : (BitVec.ofInt 64 a &&& BitVec.ofInt 64 255).toNat ≤ 255 := by
    rw [BitVec.toNat_and]
    exact Nat.le_trans Nat.and_le_right (by decide)
  show 0 ≤ IntKind.i64.wrap ((BitVec.ofInt 64 a &&& BitVec.ofInt 64 255).toNat : Int) ∧ IntKind.i64.wrap ((BitVec.ofInt 64 a &&& BitVec.ofInt 64 255).toNat : Int) ≤ 255
  rw [IntKind.wrap_i64]
  omega
def CurOk (b : List Int) (i : Int) : Prop := 0 ≤ i ∧ i ≤ b.length ∧ b.length ≤ 1048576
theorem curOk0 {b : List Int} (hb : b.length ≤ 1048576) : CurOk b 0 := ⟨by omega, by omega, hb⟩
theorem l1Byte_ok {b : List Int} {i : Int} (h : Int) (hc : CurOk b i) : ∃ x i' h', spec_l1Byte.f b i h = some (x, i', h') ∧ 0 ≤ x ∧ x ≤ 255 ∧ CurOk b i' := by
  obtain ⟨h0, h1, h2⟩ := hc
  unfold spec_l1Byte.f
  by_cases hi : i < (b.length : Int)
  · rw [if_pos hi, if_pos h0]
    exact ⟨_, _, _, rfl, (and255 _).1, (and255 _).2, by rw [w64 (by omega) (by omega)]; exact ⟨by omega, by omega, h2⟩⟩
  · rw [if_neg hi]
    exact ⟨_, _, _, rfl, (and255 _).1, (and255 _).2, h0, h1, h2⟩
theorem l1Below_ok {b : List Int} {i : Int} (h n : Int) (hc : CurOk b i) : ∃ x i' h', spec_l1Below.f b i h n = some (x, i', h') ∧ 0 ≤ x ∧ (0 < n → x < n) ∧ (n ≤ 0 → x = 0) ∧ CurOk b i' := by
  unfold spec_l1Below.f
  by_cases h1 : n ≤ 0
  · rw [if_pos h1]
    exact ⟨0, i, h, rfl, by omega, by omega, fun _ => rfl, hc⟩
  · rw [if_neg h1]
    have hn : n ≠ 0 := by omega
    by_cases h2 : n ≤ 256
    · rw [if_pos h2]
      obtain ⟨x, i', h', e, hx0, hx1, hc'⟩ := l1Byte_ok h hc
      rw [e]
      simp only [Option.bind_some, if_neg hn]
      exact ⟨_, _, _, rfl, Int.tmod_nonneg _ hx0, fun hp => Int.tmod_lt_of_pos _ hp, fun hq => absurd hq h1, hc'⟩
    · rw [if_neg h2]
      obtain ⟨x, i1, g1, e1, hx0, hx1, c1⟩ := l1Byte_ok h hc
      obtain ⟨y, i2, g2, e2, hy0, hy1, c2⟩ := l1Byte_ok g1 c1
      obtain ⟨z, i3, g3, e3, hz0, hz1, c3⟩ := l1Byte_ok g2 c2
      simp only [e1, e2, e3, Option.bind_some, if_neg hn]
      refine ⟨_, _, _, rfl, Int.tmod_nonneg _ ?_, fun hp => Int.tmod_lt_of_pos _ hp, fun hq => absurd hq h1, c3⟩
      unfold wrap64
      omega
theorem l1New_loop (b : List Int) (hb : b.length ≤ 1048576) (d : Nat) : ∀ (i : Nat) (h : Int), i + d = b.length → ∃ h', Ev (fun k => spec_l1New.l0 k b h (i : Int)) (b, 0, h') := by
  induction d with
  | zero =>
    intro i h hd
    refine ⟨h, ?_⟩
    apply ev_succ
    simp only [spec_l1New.l0]
    refine ev_ifn (by omega) ?_
    exact Ev.now _
  | succ d ih =>
    intro i h hd
    by_cases h4 : (i : Int) < 4000
    · obtain ⟨h', e⟩ := ih (i + 1) (Go.bits .and .i64 (wrap64 ((wrap64 ((wrap64 (h * 137)) + (wrap64 (rd b (i : Int))))) + 11)) 1073741823) (by omega)
      refine ⟨h', ?_⟩
      apply ev_succ
      simp only [spec_l1New.l0]
      refine ev_ifp (by omega) (ev_ifp h4 (ev_ifp (by omega) ?_))
      rw [w64 (x := (i : Int) + 1) (by omega) (by omega)]
      simpa using e
    · refine ⟨h, ?_⟩
      apply ev_succ
      simp only [spec_l1New.l0]
      refine ev_ifp (by omega) (ev_ifn h4 ?_)
      exact Ev.now _
theorem l1New_ok (b : List Int) (hb : b.length ≤ 1048576) : ∃ h, Ev (fun k => spec_l1New.f k b) (b, 0, h) := by
  unfold spec_l1New.f
  exact l1New_loop b hb b.length 0 _ (by omega)
theorem rd_mem (l : List Int) (j : Int) (h0 : 0 ≤ j) (h1 : j < l.length) : rd l j ∈ l := by
  unfold rd
  have h : j.toNat < l.length := by omega
  simp [List.getD_eq_getElem?_getD, h]
theorem l1Int_ok {b : List Int} {i : Int} (h : Int) (l : List Int) (hl : 0 < l.length) (hc : CurOk b i) : ∃ v i' h', spec_l1Int.f b i h l = some (v, i', h') ∧ v ∈ l ∧ CurOk b i' := by
  obtain ⟨x, i', h', e, h0, h1, _, c⟩ := l1Below_ok h (l.length : Int) hc
  unfold spec_l1Int.f
  rw [e]
  simp only [Option.bind_some]
  rw [if_pos h0, if_pos (h1 (by omega))]
  exact ⟨_, _, _, rfl, rd_mem l x h0 (h1 (by omega)), c⟩
theorem l1Once_ok {b : List Int} {i : Int} (h n : Int) (hc : CurOk b i) : ∃ t i' h', spec_l1Once.f b i h n = some (t, i', h') ∧ CurOk b i' := by
  obtain ⟨x, i', h', e, h0, h1, _, c⟩ := l1Below_ok h n hc
  unfold spec_l1Once.f
  rw [e]
  simp only [Option.bind_some]
  exact ⟨_, _, _, rfl, c⟩
def isQG (m p : Int) : Bool := decide (1 ≤ m ∧ m ≤ 1000) && decide (0 ≤ p ∧ p ≤ m) && decide (m < 2 * p)
theorem impl_IsQuorum_eq (m p : Int) : impl_IsQuorum.f m p = some (isQG m p) := by
  simp only [impl_IsQuorum.f, impl_InRange_eq, Option.bind_some, isQG]
  by_cases h1 : 1 ≤ m ∧ m ≤ 1000
  · by_cases h2 : 0 ≤ p ∧ p ≤ m
    · have e2 : wrap64 (2 * p) = 2 * p := w64 (by omega) (by omega)
      simp [h1, h2, e2]
    · simp [h1, h2]
  · simp [h1]
def validG (m p y n : Int) : Prop := (1 ≤ m ∧ m ≤ 1000) ∧ (0 ≤ p ∧ p ≤ m) ∧ (0 ≤ y ∧ y ≤ p) ∧ (0 ≤ n ∧ n ≤ p - y)
theorem res_no (k : Nat) (m p y n : Int) (t : Bool) (h : ¬ validG m p y n) : impl_Resolve.f (k + 2) m p y n t = some (⟨#[105, 110, 118, 97, 108, 105, 100]⟩ : ByteArray) := by
  simp only [impl_Resolve.f, impl_Resolve.j0, impl_InRange_eq, Option.bind_some]
  by_cases h1 : 1 ≤ m ∧ m ≤ 1000
  · by_cases h2 : 0 ≤ p ∧ p ≤ m
    · by_cases h3 : 0 ≤ y ∧ y ≤ p
      · have e1 : wrap64 (p - y) = p - y := w64 (by omega) (by omega)
        have h4 : ¬ (0 ≤ n ∧ n ≤ p - y) := fun h4 => h ⟨h1, h2, h3, h4⟩
        simp [h1, h2, h3, e1, h4]
      · simp [h1, h2, h3]
    · simp [h1, h2]
  · simp [h1]
theorem res_yes (k : Nat) (m p y n : Int) (t : Bool) (h : validG m p y n) : impl_Resolve.f (k + 2) m p y n t =
    some (if isQG m p = true then (if passG y n t = true then (⟨#[121, 101, 115]⟩ : ByteArray) else ⟨#[110, 111]⟩) else ⟨#[110, 111, 110, 101]⟩) := by
  obtain ⟨h1, h2, h3, h4⟩ := h
  have e1 : wrap64 (p - y) = p - y := w64 (by omega) (by omega)
  simp only [impl_Resolve.f, impl_Resolve.j0, impl_InRange_eq, impl_IsQuorum_eq, impl_Passes_eq, Option.bind_some]
  cases hq : isQG m p <;> cases hp : passG y n t <;> simp [h1, h2, h3, e1, h4]
def castG (a b : Int) (c : Bool) : Bool := decide (b < a) || (decide (a = b) && c)
theorem impl_CastingVote_eq (a b : Int) (c : Bool) : impl_CastingVote.f a b c = some (castG a b c) := by
  unfold impl_CastingVote.f castG
  by_cases h1 : a > b
  · have h1' : b < a := h1
    simp [h1']
  · have h1' : ¬ b < a := h1
    by_cases h2 : a = b <;> simp [h2, h1']
theorem least_is (v : Int) (t : Bool) (h0 : 0 ≤ v) (h1 : v ≤ 1000) (d : Nat) : ∀ y : Int, 0 ≤ y → y + d = v + 1 → (0 < y → passG (y - 1) (v - y + 1) t = false) →
    ∃ r, Ev (fun k => impl_LeastYes.l0 k v t (v + 1) y) r ∧ (r = -1 ∨ (0 ≤ r ∧ r ≤ v ∧ passG r (v - r) t = true ∧ (0 < r → passG (r - 1) (v - r + 1) t = false))) := by
  induction d with
  | zero =>
    intro y hy hd _
    refine ⟨-1, ?_, .inl rfl⟩
    apply ev_succ
    simp only [impl_LeastYes.l0]
    refine ev_ifn (by omega) ?_
    exact Ev.now _
  | succ d ih =>
    intro y hy hd hq
    have e1 : wrap64 (v - y) = v - y := w64 (by omega) (by omega)
    have e2 : wrap64 (y + 1) = y + 1 := w64 (by omega) (by omega)
    have hyv' : y < v + 1 := by omega
    by_cases hp : passG y (v - y) t = true
    · refine ⟨y, ?_, .inr ⟨hy, by omega, hp, hq⟩⟩
      apply ev_succ
      simp only [impl_LeastYes.l0, if_pos hyv', e1, e2]
      refine Ev.bind (impl_Passes_ev _ _ _) ?_
      simp only [hp, if_true]
      exact Ev.now _
    · obtain ⟨r, hi, hr⟩ := ih (y + 1) (by omega) (by omega) (fun _ => by
        have e3 : y + 1 - 1 = y := by omega
        have e4 : v - (y + 1) + 1 = v - y := by omega
        rw [e3, e4]; simpa using hp)
      refine ⟨r, ?_, hr⟩
      apply ev_succ
      simp only [impl_LeastYes.l0, if_pos hyv', e1, e2]
      refine Ev.bind (impl_Passes_ev _ _ _) ?_
      simp only [hp]
      exact hi
theorem least_ok (v : Int) (t : Bool) : ∃ r, Ev (fun k => impl_LeastYes.f k v t) r ∧ (r = -1 ∨ (0 ≤ r ∧ r ≤ v ∧ v ≤ 1000 ∧ passG r (v - r) t = true ∧ (0 < r → passG (r - 1) (v - r + 1) t = false))) := by
  unfold impl_LeastYes.f
  by_cases h : 0 ≤ v ∧ v ≤ 1000
  · obtain ⟨r, hi, hr⟩ := least_is v t h.1 h.2 (v + 1).toNat 0 (by omega) (by omega) (by omega)
    refine ⟨r, ?_, ?_⟩
    · rw [impl_InRange_eq]
      simp only [h, and_self, decide_true, Option.bind_some, if_true]
      rw [w64 (by omega) (by omega)]
      exact hi
    · rcases hr with hr | ⟨a, b, c, e⟩
      · exact .inl hr
      · exact .inr ⟨a, b, h.2, c, e⟩
  · refine ⟨-1, ?_, .inl rfl⟩
    rw [impl_InRange_eq]
    simp only [h, decide_false, Option.bind_some]
    exact Ev.now _
theorem DrawIsQuorum_ok (b : List Int) (hb : b.length ≤ 1048576) : ∃ m p, Ev (fun k => spec_DrawIsQuorum.f k b) (m, p) := by
  obtain ⟨h, hN⟩ := l1New_ok b hb
  obtain ⟨m, i1, h1, e1, _, c1⟩ := l1Int_ok h [1, 10, 11, 20, 1000, 1001, 0] (by simp) (curOk0 hb)
  obtain ⟨p, i2, h2, e2, _, c2⟩ := l1Int_ok h1 [0, wrap64 (Int.tdiv m 2), wrap64 ((wrap64 (Int.tdiv m 2)) + 1), m, wrap64 (m + 1), (-1)] (by simp) c1
  refine ⟨m, p, ?_⟩
  unfold spec_DrawIsQuorum.f
  refine Ev.bind hN ?_
  simp only [e1, e2, Option.bind_some]
  exact Ev.now _
theorem DrawResolve_ok (b : List Int) (hb : b.length ≤ 1048576) : ∃ m p y n t, Ev (fun k => spec_DrawResolve.f k b) (m, p, y, n, t) := by
  obtain ⟨m, p, hQ⟩ := DrawIsQuorum_ok b hb
  obtain ⟨h, hN⟩ := l1New_ok b hb
  obtain ⟨u, i1, h1, e1, _, _, _, c1⟩ := l1Below_ok h 8 (curOk0 hb)
  obtain ⟨n, i2, h2, e2, _, _, _, c2⟩ := l1Below_ok h1 8 c1
  obtain ⟨y, i3, h3, e3, _, c3⟩ := l1Int_ok h2 [u, u, u, 9223372036854775807, (-1)] (by simp) c2
  obtain ⟨t, i4, h4, e4, c4⟩ := l1Once_ok h3 2 c3
  refine ⟨m, p, y, n, t, ?_⟩
  unfold spec_DrawResolve.f
  refine Ev.bind hQ (Ev.bind hN ?_)
  simp only [e1, e2, e3, e4, Option.bind_some]
  exact Ev.now _
theorem l29N_ok {b : List Int} {i : Int} (h : Int) (hc : CurOk b i) : ∃ v i' h', spec_l29N.f b i h = some (v, i', h') ∧ CurOk b i' := by
  obtain ⟨v, i', h', e, _, c⟩ := l1Int_ok h [0, 1, 2, 3, 7, 8, 20, 1000, 1001, (-1)] (by simp) hc
  unfold spec_l29N.f
  rw [e]
  exact ⟨_, _, _, rfl, c⟩
theorem DrawLeastYes_ok (b : List Int) (hb : b.length ≤ 1048576) : ∃ v t, Ev (fun k => spec_DrawLeastYes.f k b) (v, t) := by
  obtain ⟨h, hN⟩ := l1New_ok b hb
  obtain ⟨v, i1, h1, e1, c1⟩ := l29N_ok h (curOk0 hb)
  obtain ⟨t, i2, h2, e2, c2⟩ := l1Once_ok h1 2 c1
  refine ⟨v, t, ?_⟩
  unfold spec_DrawLeastYes.f
  refine Ev.bind hN ?_
  simp only [e1, e2, Option.bind_some]
  exact Ev.now _
theorem DrawCastingVote_ok (b : List Int) (hb : b.length ≤ 1048576) : ∃ x y t, Ev (fun k => spec_DrawCastingVote.f k b) (x, y, t) := by
  obtain ⟨h, hN⟩ := l1New_ok b hb
  obtain ⟨x, i1, h1, e1, c1⟩ := l29N_ok h (curOk0 hb)
  obtain ⟨y, i2, h2, e2, c2⟩ := l29N_ok h1 c1
  obtain ⟨t, i3, h3, e3, c3⟩ := l1Once_ok h2 2 c2
  refine ⟨x, y, t, ?_⟩
  unfold spec_DrawCastingVote.f spec_DrawPasses.f
  refine Ev.bind (a := (x, y, t)) (Ev.bind hN ?_) (Ev.now _)
  simp only [e1, e2, e3, Option.bind_some]
  exact Ev.now _
theorem meet_j1 (b : List Int) (hb : b.length ≤ 1048576) : Ev (fun k => laws_FnMeetings.j1 k b false) true := by
  apply ev_succ
  simp only [laws_FnMeetings.j1, Bool.false_eq_true, if_false]
  obtain ⟨x, y, t, hD⟩ := DrawCastingVote_ok b hb
  refine Ev.bind hD ?_
  simp only [impl_CastingVote_eq, Option.bind_some]
  have hne : (castG x y t != castG y x (!t)) = true := by
    unfold castG
    by_cases h1 : y < x
    · have h2 : ¬ x < y := by omega
      have h3 : ¬ y = x := by omega
      simp [h1, h2, h3]
    · by_cases h2 : x < y
      · have h3 : ¬ x = y := by omega
        simp [h1, h2, h3]
      · have h3 : x = y := by omega
        subst h3
        cases t <;> simp
  refine ev_ifp hne (Ev.bind (impl_Passes_ev _ _ _) ?_)
  cases hp : passG x y false
  · simpa using Ev.now true
  · have hlt : y < x := by
      simp [passG] at hp
      omega
    simp only [if_true]
    refine ev_some ?_
    simp [castG, hlt]
theorem meet_j0 (b : List Int) (hb : b.length ≤ 1048576) : Ev (fun k => laws_FnMeetings.j0 k b false) true := by
  apply ev_succ
  simp only [laws_FnMeetings.j0, Bool.false_eq_true, if_false]
  obtain ⟨v, t, hD⟩ := DrawLeastYes_ok b hb
  obtain ⟨r, hL, hr⟩ := least_ok v t
  refine Ev.bind hD (Ev.bind hL ?_)
  rcases hr with rfl | ⟨h0, h1, h1', h2, h3⟩
  · exact ev_ifn (by omega) (meet_j1 b hb)
  · refine ev_ifp (by omega) ?_
    simp only [w64 (x := v - r) (by omega) (by omega), w64 (x := r - 1) (by omega) (by omega), w64 (x := v - r + 1) (by omega) (by omega)]
    refine Ev.bind (impl_Passes_ev _ _ _) (ev_ifp h2 ?_)
    by_cases hp : r > 0
    · refine ev_ifp hp (Ev.bind (impl_Passes_ev _ _ _) ?_)
      rw [h3 hp]
      exact meet_j1 b hb
    · exact ev_ifn hp (meet_j1 b hb)
theorem FnMeetings : laws_FnMeetings.Pure := by
  intro b _ hb _
  apply Ev.rounds
  unfold laws_FnMeetings.f laws_big.f
  simp only [Option.bind_some, decide_eq_true_eq]
  by_cases hl : (b.length : Int) > 1048576
  · exact ev_ifp hl (Ev.now _)
  · refine ev_ifn hl ?_
    have hb' : b.length ≤ 1048576 := by omega
    obtain ⟨m, p, y, n, t, hD⟩ := DrawResolve_ok b hb'
    have hj := meet_j0 b hb'
    refine Ev.bind hD ?_
    simp only [impl_IsQuorum_eq, Option.bind_some]
    by_cases hv : validG m p y n
    · have hR : ∀ y', validG m p y' n → Ev (fun k => impl_Resolve.f k m p y' n t) (if isQG m p = true then (if passG y' n t = true then (⟨#[121, 101, 115]⟩ : ByteArray) else ⟨#[110, 111]⟩) else ⟨#[110, 111, 110, 101]⟩) := fun y' h => ev_at 2 fun k => res_yes k m p y' n t h
      refine Ev.bind (hR y hv) ?_
      by_cases hq : isQG m p = true
      · by_cases hp : passG y n t = true
        · rw [if_pos hq, if_pos hp]
          refine ev_ifp (by decide +kernel) (ev_ifp hq (Ev.bind (impl_Passes_ev _ _ _) (ev_ifp hp (ev_ifn (by decide +kernel) ?_))))
          obtain ⟨h1, h2, h3, h4⟩ := hv
          rw [w64 (x := y + n) (by omega) (by omega), w64 (x := y + 1) (by omega) (by omega)]
          by_cases hs : y + n < p
          · refine ev_ifp hs (Ev.bind (hR (y + 1) ⟨h1, h2, by omega, by omega⟩) ?_)
            have hp' : passG (y + 1) n t = true := by
              cases t
              · simp [passG] at hp ⊢; omega
              · simp [passG] at hp ⊢; omega
            rw [if_pos hq, if_pos hp', show ((⟨#[121, 101, 115]⟩ : ByteArray).toList != ([121, 101, 115] : List UInt8)) = false by decide +kernel]
            exact hj
          · exact ev_ifn hs hj
        · rw [if_pos hq, if_neg hp]
          refine ev_ifn (by decide +kernel) (ev_ifn (by decide +kernel) ?_)
          by_cases hs : wrap64 (y + n) < p
          · exact ev_ifp hs hj
          · exact ev_ifn hs hj
      · rw [if_neg hq]
        refine ev_ifn (by decide +kernel) (ev_ifp (by decide +kernel) (ev_ifn hq ?_))
        by_cases hs : wrap64 (y + n) < p
        · exact ev_ifp hs hj
        · exact ev_ifn hs hj
    · refine Ev.bind (ev_at 2 fun k => res_no k m p y n t hv) ?_
      refine ev_ifn (by decide +kernel) (ev_ifn (by decide +kernel) ?_)
      by_cases hs : wrap64 (y + n) < p
      · exact ev_ifp hs hj
      · exact ev_ifn hs hj

end Go.Proofs.Ytefcdlkmifieeaa.Pure
