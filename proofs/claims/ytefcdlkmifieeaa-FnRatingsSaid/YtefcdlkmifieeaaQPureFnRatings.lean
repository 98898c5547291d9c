/- What one gains another one loses, and the better one has less to gain: the law FnRatings answers true.
No condition: for every input. -/
import Derived.Test.YtefcdlkmifieeaaQFnRatingsx4
set_option linter.unusedVariables false
set_option linter.unusedSimpArgs false
set_option maxHeartbeats 1000000
namespace Go.Proofs.Ytefcdlkmifieeaa.Pure
open Go.RowKit Go.Proofs.Ytefcdlkmifieeaa.QFnRatings Go.Proofs.YtefcdlkmifieeaaW.PrintWords Go.Proofs.YtefcdlkmifieeaaW.PrintLast

theorem w64 {x : Int} (h1 : -9223372036854775808 ≤ x) (h2 : x ≤ 9223372036854775807) : wrap64 x = x := by unfold wrap64; omega
theorem wf64 {x : Int} (h : (Lit.int .i64 x).wf = true) : -9223372036854775808 ≤ x ∧ x ≤ 9223372036854775807 := by
  simp only [Lit.wf, Bool.and_eq_true, decide_eq_true_eq] at h
  have e1 : IntKind.min .i64 = -9223372036854775808 := by decide
  have e2 : IntKind.max .i64 = 9223372036854775807 := by decide
  omega
theorem wfu8 {x : Int} (h : (Lit.int .u8 x).wf = true) : 0 ≤ x ∧ x ≤ 255 := by
  simp only [Lit.wf, Bool.and_eq_true, decide_eq_true_eq] at h
  have e1 : IntKind.min .u8 = 0 := by decide
  have e2 : IntKind.max .u8 = 255 := by decide
  omega
theorem ev_succ {α : Type} {g : Nat → Option α} {r : α} (h : Ev (fun k => g (k + 1)) r) : Ev g r := Ev.step (fun _ => rfl) h
theorem ev_some {α : Type} {r s : α} (h : r = s) : Ev (fun _ => some r) s := by subst h; exact Ev.now r
theorem ev_fix {α : Type} {o : Option α} {r : α} (h : o = some r) : Ev (fun _ => o) r := ⟨0, fun _ _ => h⟩
theorem ev_at {α : Type} {g : Nat → Option α} {r : α} (n : Nat) (h : ∀ k, g (k + n) = some r) : Ev g r :=
  ⟨n, fun k hk => by obtain ⟨m, rfl⟩ : ∃ m, k = m + n := ⟨k - n, by omega⟩; exact h m⟩
theorem ev_bindc {α β : Type} {o : Option α} {f : Nat → α → Option β} {a : α} {r : β} (h : o = some a) (k : Ev (fun n => f n a) r) : Ev (fun n => o.bind (f n)) r := by
  subst h; exact k
theorem ev_ifp {α : Type} {c : Prop} [Decidable c] {a b : Nat → Option α} {r : α} (h : c) (k : Ev a r) : Ev (fun n => if c then a n else b n) r := by
  simpa only [if_pos h] using k
theorem ev_ifn {α : Type} {c : Prop} [Decidable c] {a b : Nat → Option α} {r : α} (h : ¬ c) (k : Ev b r) : Ev (fun n => if c then a n else b n) r := by
  simpa only [if_neg h] using k
theorem impl_InRange_eq (a b c : Int) : impl_InRange.f a b c = some (decide (b ≤ a ∧ a ≤ c)) := by
  unfold impl_InRange.f
  by_cases h : b ≤ a <;> simp [h]
theorem mx_eq (a b : Int) : mx a b = max a b := by unfold mx; omega
theorem mn_eq (a b : Int) : mn a b = min a b := by unfold mn; omega
def ratG (a : Int) : Prop := 0 ≤ a ∧ a ≤ 3000
instance (a : Int) : Decidable (ratG a) := by unfold ratG; infer_instance
def expG (a b : Int) : Int := if ratG a ∧ ratG b then max 50 (min 950 (500 + Int.tdiv (a - b) 2)) else -1
theorem expG_no {a b : Int} (h : ¬ (ratG a ∧ ratG b)) : expG a b = -1 := if_neg h
theorem expG_yes {a b : Int} (h : ratG a ∧ ratG b) : 50 ≤ expG a b ∧ expG a b ≤ 950 := by
  unfold expG; rw [if_pos h]; omega
def excG (a b : Int) (won : Bool) : Int :=
  if ratG a ∧ ratG b then
    (if won = true then max (min (Int.tdiv (32 * (1000 - expG a b)) 1000) (min (3000 - a) b)) (max (-a) (b - 3000))
     else max (min (Int.tdiv (32 * (- expG a b)) 1000) (min (3000 - a) b)) (max (-a) (b - 3000)))
  else 0
theorem tdiv_le {x n : Int} (hn : 0 < n) (h0 : 0 ≤ x) : 0 ≤ Int.tdiv x n ∧ Int.tdiv x n ≤ x := by
  rw [Int.tdiv_eq_ediv_of_nonneg h0]
  exact ⟨Int.ediv_nonneg h0 (by omega), Int.ediv_le_self _ h0⟩
theorem tdiv_bd {x n : Int} (hn : 0 < n) (m : Int) (h0 : -m ≤ x) (h1 : x ≤ m) : -m ≤ Int.tdiv x n ∧ Int.tdiv x n ≤ m := by
  rcases Int.le_total 0 x with h | h
  · have := tdiv_le hn h; omega
  · have := tdiv_le hn (x := -x) (by omega)
    rw [Int.neg_tdiv] at this
    omega
theorem impl_Expected_eq (a b : Int) : impl_Expected.f a b = some (expG a b) := by
  simp only [impl_Expected.f, impl_isRating.f, impl_InRange_eq, mx_eq, mn_eq, Option.bind_some]
  by_cases h1 : 0 ≤ a ∧ a ≤ 3000
  · by_cases h2 : 0 ≤ b ∧ b ≤ 3000
    · have e1 : wrap64 (a - b) = a - b := w64 (by omega) (by omega)
      have hd := tdiv_bd (x := a - b) (n := 2) (by omega) 3000 (by omega) (by omega)
      have e2 : wrap64 (Int.tdiv (a - b) 2) = Int.tdiv (a - b) 2 := w64 (by omega) (by omega)
      have e3 : wrap64 (500 + Int.tdiv (a - b) 2) = 500 + Int.tdiv (a - b) 2 := w64 (by omega) (by omega)
      have hr : ratG a ∧ ratG b := ⟨h1, h2⟩
      simp [h1, h2, e1, e2, e3, expG, hr, Int.min_comm]
    · have hr : ¬ (ratG a ∧ ratG b) := fun h => h2 h.2
      simp [h1, h2, expG, hr]
  · have hr : ¬ (ratG a ∧ ratG b) := fun h => h1 h.1
    simp [h1, expG, hr]
theorem impl_Exchange_eq (a b : Int) (won : Bool) : impl_Exchange.f a b won = some (excG a b won) := by
  simp only [impl_Exchange.f, impl_Expected_eq, mx_eq, mn_eq, Option.bind_some]
  by_cases hr : ratG a ∧ ratG b
  · have hE := expG_yes hr
    have ha : 0 ≤ a ∧ a ≤ 3000 := hr.1
    have hb : 0 ≤ b ∧ b ≤ 3000 := hr.2
    rw [if_neg (by omega), w64 (x := 3000 - b) (by omega) (by omega), w64 (x := -(min a (3000 - b))) (by omega) (by omega), w64 (x := 1000 - expG a b) (by omega) (by omega), w64 (x := 3000 - a) (by omega) (by omega),
      w64 (x := 32 * (1000 - expG a b)) (by omega) (by omega), w64 (x := (-32) * expG a b) (by omega) (by omega)]
    have t1 := tdiv_bd (x := 32 * (1000 - expG a b)) (n := 1000) (by omega) 40000 (by omega) (by omega)
    have t2 := tdiv_bd (x := (-32) * expG a b) (n := 1000) (by omega) 40000 (by omega) (by omega)
    rw [w64 (x := Int.tdiv (32 * (1000 - expG a b)) 1000) (by omega) (by omega), w64 (x := Int.tdiv ((-32) * expG a b) 1000) (by omega) (by omega)]
    unfold excG
    rw [if_pos hr, show 32 * (- expG a b) = (-32) * expG a b by omega]
    generalize Int.tdiv (32 * (1000 - expG a b)) 1000 = u at *
    generalize Int.tdiv ((-32) * expG a b) 1000 = v at *
    cases won
    · simp only [Bool.false_eq_true, if_false]
      congr 1; omega
    · simp only [if_true]
      congr 1; omega
  · rw [expG_no hr, if_pos rfl]
    unfold excG
    rw [if_neg hr]
theorem and255 (a : Int) : 0 ≤ Go.bits .and .i64 a 255 ∧ Go.bits .and .i64 a 255 ≤ 255 := by
  have hle : (BitVec.ofInt 64 a &&& BitVec.ofInt 64 255).toNat ≤ 255 := by
    rw [BitVec.toNat_and]
    exact Nat.le_trans Nat.and_le_right (by decide)
  show 0 ≤ IntKind.i64.wrap ((BitVec.ofInt 64 a &&& BitVec.ofInt 64 255).toNat : Int) ∧ IntKind.i64.wrap ((BitVec.ofInt 64 a &&& BitVec.ofInt 64 255).toNat : Int) ≤ 255
  rw [IntKind.wrap_i64]
  omega
def CurOk (b : List Int) (i : Int) : Prop := 0 ≤ i ∧ i ≤ b.length ∧ b.length ≤ 1048576
theorem curOk0 {b : List Int} (hb : b.length ≤ 1048576) : CurOk b 0 := ⟨by omega, by omega, hb⟩
theorem l1Byte_ok {b : List Int} {i : Int} (h : Int) (hc : CurOk b i) : ∃ x i' h', spec_l1Byte.f b i h = some (x, i', h') ∧ 0 ≤ x ∧ x ≤ 255 ∧ CurOk b i' := by
  obtain ⟨h0, h1, h2⟩ := hc
  unfold spec_l1Byte.f
  by_cases hi : i < (b.length : Int)
  · rw [if_pos hi, if_pos h0]
    exact ⟨_, _, _, rfl, (and255 _).1, (and255 _).2, by rw [w64 (by omega) (by omega)]; exact ⟨by omega, by omega, h2⟩⟩
  · rw [if_neg hi]
    exact ⟨_, _, _, rfl, (and255 _).1, (and255 _).2, h0, h1, h2⟩
theorem l1Below_ok {b : List Int} {i : Int} (h n : Int) (hc : CurOk b i) : ∃ x i' h', spec_l1Below.f b i h n = some (x, i', h') ∧ 0 ≤ x ∧ (0 < n → x < n) ∧ (n ≤ 0 → x = 0) ∧ CurOk b i' := by
  unfold spec_l1Below.f
  by_cases h1 : n ≤ 0
  · rw [if_pos h1]
    exact ⟨0, i, h, rfl, by omega, by omega, fun _ => rfl, hc⟩
  · rw [if_neg h1]
    have hn : n ≠ 0 := by omega
    by_cases h2 : n ≤ 256
    · rw [if_pos h2]
      obtain ⟨x, i', h', e, hx0, hx1, hc'⟩ := l1Byte_ok h hc
      rw [e]
      simp only [Option.bind_some, if_neg hn]
      exact ⟨_, _, _, rfl, Int.tmod_nonneg _ hx0, fun hp => Int.tmod_lt_of_pos _ hp, fun hq => absurd hq h1, hc'⟩
    · rw [if_neg h2]
      obtain ⟨x, i1, g1, e1, hx0, hx1, c1⟩ := l1Byte_ok h hc
      obtain ⟨y, i2, g2, e2, hy0, hy1, c2⟩ := l1Byte_ok g1 c1
      obtain ⟨z, i3, g3, e3, hz0, hz1, c3⟩ := l1Byte_ok g2 c2
      simp only [e1, e2, e3, Option.bind_some, if_neg hn]
      refine ⟨_, _, _, rfl, Int.tmod_nonneg _ ?_, fun hp => Int.tmod_lt_of_pos _ hp, fun hq => absurd hq h1, c3⟩
      unfold wrap64
      omega
theorem l1New_loop (b : List Int) (hb : b.length ≤ 1048576) (d : Nat) : ∀ (i : Nat) (h : Int), i + d = b.length → ∃ h', Ev (fun k => spec_l1New.l0 k b h (i : Int)) (b, 0, h') := by
  induction d with
  | zero =>
    intro i h hd
    refine ⟨h, ?_⟩
    apply ev_succ
    simp only [spec_l1New.l0]
    refine ev_ifn (by omega) ?_
    exact Ev.now _
  | succ d ih =>
    intro i h hd
    by_cases h4 : (i : Int) < 4000
    · obtain ⟨h', e⟩ := ih (i + 1) (Go.bits .and .i64 (wrap64 ((wrap64 ((wrap64 (h * 137)) + (wrap64 (rd b (i : Int))))) + 11)) 1073741823) (by omega)
      refine ⟨h', ?_⟩
      apply ev_succ
      simp only [spec_l1New.l0]
      refine ev_ifp (by omega) (ev_ifp h4 (ev_ifp (by omega) ?_))
      rw [w64 (x := (i : Int) + 1) (by omega) (by omega)]
      simpa using e
    · refine ⟨h, ?_⟩
      apply ev_succ
      simp only [spec_l1New.l0]
      refine ev_ifp (by omega) (ev_ifn h4 ?_)
      exact Ev.now _
theorem l1New_ok (b : List Int) (hb : b.length ≤ 1048576) : ∃ h, Ev (fun k => spec_l1New.f k b) (b, 0, h) := by
  unfold spec_l1New.f
  exact l1New_loop b hb b.length 0 _ (by omega)
theorem rd_mem (l : List Int) (j : Int) (h0 : 0 ≤ j) (h1 : j < l.length) : rd l j ∈ l := by
  unfold rd
  have h : j.toNat < l.length := by omega
  simp [List.getD_eq_getElem?_getD, h]
theorem l1Int_ok {b : List Int} {i : Int} (h : Int) (l : List Int) (hl : 0 < l.length) (hc : CurOk b i) : ∃ v i' h', spec_l1Int.f b i h l = some (v, i', h') ∧ v ∈ l ∧ CurOk b i' := by
  obtain ⟨x, i', h', e, h0, h1, _, c⟩ := l1Below_ok h (l.length : Int) hc
  unfold spec_l1Int.f
  rw [e]
  simp only [Option.bind_some]
  rw [if_pos h0, if_pos (h1 (by omega))]
  exact ⟨_, _, _, rfl, rd_mem l x h0 (h1 (by omega)), c⟩
theorem l1Once_ok {b : List Int} {i : Int} (h n : Int) (hc : CurOk b i) : ∃ t i' h', spec_l1Once.f b i h n = some (t, i', h') ∧ CurOk b i' := by
  obtain ⟨x, i', h', e, h0, h1, _, c⟩ := l1Below_ok h n hc
  unfold spec_l1Once.f
  rw [e]
  simp only [Option.bind_some]
  exact ⟨_, _, _, rfl, c⟩
theorem Clone_eq (l : List Int) (hl : l.length ≤ 1100000) : slices_Clone_int_int.f l = some l := by
  unfold slices_Clone_int_int.f
  simp only [Option.bind_some, List.nil_append, List.length_nil]
  rw [if_pos (by omega)]
theorem exp_sum {a b : Int} (h : ratG a ∧ ratG b) : expG a b + expG b a = 1000 := by
  unfold expG
  rw [if_pos h, if_pos ⟨h.2, h.1⟩]
  have e : Int.tdiv (b - a) 2 = - Int.tdiv (a - b) 2 := by
    rw [← Int.neg_tdiv]
    congr 1
    omega
  rw [e]
  omega
theorem exc_ok {a b : Int} (w : Bool) (h : ratG a ∧ ratG b) : 0 ≤ a + excG a b w ∧ a + excG a b w ≤ 3000 ∧ 0 ≤ b - excG a b w ∧ b - excG a b w ≤ 3000 ∧ (w = true → 0 ≤ excG a b w) ∧ (w = false → excG a b w ≤ 0) := by
  have he := expG_yes h
  have ha : 0 ≤ a ∧ a ≤ 3000 := h.1
  have hb : 0 ≤ b ∧ b ≤ 3000 := h.2
  have t1 := tdiv_le (x := 32 * (1000 - expG a b)) (n := 1000) (by omega) (by omega)
  have t2 := tdiv_le (x := 32 * expG a b) (n := 1000) (by omega) (by omega)
  have t3 : Int.tdiv (32 * (- expG a b)) 1000 = - Int.tdiv (32 * expG a b) 1000 := by
    rw [← Int.neg_tdiv]
    congr 1
    omega
  unfold excG
  rw [if_pos h, t3]
  generalize Int.tdiv (32 * (1000 - expG a b)) 1000 = u at *
  generalize Int.tdiv (32 * expG a b) 1000 = v at *
  cases w
  · simp only [Bool.false_eq_true, if_false]
    refine ⟨by omega, by omega, by omega, by omega, fun h => ?_, fun h => ?_⟩ <;> first | exact h.elim | exact absurd h (by decide) | omega
  · simp only [if_true]
    refine ⟨by omega, by omega, by omega, by omega, fun h => ?_, fun h => ?_⟩ <;> first | exact absurd h (by decide) | omega
theorem exc_no {a b : Int} (w : Bool) (h : ¬ (ratG a ∧ ratG b)) : excG a b w = 0 := if_neg h
theorem after_eq (a b : Int) (w : Bool) : impl_AfterDebate.f a b w = some (wrap64 (a + excG a b w), wrap64 (b - excG a b w)) := by
  simp only [impl_AfterDebate.f, impl_Exchange_eq, Option.bind_some]
def clp (x : Int) : Int := max 0 (min x 3000)
def sumG : List Int → Int
  | [] => 0
  | x :: xs => clp x + sumG xs
theorem sum_loop (xs : List Int) (hx : xs.length ≤ 1000) (d : Nat) : ∀ (i : Nat) (n : Int), i + d = xs.length → 0 ≤ n → n ≤ 3000 * (i : Int) →
    Ev (fun k => impl_SumRatings.l0 k n xs (xs.length : Int) (i : Int)) (n + sumG (xs.drop i)) := by
  induction d with
  | zero =>
    intro i n hd h0 h1
    apply ev_succ
    simp only [impl_SumRatings.l0]
    rw [List.drop_eq_nil_of_le (by omega)]
    refine ev_ifn (by omega) (ev_some (by simp only [sumG]; omega))
  | succ d ih =>
    intro i n hd h0 h1
    have hi : i < xs.length := by omega
    have e0 : rd xs (i : Int) = xs[i] := by simp [rd, List.getD_eq_getElem?_getD, hi]
    have hc : 0 ≤ max 0 (min xs[i] 3000) ∧ max 0 (min xs[i] 3000) ≤ 3000 := by omega
    have e1 : wrap64 (n + max 0 (min xs[i] 3000)) = n + max 0 (min xs[i] 3000) := w64 (by omega) (by omega)
    have e2 : wrap64 ((i : Int) + 1) = ((i + 1 : Nat) : Int) := (w64 (x := (i : Int) + 1) (by omega) (by omega)).trans (by omega)
    have hr := ih (i + 1) (n + max 0 (min xs[i] 3000)) (by omega) (by omega) (by omega)
    have e3 : n + sumG (xs.drop i) = n + max 0 (min xs[i] 3000) + sumG (xs.drop (i + 1)) := by
      rw [List.drop_eq_getElem_cons hi]
      simp only [sumG, clp]
      omega
    apply ev_succ
    simp only [impl_SumRatings.l0, mx_eq, mn_eq, e0, e1, e2]
    rw [e3]
    exact ev_ifp (by omega) (ev_ifp (by omega) (ev_ifp (by omega) hr))
theorem sum_ev (xs : List Int) (hx : xs.length ≤ 1000) : Ev (fun k => impl_SumRatings.f k xs) (sumG xs) := by
  unfold impl_SumRatings.f
  have h := sum_loop xs hx xs.length 0 0 (by omega) (by omega) (by omega)
  simpa using h
theorem sum_set (xs : List Int) (v : Int) : ∀ i : Nat, i < xs.length → sumG (xs.set i v) = sumG xs - clp (xs.getD i 0) + clp v := by
  induction xs with
  | nil => intro i h; simp at h
  | cons x xs ih =>
    intro i h
    cases i with
    | zero => simp only [List.set_cons_zero, sumG, List.getD_cons_zero]; omega
    | succ i =>
      have := ih i (by simpa using h)
      simp only [List.set_cons_succ, sumG, List.getD_cons_succ, this]; omega
def okL (xs : List Int) : Prop := ∀ x ∈ xs, ratG x
theorem okL_set {xs : List Int} (h : okL xs) (i : Nat) {v : Int} (hv : ratG v) : okL (xs.set i v) := by
  intro x hx
  rcases List.mem_or_eq_of_mem_set hx with h1 | h1
  · exact h x h1
  · rw [h1]; exact hv
theorem rate_loop (rs : List (List Int)) (hs : rs.length ≤ 1000) (d : Nat) : ∀ (i : Nat) (xs : List Int), i + d = rs.length → xs.length ≤ 1000 → okL xs →
    ∃ z, Ev (fun k => impl_RateAll.l0 k xs rs (rs.length : Int) (i : Int)) z ∧ z.length = xs.length ∧ sumG z = sumG xs := by
  induction d with
  | zero =>
    intro i xs hd hl ho
    refine ⟨xs, ?_, rfl, rfl⟩
    apply ev_succ
    simp only [impl_RateAll.l0]
    exact ev_ifn (by omega) (Ev.now _)
  | succ d ih =>
    intro i xs hd hl ho
    have e2 : wrap64 ((i : Int) + 1) = ((i + 1 : Nat) : Int) := (w64 (x := (i : Int) + 1) (by omega) (by omega)).trans (by omega)
    have e3 : wrap64 ((xs.length : Int) - 1) = (xs.length : Int) - 1 := w64 (by omega) (by omega)
    obtain ⟨z0, hz0, hz1, hz2⟩ := ih (i + 1) xs (by omega) hl ho
    by_cases h2 : ((rd_L2 rs (i : Int)).length : Int) = 2
    · by_cases h3 : rd (rd_L2 rs (i : Int)) 0 = rd (rd_L2 rs (i : Int)) 1
      · refine ⟨z0, ?_, hz1, hz2⟩
        apply ev_succ
        simp only [impl_RateAll.l0, impl_InRange_eq, Option.bind_some, e2, e3]
        exact ev_ifp (by omega) (ev_ifp (by omega) (ev_ifp (by omega) (ev_ifp h2 (ev_ifp (by omega) (ev_ifp (by omega) (ev_ifp h3 hz0))))))
      · by_cases h4 : 0 ≤ rd (rd_L2 rs (i : Int)) 0 ∧ rd (rd_L2 rs (i : Int)) 0 ≤ (xs.length : Int) - 1
        · by_cases h5 : 0 ≤ rd (rd_L2 rs (i : Int)) 1 ∧ rd (rd_L2 rs (i : Int)) 1 ≤ (xs.length : Int) - 1
          · generalize hp : rd (rd_L2 rs (i : Int)) 0 = p at h3 h4
            generalize hq : rd (rd_L2 rs (i : Int)) 1 = q at h3 h5
            have ra := ho _ (rd_mem xs p h4.1 (by omega))
            have rb := ho _ (rd_mem xs q h5.1 (by omega))
            have hx := exc_ok (a := rd xs p) (b := rd xs q) true ⟨ra, rb⟩
            generalize hu : excG (rd xs p) (rd xs q) true = u at hx
            have w1 : wrap64 (rd xs p + u) = rd xs p + u := w64 (by omega) (by omega)
            have w2 : wrap64 (rd xs q - u) = rd xs q - u := w64 (by omega) (by omega)
            have va : ratG (rd xs p + u) := ⟨by omega, by omega⟩
            have vb : ratG (rd xs q - u) := ⟨by omega, by omega⟩
            obtain ⟨z, hz, hzl, hzs⟩ := ih (i + 1) ((xs.set p.toNat (rd xs p + u)).set q.toNat (rd xs q - u)) (by omega) (by simpa using hl) (okL_set (okL_set ho _ va) _ vb)
            refine ⟨z, ?_, by simpa using hzl, ?_⟩
            · apply ev_succ
              simp only [impl_RateAll.l0, impl_InRange_eq, after_eq, Option.bind_some, e2, e3, hp, hq, hu, w1, w2]
              exact ev_ifp (by omega) (ev_ifp (by omega) (ev_ifp (by omega) (ev_ifp h2 (ev_ifp (by omega) (ev_ifp (by omega) (ev_ifn h3 (ev_ifp (decide_eq_true h4) (ev_ifp (decide_eq_true h5) (ev_ifp (by omega) (ev_ifp (by omega) (ev_ifp (by omega) (ev_ifp (by omega) hz))))))))))))
            · rw [hzs, sum_set _ _ _ (by simp; omega), sum_set _ _ _ (by omega)]
              have g1 : (xs.set p.toNat (rd xs p + u)).getD q.toNat 0 = rd xs q := by
                have hne : p.toNat ≠ q.toNat := by omega
                simp [rd, List.getD_eq_getElem?_getD, List.getElem?_set_ne hne]
              have g2 : xs.getD p.toNat 0 = rd xs p := rfl
              rw [g1, g2]
              have ra' : 0 ≤ rd xs p ∧ rd xs p ≤ 3000 := ra
              have rb' : 0 ≤ rd xs q ∧ rd xs q ≤ 3000 := rb
              unfold clp
              omega
          · refine ⟨z0, ?_, hz1, hz2⟩
            apply ev_succ
            simp only [impl_RateAll.l0, impl_InRange_eq, Option.bind_some, e2, e3]
            exact ev_ifp (by omega) (ev_ifp (by omega) (ev_ifp (by omega) (ev_ifp h2 (ev_ifp (by omega) (ev_ifp (by omega) (ev_ifn h3 (ev_ifp (decide_eq_true h4) (ev_ifn (by simpa using h5) hz0))))))))
        · refine ⟨z0, ?_, hz1, hz2⟩
          apply ev_succ
          simp only [impl_RateAll.l0, impl_InRange_eq, Option.bind_some, e2, e3]
          exact ev_ifp (by omega) (ev_ifp (by omega) (ev_ifp (by omega) (ev_ifp h2 (ev_ifp (by omega) (ev_ifp (by omega) (ev_ifn h3 (ev_ifn (by simpa using h4) hz0)))))))
    · refine ⟨z0, ?_, hz1, hz2⟩
      apply ev_succ
      simp only [impl_RateAll.l0, impl_InRange_eq, Option.bind_some, e2, e3]
      exact ev_ifp (by omega) (ev_ifp (by omega) (ev_ifp (by omega) (ev_ifn h2 hz0)))
theorem rate_ok (xs : List Int) (rs : List (List Int)) (hs : rs.length ≤ 1000) (hl : xs.length ≤ 1000) (ho : okL xs) : ∃ z, Ev (fun k => impl_RateAll.f k xs rs) z ∧ z.length = xs.length ∧ sumG z = sumG xs := by
  obtain ⟨z, hz, h1, h2⟩ := rate_loop rs hs rs.length 0 xs (by omega) hl ho
  refine ⟨z, ?_, h1, h2⟩
  unfold impl_RateAll.f
  exact ev_bindc (Clone_eq xs (by omega)) hz
theorem l25Rating_ok {b : List Int} {i : Int} (h : Int) (hc : CurOk b i) : ∃ v i' h', spec_l25Rating.f b i h = some (v, i', h') ∧ -1 ≤ v ∧ v ≤ 3001 ∧ CurOk b i' := by
  obtain ⟨x, i1, g1, e1, x0, x1, _, c1⟩ := l1Below_ok h 300 hc
  obtain ⟨y, i2, g2, e2, y0, y1, _, c2⟩ := l1Below_ok g1 1000 c1
  have hx1 := x1 (by omega)
  have hy1 := y1 (by omega)
  have w1 : wrap64 (1400 + x) = 1400 + x := w64 (by omega) (by omega)
  have w2 : wrap64 (1000 + y) = 1000 + y := w64 (by omega) (by omega)
  obtain ⟨v, i3, g3, e3, hm, c3⟩ := l1Int_ok g2 ([1500, 1400 + x, 1000 + y, 0, 5, 2998, 3000, 3001, (-1)] : List Int) (by simp) c2
  refine ⟨v, i3, g3, ?_, ?_, ?_, c3⟩
  · simp only [spec_l25Rating.f, e1, e2, Option.bind_some, w1, w2, e3]
  · simp only [List.mem_cons, List.not_mem_nil, or_false] at hm
    omega
  · simp only [List.mem_cons, List.not_mem_nil, or_false] at hm
    omega
theorem drawAD_ok (b : List Int) (hb : b.length ≤ 1048576) : ∃ x y w, Ev (fun k => spec_DrawAfterDebate.f k b) (x, y, w) ∧ -1 ≤ x ∧ x ≤ 3001 ∧ -1 ≤ y ∧ y ≤ 3001 := by
  obtain ⟨h, hn⟩ := l1New_ok b hb
  obtain ⟨x, i1, g1, e1, x0, x1, c1⟩ := l25Rating_ok h (curOk0 hb)
  obtain ⟨y, i2, g2, e2, y0, y1, c2⟩ := l25Rating_ok g1 c1
  obtain ⟨w, i3, g3, e3, c3⟩ := l1Once_ok g2 2 c2
  refine ⟨x, y, w, ?_, x0, x1, y0, y1⟩
  unfold spec_DrawAfterDebate.f spec_DrawExchange.f
  exact Ev.bind (Ev.bind hn (ev_bindc e1 (ev_bindc e2 (ev_bindc e3 (Ev.now _))))) (Ev.now _)
theorem drawRA1 (b : List Int) (xs : List Int) (d : Nat) : ∀ (rs : List (List Int)) (i h : Int), rs.length + d ≤ 100 → CurOk b i →
    ∃ ss, Ev (fun k => spec_DrawRateAll.l1 k xs rs (d : Int) b i h) (xs, ss) ∧ ss.length ≤ 101 := by
  induction d with
  | zero =>
    intro rs i h hl hc
    obtain ⟨t, i1, g1, e1, c1⟩ := l1Once_ok h 6 hc
    by_cases ht : t = true
    · refine ⟨rs ++ [[1]], ?_, by simp; omega⟩
      apply ev_succ
      simp only [spec_DrawRateAll.l1]
      exact ev_ifn (by omega) (ev_bindc e1 (ev_ifp ht (ev_ifp (by omega) (Ev.now _))))
    · refine ⟨rs, ?_, by omega⟩
      apply ev_succ
      simp only [spec_DrawRateAll.l1]
      exact ev_ifn (by omega) (ev_bindc e1 (ev_ifn ht (Ev.now _)))
  | succ d ih =>
    intro rs i h hl hc
    obtain ⟨x, i1, g1, e1, _, _, _, c1⟩ := l1Below_ok h 6 hc
    obtain ⟨y, i2, g2, e2, _, _, _, c2⟩ := l1Below_ok g1 6 c1
    obtain ⟨ss, hs, hsl⟩ := ih (rs ++ [[x, y]]) i2 g2 (by simp; omega) c2
    have e3 : wrap64 (((d + 1 : Nat) : Int) - 1) = (d : Int) := (w64 (x := ((d + 1 : Nat) : Int) - 1) (by omega) (by omega)).trans (by omega)
    refine ⟨ss, ?_, hsl⟩
    apply ev_succ
    simp only [spec_DrawRateAll.l1, e3]
    exact ev_ifp (by omega) (ev_bindc e1 (ev_bindc e2 (ev_ifp (by omega) hs)))
theorem drawRA0 (b : List Int) (d : Nat) : ∀ (xs : List Int) (i h : Int), xs.length + d ≤ 100 → okL xs → CurOk b i →
    ∃ ys ss, Ev (fun k => spec_DrawRateAll.l0 k xs (d : Int) b i h) (ys, ss) ∧ ys.length ≤ 100 ∧ okL ys ∧ ss.length ≤ 101 := by
  induction d with
  | zero =>
    intro xs i h hl ho hc
    obtain ⟨x, i1, g1, e1, x0, x1, _, c1⟩ := l1Below_ok h 8 hc
    have hx1 := x1 (by omega)
    obtain ⟨ss, hs, hsl⟩ := drawRA1 b xs x.toNat [] i1 g1 (by simp; omega) c1
    rw [Int.toNat_of_nonneg x0] at hs
    refine ⟨xs, ss, ?_, by omega, ho, hsl⟩
    apply ev_succ
    simp only [spec_DrawRateAll.l0]
    exact ev_ifn (by omega) (ev_bindc e1 hs)
  | succ d ih =>
    intro xs i h hl ho hc
    obtain ⟨x, i1, g1, e1, x0, x1, _, c1⟩ := l1Below_ok h 1000 hc
    have hx1 := x1 (by omega)
    have w1 : wrap64 (1000 + x) = 1000 + x := w64 (by omega) (by omega)
    have e3 : wrap64 (((d + 1 : Nat) : Int) - 1) = (d : Int) := (w64 (x := ((d + 1 : Nat) : Int) - 1) (by omega) (by omega)).trans (by omega)
    have ho' : okL (xs ++ [1000 + x]) := by
      intro v hv
      rcases List.mem_append.1 hv with h1 | h1
      · exact ho v h1
      · rw [List.mem_singleton.1 h1]; exact ⟨by omega, by omega⟩
    obtain ⟨ys, ss, hs, h1, h2, h3⟩ := ih (xs ++ [1000 + x]) i1 g1 (by simp; omega) ho' c1
    rw [← w1] at hs
    refine ⟨ys, ss, ?_, h1, h2, h3⟩
    apply ev_succ
    simp only [spec_DrawRateAll.l0, e3]
    exact ev_ifp (by omega) (ev_bindc e1 (ev_ifp (by omega) hs))
theorem drawRA_ok (b : List Int) (hb : b.length ≤ 1048576) : ∃ ys ss, Ev (fun k => spec_DrawRateAll.f k b) (ys, ss) ∧ ys.length ≤ 100 ∧ okL ys ∧ ss.length ≤ 101 := by
  obtain ⟨h, hn⟩ := l1New_ok b hb
  obtain ⟨x, i1, g1, e1, x0, x1, _, c1⟩ := l1Below_ok h 5 (curOk0 hb)
  have hx1 := x1 (by omega)
  have w1 : wrap64 (1 + x) = (((1 + x).toNat : Nat) : Int) := (w64 (x := 1 + x) (by omega) (by omega)).trans (by omega)
  obtain ⟨ys, ss, hs, h1, h2, h3⟩ := drawRA0 b (1 + x).toNat [] i1 g1 (by simp; omega) (by intro v hv; simp at hv) c1
  refine ⟨ys, ss, ?_, h1, h2, h3⟩
  unfold spec_DrawRateAll.f
  refine Ev.bind hn (ev_bindc e1 ?_)
  simp only [w1]
  exact hs
theorem rat_end (b : List Int) (hb : b.length ≤ 1048576) : Ev (fun k => (spec_DrawRateAll.f k b).bind fun bt => ((impl_RateAll.f k bt.1 bt.2).bind fun t => (if (t.length : Int) = (bt.1.length : Int) then ((impl_SumRatings.f k t).bind fun u => ((impl_SumRatings.f k bt.1).bind fun v => (some (u == v)))) else (some false)))) true := by
  obtain ⟨ys, ss, hs, h1, h2, h3⟩ := drawRA_ok b hb
  obtain ⟨z, hz, hl, he⟩ := rate_ok ys ss (by omega) (by omega) h2
  have s1 := sum_ev z (by omega)
  have s2 := sum_ev ys (by omega)
  exact Ev.bind hs (Ev.bind hz (ev_ifp (show (z.length : Int) = (ys.length : Int) by omega) (Ev.bind s1 (Ev.bind s2 (ev_some (by simpa using he))))))
theorem rat_j1 (b : List Int) (hb : b.length ≤ 1048576) : Ev (fun k => laws_FnRatings.j1 k b false) true := by
  apply ev_succ
  simp only [laws_FnRatings.j1]
  exact ev_ifn (by simp) (rat_end b hb)
theorem rat_yes (b : List Int) (hb : b.length ≤ 1048576) (x y n : Int) (w : Bool) (hv : ratG x ∧ ratG y) (hx : 0 ≤ x + n ∧ x + n ≤ 3000 ∧ 0 ≤ y - n ∧ y - n ≤ 3000 ∧ (w = true → 0 ≤ n) ∧ (w = false → n ≤ 0)) (v : Bool) (hvv : v = true) :
    Ev (fun k => laws_FnRatings.j0 k b x y w (x + n) (y - n) (expG x y) v) true := by
  subst hvv
  have hr1 : 0 ≤ x ∧ x ≤ 3000 := hv.1
  have hr2 : 0 ≤ y ∧ y ≤ 3000 := hv.2
  have hsum := exp_sum hv
  have e5 := expG_yes hv
  have hj := rat_j1 b hb
  have w3 : wrap64 (x + n + (y - n)) = x + y := (w64 (x := x + n + (y - n)) (by omega) (by omega)).trans (by omega)
  have w4 : wrap64 (x + y) = x + y := w64 (by omega) (by omega)
  have w5 : wrap64 (expG x y + expG y x) = 1000 := by rw [hsum]; exact w64 (by omega) (by omega)
  apply ev_succ
  simp only [laws_FnRatings.j0]
  refine ev_ifp (w3.trans w4.symm) (ev_ifn ?_ (ev_ifp (by simp) (ev_bindc (impl_Expected_eq y x) (ev_ifp w5 (ev_ifn (by omega) (ev_ifn (by omega) (ev_ifn (by omega) (ev_ifn (by omega) ?_))))))))
  · have q1 : expG x y ≥ 0 := by omega
    simp [q1]
  · cases w
    · have := hx.2.2.2.2.2 rfl
      exact ev_ifn (by simp) (ev_ifn (by omega) hj)
    · have := hx.2.2.2.2.1 rfl
      exact ev_ifp rfl (ev_ifn (by omega) hj)
theorem rat_not (b : List Int) (hb : b.length ≤ 1048576) (x y : Int) (w : Bool) (v : Bool) (hvv : v = false) : Ev (fun k => laws_FnRatings.j0 k b x y w x y (-1) v) true := by
  subst hvv
  have hj := rat_j1 b hb
  apply ev_succ
  simp only [laws_FnRatings.j0, bne_self_eq_false]
  exact ev_ifp (by simp) (ev_ifn (by simp) (ev_ifn (by simp) (ev_ifp (by simp) hj)))
theorem FnRatings : laws_FnRatings.Pure := by
  intro b hl _ _
  apply Ev.rounds
  unfold laws_FnRatings.f laws_big.f
  by_cases h : (b.length : Int) > 1048576
  · exact ev_bindc rfl (ev_ifp (decide_eq_true h) (Ev.now _))
  refine ev_bindc rfl (ev_ifn (by simpa using h) ?_)
  have hb : b.length ≤ 1048576 := by omega
  obtain ⟨x, y, w, hd, x0, x1, y0, y1⟩ := drawAD_ok b hb
  refine Ev.bind hd ?_
  by_cases hv : ratG x ∧ ratG y
  · have hx := exc_ok w hv
    have hr1 : 0 ≤ x ∧ x ≤ 3000 := hv.1
    have hr2 : 0 ≤ y ∧ y ≤ 3000 := hv.2
    have ha := after_eq x y w
    generalize excG x y w = n at hx ha
    rw [w64 (x := x + n) (by omega) (by omega), w64 (x := y - n) (by omega) (by omega)] at ha
    have hj := rat_yes b hb x y n w hv hx _ (decide_eq_true hr2.2)
    refine ev_bindc ha (ev_bindc (impl_Expected_eq x y) ?_)
    exact ev_ifp (show x ≥ 0 by omega) (ev_ifp (show x ≤ 3000 by omega) (ev_ifp (show y ≥ 0 by omega) hj))
  · have ha := after_eq x y w
    rw [exc_no w hv, w64 (x := x + 0) (by omega) (by omega), w64 (x := y - 0) (by omega) (by omega)] at ha
    have a1 : x + 0 = x := by omega
    have a2 : y - 0 = y := by omega
    rw [a1, a2] at ha
    have e5 := impl_Expected_eq x y
    rw [expG_no hv] at e5
    have hj := rat_not b hb x y w false rfl
    refine ev_bindc ha (ev_bindc e5 ?_)
    by_cases c1 : x ≥ 0
    · refine ev_ifp c1 ?_
      by_cases c2 : x ≤ 3000
      · refine ev_ifp c2 ?_
        by_cases c3 : y ≥ 0
        · have c4 : ¬ y ≤ 3000 := fun c4 => hv ⟨⟨c1, c2⟩, ⟨c3, c4⟩⟩
          exact ev_ifp c3 (rat_not b hb x y w _ (decide_eq_false c4))
        · exact ev_ifn c3 hj
      · exact ev_ifn c2 hj
    · exact ev_ifn c1 hj

end Go.Proofs.Ytefcdlkmifieeaa.Pure
