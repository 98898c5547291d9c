/- In a season all meet all, each once, and nobody rests: the law answers true at whatever bytes.
No condition: for every input. -/
import Derived.Test.YtfcidjlnokhkjaaQFnSeasonsx6
set_option linter.unusedVariables false
set_option linter.unusedSimpArgs false
set_option maxHeartbeats 1000000
namespace Go.Proofs.Ytfcidjlnokhkjaa.Pure
open Go.RowKit Go.Proofs.Ytfcidjlnokhkjaa.QFnSeasons Go.Proofs.YtfcidjlnokhkjaaW.PrintWords Go.Proofs.YtfcidjlnokhkjaaW.PrintLast

theorem w64 {x : Int} (h1 : -9223372036854775808 ≤ x) (h2 : x ≤ 9223372036854775807) : wrap64 x = x := by unfold wrap64; omega
theorem wf64 {x : Int} (h : (Lit.int .i64 x).wf = true) : -9223372036854775808 ≤ x ∧ x ≤ 9223372036854775807 := by
  simp only [Lit.wf, Bool.and_eq_true, decide_eq_true_eq] at h
  have e1 : IntKind.min .i64 = -9223372036854775808 := by decide
  have e2 : IntKind.max .i64 = 9223372036854775807 := by decide
  omega
theorem wfu8 {x : Int} (h : (Lit.int .u8 x).wf = true) : 0 ≤ x ∧ x ≤ 255 := by
  simp only [Lit.wf, Bool.and_eq_true, decide_eq_true_eq] at h
  have e1 : IntKind.min .u8 = 0 := by decide
  have e2 : IntKind.max .u8 = 255 := by decide
  omega
theorem ev_succ {α : Type} {g : Nat → Option α} {r : α} (h : Ev (fun k => g (k + 1)) r) : Ev g r := Ev.step (fun _ => rfl) h
theorem ev_some {α : Type} {r s : α} (h : r = s) : Ev (fun _ => some r) s := by subst h; exact Ev.now r
theorem ev_fix {α : Type} {o : Option α} {r : α} (h : o = some r) : Ev (fun _ => o) r := ⟨0, fun _ _ => h⟩
theorem ev_at {α : Type} {g : Nat → Option α} {r : α} (n : Nat) (h : ∀ k, g (k + n) = some r) : Ev g r :=
  ⟨n, fun k hk => by obtain ⟨m, rfl⟩ : ∃ m, k = m + n := ⟨k - n, by omega⟩; exact h m⟩
theorem ev_bindc {α β : Type} {o : Option α} {f : Nat → α → Option β} {a : α} {r : β} (h : o = some a) (k : Ev (fun n => f n a) r) : Ev (fun n => o.bind (f n)) r := by
  subst h; exact k
theorem ev_ifp {α : Type} {c : Prop} [Decidable c] {a b : Nat → Option α} {r : α} (h : c) (k : Ev a r) : Ev (fun n => if c then a n else b n) r := by
  simpa only [if_pos h] using k
theorem ev_ifn {α : Type} {c : Prop} [Decidable c] {a b : Nat → Option α} {r : α} (h : ¬ c) (k : Ev b r) : Ev (fun n => if c then a n else b n) r := by
  simpa only [if_neg h] using k
theorem drop_rd (xs : List Int) (i : Nat) (h : i < xs.length) : xs.drop i = rd xs (i : Int) :: xs.drop (i + 1) := by
  rw [List.drop_eq_getElem_cons h]
  simp [rd, List.getD_eq_getElem?_getD, h]
theorem spec_l1In_eq (a b c : Int) : spec_l1In.f a b c = some (decide (b ≤ a ∧ a ≤ c)) := by
  unfold spec_l1In.f
  by_cases h : a ≥ b
  · have h' : b ≤ a := h
    simp [h']
  · have h' : ¬ b ≤ a := h
    simp [h']
theorem impl_InRange_eq (a b c : Int) : impl_InRange.f a b c = some (decide (b ≤ a ∧ a ≤ c)) := by
  unfold impl_InRange.f
  by_cases h : b ≤ a <;> simp [h]
theorem mx_eq (a b : Int) : mx a b = max a b := by unfold mx; omega
theorem mn_eq (a b : Int) : mn a b = min a b := by unfold mn; omega
theorem and255 (a : Int) : 0 ≤ Go.bits .and .i64 a 255 ∧ Go.bits .and .i64 a 255 ≤ 255 := by
  have hle : (BitVec.ofInt 64 a &&& BitVec.ofInt 64 255).toNat ≤ 255 := by
    rw [BitVec.toNat_and]
    exact Nat.le_trans Nat.and_le_right (by decide)
  show 0 ≤ IntKind.i64.wrap ((BitVec.ofInt 64 a &&& BitVec.ofInt 64 255).toNat : Int) ∧ IntKind.i64.wrap ((BitVec.ofInt 64 a &&& BitVec.ofInt 64 255).toNat : Int) ≤ 255
  rw [IntKind.wrap_i64]
  omega
def CurOk (b : List Int) (i : Int) : Prop := 0 ≤ i ∧ i ≤ b.length ∧ b.length ≤ 1048576
theorem curOk0 {b : List Int} (hb : b.length ≤ 1048576) : CurOk b 0 := ⟨by omega, by omega, hb⟩
theorem l1Byte_ok {b : List Int} {i : Int} (h : Int) (hc : CurOk b i) : ∃ x i' h', spec_l1Byte.f b i h = some (x, i', h') ∧ 0 ≤ x ∧ x ≤ 255 ∧ CurOk b i' := by
  obtain ⟨h0, h1, h2⟩ := hc
  unfold spec_l1Byte.f
  by_cases hi : i < (b.length : Int)
  · rw [if_pos hi, if_pos h0]
    exact ⟨_, _, _, rfl, (and255 _).1, (and255 _).2, by rw [w64 (by omega) (by omega)]; exact ⟨by omega, by omega, h2⟩⟩
  · rw [if_neg hi]
    exact ⟨_, _, _, rfl, (and255 _).1, (and255 _).2, h0, h1, h2⟩
theorem l1Below_ok {b : List Int} {i : Int} (h n : Int) (hc : CurOk b i) : ∃ x i' h', spec_l1Below.f b i h n = some (x, i', h') ∧ 0 ≤ x ∧ (0 < n → x < n) ∧ (n ≤ 0 → x = 0) ∧ CurOk b i' := by
  unfold spec_l1Below.f
  by_cases h1 : n ≤ 0
  · rw [if_pos h1]
    exact ⟨0, i, h, rfl, by omega, by omega, fun _ => rfl, hc⟩
  · rw [if_neg h1]
    have hn : n ≠ 0 := by omega
    by_cases h2 : n ≤ 256
    · rw [if_pos h2]
      obtain ⟨x, i', h', e, hx0, hx1, hc'⟩ := l1Byte_ok h hc
      rw [e]
      simp only [Option.bind_some, if_neg hn]
      exact ⟨_, _, _, rfl, Int.tmod_nonneg _ hx0, fun hp => Int.tmod_lt_of_pos _ hp, fun hq => absurd hq h1, hc'⟩
    · rw [if_neg h2]
      obtain ⟨x, i1, g1, e1, hx0, hx1, c1⟩ := l1Byte_ok h hc
      obtain ⟨y, i2, g2, e2, hy0, hy1, c2⟩ := l1Byte_ok g1 c1
      obtain ⟨z, i3, g3, e3, hz0, hz1, c3⟩ := l1Byte_ok g2 c2
      simp only [e1, e2, e3, Option.bind_some, if_neg hn]
      refine ⟨_, _, _, rfl, Int.tmod_nonneg _ ?_, fun hp => Int.tmod_lt_of_pos _ hp, fun hq => absurd hq h1, c3⟩
      unfold wrap64
      omega
theorem l1New_loop (b : List Int) (hb : b.length ≤ 1048576) (d : Nat) : ∀ (i : Nat) (h : Int), i + d = b.length → ∃ h', Ev (fun k => spec_l1New.l0 k b h (i : Int)) (b, 0, h') := by
  induction d with
  | zero =>
    intro i h hd
    refine ⟨h, ?_⟩
    apply ev_succ
    simp only [spec_l1New.l0]
    refine ev_ifn (by omega) ?_
    exact Ev.now _
  | succ d ih =>
    intro i h hd
    by_cases h4 : (i : Int) < 4000
    · obtain ⟨h', e⟩ := ih (i + 1) (Go.bits .and .i64 (wrap64 ((wrap64 ((wrap64 (h * 137)) + (wrap64 (rd b (i : Int))))) + 11)) 1073741823) (by omega)
      refine ⟨h', ?_⟩
      apply ev_succ
      simp only [spec_l1New.l0]
      refine ev_ifp (by omega) (ev_ifp h4 (ev_ifp (by omega) ?_))
      rw [w64 (x := (i : Int) + 1) (by omega) (by omega)]
      simpa using e
    · refine ⟨h, ?_⟩
      apply ev_succ
      simp only [spec_l1New.l0]
      refine ev_ifp (by omega) (ev_ifn h4 ?_)
      exact Ev.now _
theorem l1New_ok (b : List Int) (hb : b.length ≤ 1048576) : ∃ h, Ev (fun k => spec_l1New.f k b) (b, 0, h) := by
  unfold spec_l1New.f
  exact l1New_loop b hb b.length 0 _ (by omega)
theorem rd_mem (l : List Int) (j : Int) (h0 : 0 ≤ j) (h1 : j < l.length) : rd l j ∈ l := by
  unfold rd
  have h : j.toNat < l.length := by omega
  simp [List.getD_eq_getElem?_getD, h]
theorem l1Int_ok {b : List Int} {i : Int} (h : Int) (l : List Int) (hl : 0 < l.length) (hc : CurOk b i) : ∃ v i' h', spec_l1Int.f b i h l = some (v, i', h') ∧ v ∈ l ∧ CurOk b i' := by
  obtain ⟨x, i', h', e, h0, h1, _, c⟩ := l1Below_ok h (l.length : Int) hc
  unfold spec_l1Int.f
  rw [e]
  simp only [Option.bind_some]
  rw [if_pos h0, if_pos (h1 (by omega))]
  exact ⟨_, _, _, rfl, rd_mem l x h0 (h1 (by omega)), c⟩
theorem contains_loop (xs : List Int) (v : Int) (hx : xs.length ≤ 1048576) (d : Nat) : ∀ i : Nat, i + d = xs.length → Ev (fun k => laws_contains.l0 k xs v (i : Int)) (decide (v ∈ xs.drop i)) := by
  induction d with
  | zero =>
    intro i hd
    apply ev_succ
    simp only [laws_contains.l0]
    rw [List.drop_eq_nil_of_le (by omega)]
    exact ev_ifn (by omega) (ev_some (by simp))
  | succ d ih =>
    intro i hd
    apply ev_succ
    have e1 : wrap64 ((i : Int) + 1) = ((i + 1 : Nat) : Int) := by rw [w64 (by omega) (by omega)]; simp
    simp only [laws_contains.l0, e1]
    refine ev_ifp (by omega) (ev_ifp (by omega) ?_)
    rw [drop_rd xs i (by omega)]
    by_cases h : rd xs (i : Int) = v
    · exact ev_ifp h (ev_some (by simp [h]))
    · refine ev_ifn h ?_
      have h' : ¬ v = rd xs (i : Int) := fun e => h e.symm
      simpa [h'] using ih (i + 1) (by omega)
theorem contains_ev (xs : List Int) (v : Int) (hx : xs.length ≤ 1048576) : Ev (fun k => laws_contains.f k xs v) (decide (v ∈ xs)) := by
  unfold laws_contains.f
  simpa using contains_loop xs v hx xs.length 0 (by omega)
def roundR (n k : Int) : List (List Int) := (impl_SeasonRound.f 60 n k).getD []
def pairOk (p : List Int) : Bool := match p with
  | [x, y] => decide (x ≤ y)
  | _ => false
def roundOk (n k : Int) : Bool := match spec_SeasonRound.f 60 n k, impl_SeasonRound.f 60 n k with
  | some r, some r' => r == r' && r.all pairOk && decide (r.length ≤ 20)
  | _, _ => false
theorem all_rounds : ((List.range 19).all fun j => (List.range 21).all fun n => decide (n < 2) || decide (n % 2 = 1) || decide (n ≤ j + 1) || roundOk (n : Int) (j : Int)) = true := by decide +kernel
theorem round_at (n : Int) (h : 2 ≤ n ∧ n ≤ 20) (he : n % 2 = 0) (j : Nat) (hj : (j : Int) < n - 1) : roundOk n j = true := by
  have h1 := List.all_eq_true.mp all_rounds j (by rw [List.mem_range]; omega)
  have h2 := List.all_eq_true.mp h1 n.toNat (by rw [List.mem_range]; omega)
  simp only [Bool.or_eq_true, decide_eq_true_eq] at h2
  rw [show ((n.toNat : Nat) : Int) = n by omega] at h2
  rcases h2 with ((h2 | h2) | h2) | h2
  · omega
  · omega
  · omega
  · exact h2
theorem round_ev (n : Int) (h : 2 ≤ n ∧ n ≤ 20) (he : n % 2 = 0) (j : Nat) (hj : (j : Int) < n - 1) : Ev (fun k => spec_SeasonRound.f k n j) (roundR n j) ∧ Ev (fun k => impl_SeasonRound.f k n j) (roundR n j) ∧ (roundR n j).all pairOk = true ∧ (roundR n j).length ≤ 20 := by
  have ho := round_at n h he j hj
  unfold roundOk at ho
  split at ho
  · next r r' e1 e2 =>
    simp only [Bool.and_eq_true, beq_iff_eq, decide_eq_true_eq] at ho
    obtain ⟨⟨rfl, h2⟩, h3⟩ := ho
    have e : roundR n j = r := by unfold roundR; rw [e2]; rfl
    rw [e]
    exact ⟨Ev.of (fun k => spec_SeasonRound.mono n j k) e1, Ev.of (fun k => impl_SeasonRound.mono n j k) e2, h2, h3⟩
  · cases ho
def roundsG (n : Int) (m : Nat) : List (List (List Int)) := (List.range m).map fun (j : Nat) => roundR n (j : Int)
theorem roundsG_len (n : Int) (m : Nat) : (roundsG n m).length = m := by simp [roundsG]
theorem roundsG_succ (n : Int) (m : Nat) : roundsG n (m + 1) = roundsG n m ++ [roundR n (m : Int)] := by
  simp [roundsG, List.range_succ]
theorem roundsG_rd (n : Int) (m j : Nat) (hj : j < m) : rd_L2 (roundsG n m) (j : Int) = roundR n (j : Int) := by
  simp [rd_L2, roundsG, List.getD_eq_getElem?_getD, hj]
theorem all_loop (n : Int) (h : 2 ≤ n ∧ n ≤ 20) (he : n % 2 = 0) (d : Nat) : ∀ j : Nat, (j : Int) + d = n - 1 → Ev (fun k => impl_AllRounds.l0 k n (roundsG n j) (n - 1) (j : Int)) (roundsG n (n - 1).toNat) := by
  induction d with
  | zero =>
    intro j hj
    apply ev_succ
    simp only [impl_AllRounds.l0]
    refine ev_ifn (by omega) (ev_some ?_)
    rw [show j = (n - 1).toNat by omega]
  | succ d ih =>
    intro j hj
    have e1 : wrap64 ((j : Int) + 1) = ((j + 1 : Nat) : Int) := by rw [w64 (by omega) (by omega)]; simp
    obtain ⟨_, h2, _, _⟩ := round_ev n h he j (by omega)
    have hl := roundsG_len n j
    have ih' := ih (j + 1) (by omega)
    rw [roundsG_succ] at ih'
    apply ev_succ
    simp only [impl_AllRounds.l0, e1]
    exact ev_ifp (by omega) (Ev.bind h2 (ev_ifp (by omega) ih'))
theorem spec_all_loop (n : Int) (h : 2 ≤ n ∧ n ≤ 20) (he : n % 2 = 0) (d : Nat) : ∀ j : Nat, (j : Int) + d = n - 1 → Ev (fun k => spec_AllRounds.l0 k n (roundsG n j) (j : Int)) (roundsG n (n - 1).toNat) := by
  have w0 : wrap64 (n - 1) = n - 1 := w64 (by omega) (by omega)
  induction d with
  | zero =>
    intro j hj
    apply ev_succ
    simp only [spec_AllRounds.l0, w0]
    refine ev_ifn (by omega) (ev_some ?_)
    rw [show j = (n - 1).toNat by omega]
  | succ d ih =>
    intro j hj
    have e1 : wrap64 ((j : Int) + 1) = ((j + 1 : Nat) : Int) := by rw [w64 (by omega) (by omega)]; simp
    obtain ⟨h1, _, _, _⟩ := round_ev n h he j (by omega)
    have hl := roundsG_len n j
    have ih' := ih (j + 1) (by omega)
    rw [roundsG_succ] at ih'
    apply ev_succ
    simp only [spec_AllRounds.l0, e1, w0]
    exact ev_ifp (by omega) (Ev.bind h1 (ev_ifp (by omega) ih'))
theorem pair_of {r : List (List Int)} (h : r.all pairOk = true) (i : Nat) (hi : i < r.length) : ∃ x y, rd_L1 r (i : Int) = [x, y] ∧ x ≤ y := by
  have e : rd_L1 r (i : Int) = r[i] := by simp [rd_L1, List.getD_eq_getElem?_getD, hi]
  have h1 := List.all_eq_true.mp h r[i] (List.getElem_mem hi)
  rw [e]
  unfold pairOk at h1
  split at h1
  · next x y e2 => exact ⟨x, y, e2, by simpa using h1⟩
  · cases h1
theorem drop_L1 (xs : List (List Int)) (i : Nat) (h : i < xs.length) : xs.drop i = rd_L1 xs (i : Int) :: xs.drop (i + 1) := by
  rw [List.drop_eq_getElem_cons h]
  simp [rd_L1, List.getD_eq_getElem?_getD, h]
def hasG (a b : Int) (r : List (List Int)) : Bool := r.any fun p => p == [mn a b, mx a b]
theorem equal2_ev (x y u v : Int) : Ev (fun k => slices_Equal_int_int.f k [x, y] [u, v]) ([x, y] == [u, v]) := by
  unfold slices_Equal_int_int.f
  refine ev_ifp rfl ?_
  have w0 : wrap64 (0 + 1) = 1 := w64 (by omega) (by omega)
  have w1 : wrap64 (1 + 1) = 2 := w64 (by omega) (by omega)
  have x0 : rd [x, y] 0 = x := rfl
  have y0 : rd [x, y] 1 = y := rfl
  have u0 : rd [u, v] 0 = u := rfl
  have v0 : rd [u, v] 1 = v := rfl
  have l0 : (([x, y] : List Int).length : Int) = 2 := rfl
  have l1 : (([u, v] : List Int).length : Int) = 2 := rfl
  apply ev_succ
  simp only [slices_Equal_int_int.l0, w0, x0, u0, l0, l1]
  refine ev_ifp (by omega) (ev_ifp (by omega) (ev_ifp (by omega) (ev_ifp (by omega) ?_)))
  by_cases h : x = u
  · refine ev_ifp h ?_
    apply ev_succ
    simp only [slices_Equal_int_int.l0, w1, y0, v0, l0, l1]
    refine ev_ifp (by omega) (ev_ifp (by omega) (ev_ifp (by omega) (ev_ifp (by omega) ?_)))
    by_cases h2 : y = v
    · refine ev_ifp h2 ?_
      apply ev_succ
      simp only [slices_Equal_int_int.l0]
      exact ev_ifn (by omega) (ev_some (by simp [h, h2]))
    · exact ev_ifn h2 (ev_some (by simp [h2]))
  · exact ev_ifn h (ev_some (by simp [h]))
def meetG (n a b : Int) : Nat → Int → Int
  | 0, _ => -1
  | d + 1, j => if hasG a b (roundR n j) = true then j else meetG n a b d (j + 1)
theorem impl_rw_l1 (n a b : Int) (h : 2 ≤ n ∧ n ≤ 20) (m j : Nat) (r : List (List Int)) (hr : r.all pairOk = true) (hl : r.length ≤ 20) (v : Int) (R : Ev (fun k => impl_RoundWith.l0 k a b (roundsG n m) (m : Int) ((j + 1 : Nat) : Int)) v) (hj : (j : Int) < 100) (d : Nat) :
    ∀ i : Nat, i + d = r.length → Ev (fun k => impl_RoundWith.l1 k a b (j : Int) (roundsG n m) (m : Int) (j : Int) r (r.length : Int) (i : Int)) (if hasG a b (r.drop i) = true then (j : Int) else v) := by
  have e2 : wrap64 ((j : Int) + 1) = ((j + 1 : Nat) : Int) := by rw [w64 (by omega) (by omega)]; simp
  induction d with
  | zero =>
    intro i hd
    apply ev_succ
    simp only [impl_RoundWith.l1, e2]
    rw [List.drop_eq_nil_of_le (by omega), if_neg (by simp [hasG])]
    exact ev_ifn (by omega) R
  | succ d ih =>
    intro i hd
    have e1 : wrap64 ((i : Int) + 1) = ((i + 1 : Nat) : Int) := by rw [w64 (by omega) (by omega)]; simp
    obtain ⟨x, y, hp, hxy⟩ := pair_of hr i (by omega)
    apply ev_succ
    simp only [impl_RoundWith.l1, e1, impl_couple.f, Option.bind_some]
    rw [drop_L1 r i (by omega), hp]
    refine ev_ifp (by omega) (ev_ifp (by omega) (ev_ifp (by omega) (Ev.bind (equal2_ev x y _ _) ?_)))
    by_cases hh : ([x, y] == [mn a b, mx a b]) = true
    · rw [if_pos (by simp only [hasG, List.any_cons, hh, Bool.true_or])]
      exact ev_ifp hh (Ev.now _)
    · refine ev_ifn hh ?_
      have : hasG a b ([x, y] :: r.drop (i + 1)) = hasG a b (r.drop (i + 1)) := by
        simp only [hasG, List.any_cons, Bool.eq_false_iff.mpr hh, Bool.false_or]
      rw [this]
      exact ih (i + 1) (by omega)
theorem impl_rw_l0 (n a b : Int) (h : 2 ≤ n ∧ n ≤ 20) (he : n % 2 = 0) (d : Nat) : ∀ j : Nat, (j : Int) + d = n - 1 → Ev (fun k => impl_RoundWith.l0 k a b (roundsG n (n - 1).toNat) (((n - 1).toNat : Nat) : Int) (j : Int)) (meetG n a b d j) := by
  have hl := roundsG_len n (n - 1).toNat
  induction d with
  | zero =>
    intro j hj
    apply ev_succ
    simp only [impl_RoundWith.l0]
    exact ev_ifn (by omega) (Ev.now _)
  | succ d ih =>
    intro j hj
    obtain ⟨_, _, h3, h4⟩ := round_ev n h he j (by omega)
    have ih' := ih (j + 1) (by omega)
    have := impl_rw_l1 n a b h (n - 1).toNat j (roundR n j) h3 h4 _ ih' (by omega) (roundR n j).length 0 (by omega)
    apply ev_succ
    simp only [impl_RoundWith.l0]
    refine ev_ifp (by omega) (ev_ifp (by omega) (ev_ifp (by omega) ?_))
    rw [roundsG_rd n _ j (by omega)]
    unfold meetG
    simpa using this
theorem all_ev (n : Int) : ∃ R, Ev (fun k => spec_AllRounds.f k n) R ∧ Ev (fun k => impl_AllRounds.f k n) R ∧ (((2 ≤ n ∧ n ≤ 20) ∧ n % 2 = 0) ∧ R = roundsG n (n - 1).toNat ∨ ¬ ((2 ≤ n ∧ n ≤ 20) ∧ n % 2 = 0) ∧ R = []) := by
  have tm : Int.tmod n 2 = 0 ↔ n % 2 = 0 := by
    rw [Int.tmod_eq_emod]
    split <;> omega
  by_cases h1 : (2 ≤ n ∧ n ≤ 20) ∧ n % 2 = 0
  · have hw : wrap64 (n - 1) = n - 1 := w64 (by omega) (by omega)
    have h2 : Int.tmod n 2 = 0 := tm.mpr h1.2
    refine ⟨roundsG n (n - 1).toNat, ?_, ?_, .inl ⟨h1, rfl⟩⟩
    · have e : spec_l31Ok.f n = some true := by
        unfold spec_l31Ok.f
        rw [spec_l1In_eq, decide_eq_true h1.1]
        simp [h2]
      simp only [spec_AllRounds.f, e, Option.bind_some]
      exact ev_ifp trivial (spec_all_loop n h1.1 h1.2 (n - 1).toNat 0 (by omega))
    · have e : impl_isSeason.f n = some true := by
        unfold impl_isSeason.f
        rw [impl_InRange_eq, decide_eq_true h1.1]
        simp [h2]
      simp only [impl_AllRounds.f, e, Option.bind_some, hw]
      exact ev_ifp trivial (all_loop n h1.1 h1.2 (n - 1).toNat 0 (by omega))
  · refine ⟨[], ?_, ?_, .inr ⟨h1, rfl⟩⟩
    · have e : spec_l31Ok.f n = some false := by
        unfold spec_l31Ok.f
        rw [spec_l1In_eq]
        by_cases h3 : 2 ≤ n ∧ n ≤ 20
        · have h4 : ¬ Int.tmod n 2 = 0 := fun e => h1 ⟨h3, tm.mp e⟩
          simp [h3, h4]
        · simp [h3]
      simp only [spec_AllRounds.f, e, Option.bind_some]
      exact ev_ifn (by simp) (Ev.now _)
    · have e : impl_isSeason.f n = some false := by
        unfold impl_isSeason.f
        rw [impl_InRange_eq]
        by_cases h3 : 2 ≤ n ∧ n ≤ 20
        · have h4 : ¬ Int.tmod n 2 = 0 := fun e => h1 ⟨h3, tm.mp e⟩
          simp [h3, h4]
        · simp [h3]
      simp only [impl_AllRounds.f, e, Option.bind_some]
      exact ev_ifn (by simp) (Ev.now _)
theorem mn_comm (a b : Int) : mn b a = mn a b := by unfold mn; omega
theorem mx_comm (a b : Int) : mx b a = mx a b := by unfold mx; omega
theorem hasG_comm (a b : Int) (r : List (List Int)) : hasG b a r = hasG a b r := by
  unfold hasG
  rw [mn_comm, mx_comm]
theorem meetG_comm (n a b : Int) (d : Nat) : ∀ j : Int, meetG n b a d j = meetG n a b d j := by
  induction d with
  | zero => intro j; rfl
  | succ d ih =>
    intro j
    unfold meetG
    rw [hasG_comm, ih]
theorem meetG_hit (n a b : Int) (d : Nat) : ∀ j : Nat, (j : Int) + d = n - 1 → meetG n a b d j ≥ 0 → ∃ i : Nat, meetG n a b d j = (i : Int) ∧ (i : Int) < n - 1 ∧ hasG a b (roundR n i) = true := by
  induction d with
  | zero =>
    intro j _ h
    unfold meetG at h
    omega
  | succ d ih =>
    intro j hj h
    unfold meetG at h ⊢
    by_cases hh : hasG a b (roundR n j) = true
    · rw [if_pos hh]
      exact ⟨j, rfl, by omega, hh⟩
    · rw [if_neg hh] at h ⊢
      exact ih (j + 1) (by omega) h
theorem rw_ev (n a b : Int) : ∃ v, Ev (fun k => impl_RoundWith.f k n a b) v ∧ Ev (fun k => impl_RoundWith.f k n b a) v ∧ (v ≥ 0 → ∃ r, Ev (fun k => impl_SeasonRound.f k n v) r ∧ hasG a b r = true ∧ r.all pairOk = true ∧ r.length ≤ 20) := by
  by_cases hab : a = b
  · refine ⟨-1, ?_, ?_, fun h => by omega⟩
    · unfold impl_RoundWith.f
      exact ev_ifp hab (Ev.now _)
    · unfold impl_RoundWith.f
      exact ev_ifp hab.symm (Ev.now _)
  · obtain ⟨R, _, hR, hc⟩ := all_ev n
    rcases hc with ⟨⟨h1, h2⟩, rfl⟩ | ⟨_, rfl⟩
    · have i1 := impl_rw_l0 n a b h1 h2 (n - 1).toNat 0 (by omega)
      have i2 := impl_rw_l0 n b a h1 h2 (n - 1).toNat 0 (by omega)
      rw [meetG_comm] at i2
      refine ⟨meetG n a b (n - 1).toNat 0, ?_, ?_, fun h => ?_⟩
      · unfold impl_RoundWith.f
        refine ev_ifn hab (Ev.bind hR ?_)
        rw [roundsG_len]
        simpa using i1
      · unfold impl_RoundWith.f
        refine ev_ifn (fun e => hab e.symm) (Ev.bind hR ?_)
        rw [roundsG_len]
        simpa using i2
      · obtain ⟨i, e, hi, hh⟩ := meetG_hit n a b (n - 1).toNat 0 (by omega) (by simpa using h)
        obtain ⟨_, g2, g3, g4⟩ := round_ev n h1 h2 i hi
        refine ⟨roundR n i, ?_, hh, g3, g4⟩
        have e' : meetG n a b (n - 1).toNat 0 = (i : Int) := by simpa using e
        rw [e']
        exact g2
    · have N : ∀ x y : Int, Ev (fun k => impl_RoundWith.l0 k x y ([] : List (List (List Int))) (([] : List (List (List Int))).length : Int) 0) (-1) := fun x y => by
        apply ev_succ
        simp only [impl_RoundWith.l0]
        exact ev_ifn (by simp) (Ev.now _)
      refine ⟨-1, ?_, ?_, fun h => by omega⟩
      · unfold impl_RoundWith.f
        exact ev_ifn hab (Ev.bind hR (N a b))
      · unfold impl_RoundWith.f
        exact ev_ifn (fun e => hab e.symm) (Ev.bind hR (N b a))
theorem meet_tab : (([2, 4, 6, 8, 20] : List Nat).all fun n => (impl_MeetOnce.f 500 (roundsG (n : Int) (n - 1)) (n : Int) == some true) && (List.range (n - 1)).all fun j => impl_RestOf.f 100 (roundR (n : Int) (j : Int)) (n : Int) == some []) = true := by decide +kernel
theorem draw_tab : (([2, 4, 6, 8] : List Nat).all fun n => (impl_MeetOnce.f 500 ((roundsG (n : Int) (n - 1)).drop 1) (n : Int)).isSome && (impl_MeetOnce.f 500 ((roundsG (n : Int) (n - 1)).set 0 ((roundsG (n : Int) (n - 1)).getD 0 [] ++ [[0, 1]])) (n : Int)).isSome && (impl_MeetOnce.f 500 (roundsG (n : Int) (n - 1)) 21).isSome && (impl_MeetOnce.f 500 (roundsG (n : Int) (n - 1)) (n : Int)).isSome && decide (((roundsG (n : Int) (n - 1)).getD 0 []).length < 100)) = true := by decide +kernel
theorem meet_some {xs : List (List (List Int))} {n : Int} (h : (impl_MeetOnce.f 500 xs n).isSome = true) : ∃ v, Ev (fun k => impl_MeetOnce.f k xs n) v := by
  obtain ⟨v, hv⟩ := Option.isSome_iff_exists.mp h
  exact ⟨v, Ev.of (fun k => impl_MeetOnce.mono xs n k) hv⟩
theorem draw_meet (b : List Int) (hb : b.length ≤ 1048576) : ∃ R y v, Ev (fun k => spec_DrawMeetOnce.f k b) (R, y) ∧ y ≥ 2 ∧ Ev (fun k => impl_MeetOnce.f k R y) v := by
  obtain ⟨g0, hN⟩ := l1New_ok b hb
  obtain ⟨n, i1, g1, e1, hn, c1⟩ := l1Int_ok (b := b) (i := 0) g0 [2, 4, 6, 8, 3] (by simp) (curOk0 hb)
  obtain ⟨R, hS, _, hc⟩ := all_ev n
  obtain ⟨v, i2, g2, e2, v0, v1, _, c2⟩ := l1Below_ok g1 5 c1
  rcases hc with ⟨⟨h1, h2⟩, rfl⟩ | ⟨hbad, rfl⟩
  · have hm : ∃ m : Nat, m ∈ ([2, 4, 6, 8] : List Nat) ∧ n = (m : Int) := by
      simp only [List.mem_cons, List.not_mem_nil, or_false] at hn
      rcases hn with rfl | rfl | rfl | rfl | rfl
      · exact ⟨2, by simp, rfl⟩
      · exact ⟨4, by simp, rfl⟩
      · exact ⟨6, by simp, rfl⟩
      · exact ⟨8, by simp, rfl⟩
      · omega
    obtain ⟨m, hm, rfl⟩ := hm
    have ht := List.all_eq_true.mp draw_tab m hm
    simp only [Bool.and_eq_true, decide_eq_true_eq] at ht
    obtain ⟨⟨⟨⟨t0, t1⟩, t2⟩, t3⟩, t4⟩ := ht
    have em : ((m : Int) - 1).toNat = m - 1 := by omega
    have hl := roundsG_len (m : Int) (m - 1)
    rw [em] at hS
    have hs : Ev (fun k => spec_l1Int.f b 0 g0 [2, 4, 6, 8, 3]) ((m : Int), i1, g1) := ev_fix e1
    have hB : Ev (fun k => spec_l1Below.f b i1 g1 5) (v, i2, g2) := ev_fix e2
    have mk : ∀ (X : List (List (List Int))) (y : Int), y ≥ 2 → (impl_MeetOnce.f 500 X y).isSome = true →
        Ev (fun k => if v = 0 then (if 1 ≤ ((roundsG (m : Int) (m - 1)).length : Int) then (some (((roundsG (m : Int) (m - 1)).drop (1 : Int).toNat), (m : Int))) else (none)) else (if v = 1 then (if ((roundsG (m : Int) (m - 1)).getD 0 []).length < 1073741824 then (some ((roundsG (m : Int) (m - 1)).set 0 ((roundsG (m : Int) (m - 1)).getD 0 [] ++ [[0, 1]]), (m : Int))) else none) else (if v = 2 then (some (roundsG (m : Int) (m - 1), 21)) else (some (roundsG (m : Int) (m - 1), (m : Int)))))) (X, y) →
        ∃ R y v, Ev (fun k => spec_DrawMeetOnce.f k b) (R, y) ∧ y ≥ 2 ∧ Ev (fun k => impl_MeetOnce.f k R y) v := fun X y hy hX he => by
      obtain ⟨u, hu⟩ := meet_some hX
      refine ⟨X, y, u, ?_, hy, hu⟩
      unfold spec_DrawMeetOnce.f
      exact Ev.bind hN (Ev.bind hs (Ev.bind hS (ev_ifp (by omega) (Ev.bind hB he))))
    by_cases k0 : v = 0
    · exact mk _ _ (by omega) t0 (ev_ifp k0 (ev_ifp (by omega) (Ev.now _)))
    · by_cases k1 : v = 1
      · exact mk _ _ (by omega) t1 (ev_ifn k0 (ev_ifp k1 (ev_ifp (by omega) (Ev.now _))))
      · by_cases k2 : v = 2
        · exact mk _ _ (by omega) t2 (ev_ifn k0 (ev_ifn k1 (ev_ifp k2 (Ev.now _))))
        · exact mk _ _ (by omega) t3 (ev_ifn k0 (ev_ifn k1 (ev_ifn k2 (Ev.now _))))
  · have h3 : n = 3 := by
      simp only [List.mem_cons, List.not_mem_nil, or_false] at hn
      omega
    subst h3
    obtain ⟨u, hu⟩ := meet_some (xs := []) (n := 3) (by decide +kernel)
    refine ⟨[], 3, u, ?_, by omega, hu⟩
    unfold spec_DrawMeetOnce.f
    have hs : Ev (fun k => spec_l1Int.f b 0 g0 [2, 4, 6, 8, 3]) ((3 : Int), i1, g1) := ev_fix e1
    exact Ev.bind hN (Ev.bind hs (Ev.bind hS (ev_ifn (by simp) (Ev.now _))))
theorem last_ev (b : List Int) (hb : b.length ≤ 1048576) (m x y : Int) : Ev (fun k => laws_FnSeasons.j3 k b m x y) true := by
  obtain ⟨R, n, v, hd, hn, hv⟩ := draw_meet b hb
  obtain ⟨u, h1, h2, _⟩ := rw_ev m x y
  apply ev_succ
  simp only [laws_FnSeasons.j3]
  refine Ev.bind hd (Ev.bind hv ?_)
  by_cases h : v = true
  · exact ev_ifp h (ev_ifp hn (Ev.bind h1 (Ev.bind h2 (ev_some (by simp)))))
  · exact ev_ifn h (Ev.now _)
theorem met_loop (b : List Int) (hb : b.length ≤ 1048576) (m x y : Int) (r : List (List Int)) (hr : r.all pairOk = true) (hl : r.length ≤ 20) (d : Nat) : ∀ (i : Nat) (t : Bool), i + d = r.length → (t = true ∨ hasG x y (r.drop i) = true) → Ev (fun k => laws_FnSeasons.l1 k b m x y t r (i : Int)) true := by
  induction d with
  | zero =>
    intro i t hd ht
    rw [List.drop_eq_nil_of_le (by omega)] at ht
    have ht : t = true := ht.resolve_right (by simp [hasG])
    apply ev_succ
    simp only [laws_FnSeasons.l1]
    exact ev_ifn (by omega) (ev_ifp ht (last_ev b hb m x y))
  | succ d ih =>
    intro i t hd ht
    have e1 : wrap64 ((i : Int) + 1) = ((i + 1 : Nat) : Int) := by rw [w64 (by omega) (by omega)]; simp
    apply ev_succ
    simp only [laws_FnSeasons.l1, e1]
    refine ev_ifp (by omega) ?_
    by_cases h : t = true
    · exact ev_ifp h (ih (i + 1) true (by omega) (.inl rfl))
    · have ht := ht.resolve_left h
      obtain ⟨p, q, hp, hpq⟩ := pair_of hr i (by omega)
      rw [drop_L1 r i (by omega), hp] at ht
      rw [hp]
      have hx := contains_ev [p, q] x (by simp)
      have hy := contains_ev [p, q] y (by simp)
      have hs : ([p, q] = [mn x y, mx x y]) ∨ hasG x y (r.drop (i + 1)) = true := by
        simp only [hasG, List.any_cons, Bool.or_eq_true, beq_iff_eq] at ht
        exact ht
      have inx : x ∈ [mn x y, mx x y] := by
        simp only [List.mem_cons, List.not_mem_nil, or_false]
        unfold mn mx
        omega
      have iny : y ∈ [mn x y, mx x y] := by
        simp only [List.mem_cons, List.not_mem_nil, or_false]
        unfold mn mx
        omega
      refine ev_ifn h (ev_ifp (by omega) (Ev.bind hx ?_))
      by_cases a1 : x ∈ [p, q]
      · refine ev_ifp (decide_eq_true a1) (Ev.bind hy (ih (i + 1) _ (by omega) ?_))
        rcases hs with hs | hs
        · exact .inl (decide_eq_true (by rw [hs]; exact iny))
        · exact .inr hs
      · refine ev_ifn (by simp only [decide_eq_true_eq]; exact a1) (ih (i + 1) false (by omega) (.inr ?_))
        rcases hs with hs | hs
        · exact absurd (by rw [hs]; exact inx) a1
        · exact hs
theorem draw_rw (b : List Int) (hb : b.length ≤ 1048576) : ∃ m x y, Ev (fun k => spec_DrawRoundWith.f k b) (m, x, y) := by
  obtain ⟨g0, hN⟩ := l1New_ok b hb
  obtain ⟨n, i1, g1, e1, hn, c1⟩ := l1Int_ok (b := b) (i := 0) g0 [2, 4, 6, 8, 20, 3, 0, 22, (-2)] (by simp) (curOk0 hb)
  obtain ⟨v, i2, g2, e2, _, _, _, c2⟩ := l1Below_ok g1 8 c1
  obtain ⟨w, i3, g3, e3, _, _, _, c3⟩ := l1Below_ok g2 9 c2
  have eN : spec_l31N.f b 0 g0 = some (n, i1, g1) := by
    unfold spec_l31N.f
    rw [e1]
    rfl
  refine ⟨n, v, wrap64 (w - 1), ?_⟩
  unfold spec_DrawRoundWith.f
  exact Ev.bind hN (Ev.bind (ev_fix eN) (Ev.bind (ev_fix e2) (Ev.bind (ev_fix e3) (Ev.now _))))
theorem tail_ev (b : List Int) (hb : b.length ≤ 1048576) : Ev (fun k => ((spec_DrawRoundWith.f k b).bind fun bt300 => ((impl_RoundWith.f k bt300.1 bt300.2.1 bt300.2.2).bind fun t303 => (if t303 ≥ 0 then ((impl_SeasonRound.f k bt300.1 t303).bind fun t304 => (laws_FnSeasons.l1 k b bt300.1 bt300.2.1 bt300.2.2 false t304 0)) else (laws_FnSeasons.j3 k b bt300.1 bt300.2.1 bt300.2.2))))) true := by
  obtain ⟨m, x, y, hd⟩ := draw_rw b hb
  obtain ⟨v, hv, _, hr⟩ := rw_ev m x y
  refine Ev.bind hd (Ev.bind hv ?_)
  by_cases h : v ≥ 0
  · obtain ⟨r, h1, h2, h3, h4⟩ := hr h
    exact ev_ifp h (Ev.bind h1 (met_loop b hb m x y r h3 h4 r.length 0 false (by omega) (.inr (by simpa using h2))))
  · exact ev_ifn h (last_ev b hb m x y)
theorem rest_loop (b : List Int) (hb : b.length ≤ 1048576) (n : Int) (m : Nat) (hm : m ≤ 20) (hr : ∀ j : Nat, j < m → Ev (fun k => impl_RestOf.f k (roundR n (j : Int)) n) []) (d : Nat) : ∀ j : Nat, j + d = m → Ev (fun k => laws_FnSeasons.l0 k b n (roundsG n m) (j : Int)) true := by
  have hl := roundsG_len n m
  induction d with
  | zero =>
    intro j hj
    apply ev_succ
    simp only [laws_FnSeasons.l0]
    exact ev_ifn (by omega) (tail_ev b hb)
  | succ d ih =>
    intro j hj
    have e1 : wrap64 ((j : Int) + 1) = ((j + 1 : Nat) : Int) := by rw [w64 (by omega) (by omega)]; simp
    apply ev_succ
    simp only [laws_FnSeasons.l0, e1]
    rw [roundsG_rd n m j (by omega)]
    exact ev_ifp (by omega) (ev_ifp (by omega) (Ev.bind (hr j (by omega)) (ev_ifp rfl (ih (j + 1) (by omega)))))
theorem none_ev (b : List Int) (hb : b.length ≤ 1048576) (n : Int) : Ev (fun k => laws_FnSeasons.j0 k b n [] false) true := by
  apply ev_succ
  simp only [laws_FnSeasons.j0]
  refine ev_ifn (by simp) ?_
  apply ev_succ
  simp only [laws_FnSeasons.l0]
  exact ev_ifn (by simp) (tail_ev b hb)
theorem FnSeasons : laws_FnSeasons.Pure := by
  intro b hb1 hb2 hwf
  apply Ev.rounds
  unfold laws_FnSeasons.f
  by_cases hbig : (b.length : Int) > 1048576
  · refine ev_bindc (a := true) (by unfold laws_big.f; rw [decide_eq_true hbig]) (ev_ifp rfl (Ev.now _))
  · refine ev_bindc (a := false) (by unfold laws_big.f; rw [decide_eq_false hbig]) (ev_ifn (by simp) ?_)
    have hb : b.length ≤ 1048576 := by omega
    obtain ⟨g0, hN⟩ := l1New_ok b hb
    obtain ⟨n, i1, g1, e1, hn, c1⟩ := l1Int_ok (b := b) (i := 0) g0 [2, 4, 6, 8, 20, 3, 0, 22, (-2)] (by simp) (curOk0 hb)
    have eN : spec_l31N.f b 0 g0 = some (n, i1, g1) := by
      unfold spec_l31N.f
      rw [e1]
      rfl
    have hD : Ev (fun k => spec_DrawAllRounds.f k b) n := by
      unfold spec_DrawAllRounds.f
      exact Ev.bind hN (Ev.bind (ev_fix eN) (Ev.now _))
    obtain ⟨R, _, hR, hc⟩ := all_ev n
    refine Ev.bind hD (Ev.bind hR ?_)
    rcases hc with ⟨⟨h1, h2⟩, rfl⟩ | ⟨hbad, rfl⟩
    · have hm : ∃ m : Nat, m ∈ ([2, 4, 6, 8, 20] : List Nat) ∧ n = (m : Int) := by
        simp only [List.mem_cons, List.not_mem_nil, or_false] at hn
        rcases hn with rfl | rfl | rfl | rfl | rfl | rfl | rfl | rfl | rfl
        · exact ⟨2, by simp, rfl⟩
        · exact ⟨4, by simp, rfl⟩
        · exact ⟨6, by simp, rfl⟩
        · exact ⟨8, by simp, rfl⟩
        · exact ⟨20, by simp, rfl⟩
        · omega
        · omega
        · omega
        · omega
      obtain ⟨m, hm, rfl⟩ := hm
      have ht := List.all_eq_true.mp meet_tab m hm
      simp only [Bool.and_eq_true, beq_iff_eq, List.all_eq_true, List.mem_range] at ht
      obtain ⟨t0, t1⟩ := ht
      have em : ((m : Int) - 1).toNat = m - 1 := by omega
      have hl := roundsG_len (m : Int) (m - 1)
      have tm : (Int.tmod (m : Int) 2 == 0) = true := by
        rw [beq_iff_eq, Int.tmod_eq_emod]
        split <;> omega
      rw [em, tm]
      have hM : Ev (fun k => impl_MeetOnce.f k (roundsG (m : Int) (m - 1)) (m : Int)) true := Ev.of (fun k => impl_MeetOnce.mono _ _ k) t0
      refine ev_ifp h1.1 (ev_ifp h1.2 (ev_ifn ?_ (ev_ifp (by omega) (ev_ifp (by rw [w64 (by omega) (by omega)]; omega) (Ev.bind hM ?_)))))
      · rw [decide_eq_true (show ((roundsG (m : Int) (m - 1)).length : Int) > 0 by omega)]
        simp
      · apply ev_succ
        simp only [laws_FnSeasons.j0]
        exact ev_ifn (by simp) (rest_loop b hb m (m - 1) (by omega) (fun j hj => Ev.of (fun k => impl_RestOf.mono _ _ k) (t1 j hj)) (m - 1) 0 (by omega))
    · have z : decide ((([] : List (List (List Int))).length : Int) > 0) = false := by simp
      have z2 : ¬ (([] : List (List (List Int))).length : Int) > 0 := by simp
      rw [z]
      by_cases h2 : n ≥ 2
      · refine ev_ifp h2 ?_
        by_cases h3 : n ≤ 20
        · have tm : (Int.tmod n 2 == 0) = false := by
            rw [beq_eq_false_iff_ne, Int.tmod_eq_emod]
            intro e
            split at e <;> omega
          rw [tm]
          exact ev_ifp h3 (ev_ifn (by simp) (ev_ifn z2 (none_ev b hb n)))
        · exact ev_ifn h3 (ev_ifn (by simp) (ev_ifn z2 (none_ev b hb n)))
      · exact ev_ifn h2 (ev_ifn (by simp) (ev_ifn z2 (none_ev b hb n)))

end Go.Proofs.Ytfcidjlnokhkjaa.Pure
