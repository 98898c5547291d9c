/- Whatever only repeats adds no weight: the law answers true at whatever bytes.
No condition: for every input. -/
import Derived.Test.YtfcidjlnokhkjaaQFnSourcesx7
set_option linter.unusedVariables false
set_option linter.unusedSimpArgs false
set_option maxHeartbeats 1000000
namespace Go.Proofs.Ytfcidjlnokhkjaa.Pure
open Go.RowKit Go.Proofs.Ytfcidjlnokhkjaa.QFnSources Go.Proofs.YtfcidjlnokhkjaaW.PrintWords Go.Proofs.YtfcidjlnokhkjaaW.PrintLast

theorem w64 {x : Int} (h1 : -9223372036854775808 ≤ x) (h2 : x ≤ 9223372036854775807) : wrap64 x = x := by unfold wrap64; omega
theorem wf64 {x : Int} (h : (Lit.int .i64 x).wf = true) : -9223372036854775808 ≤ x ∧ x ≤ 9223372036854775807 := by
  simp only [Lit.wf, Bool.and_eq_true, decide_eq_true_eq] at h
  have e1 : IntKind.min .i64 = -9223372036854775808 := by decide
  have e2 : IntKind.max .i64 = 9223372036854775807 := by decide
  omega
theorem wfu8 {x : Int} (h : (Lit.int .u8 x).wf = true) : 0 ≤ x ∧ x ≤ 255 := by
  simp only [Lit.wf, Bool.and_eq_true, decide_eq_true_eq] at h
  have e1 : IntKind.min .u8 = 0 := by decide
  have e2 : IntKind.max .u8 = 255 := by decide
  omega
theorem ev_succ {α : Type} {g : Nat → Option α} {r : α} (h : Ev (fun k => g (k + 1)) r) : Ev g r := Ev.step (fun _ => rfl) h
theorem ev_some {α : Type} {r s : α} (h : r = s) : Ev (fun _ => some r) s := by subst h; exact Ev.now r
theorem ev_fix {α : Type} {o : Option α} {r : α} (h : o = some r) : Ev (fun _ => o) r := ⟨0, fun _ _ => h⟩
theorem ev_at {α : Type} {g : Nat → Option α} {r : α} (n : Nat) (h : ∀ k, g (k + n) = some r) : Ev g r :=
  ⟨n, fun k hk => by obtain ⟨m, rfl⟩ : ∃ m, k = m + n := ⟨k - n, by omega⟩; exact h m⟩
theorem ev_bindc {α β : Type} {o : Option α} {f : Nat → α → Option β} {a : α} {r : β} (h : o = some a) (k : Ev (fun n => f n a) r) : Ev (fun n => o.bind (f n)) r := by
  subst h; exact k
theorem ev_ifp {α : Type} {c : Prop} [Decidable c] {a b : Nat → Option α} {r : α} (h : c) (k : Ev a r) : Ev (fun n => if c then a n else b n) r := by
  simpa only [if_pos h] using k
theorem ev_ifn {α : Type} {c : Prop} [Decidable c] {a b : Nat → Option α} {r : α} (h : ¬ c) (k : Ev b r) : Ev (fun n => if c then a n else b n) r := by
  simpa only [if_neg h] using k
theorem drop_rd (xs : List Int) (i : Nat) (h : i < xs.length) : xs.drop i = rd xs (i : Int) :: xs.drop (i + 1) := by
  rw [List.drop_eq_getElem_cons h]
  simp [rd, List.getD_eq_getElem?_getD, h]
theorem impl_InRange_eq (a b c : Int) : impl_InRange.f a b c = some (decide (b ≤ a ∧ a ≤ c)) := by
  unfold impl_InRange.f
  by_cases h : b ≤ a <;> simp [h]
theorem and255 (a : Int) : 0 ≤ Go.bits .and .i64 a 255 ∧ Go.bits .and .i64 a 255 ≤ 255 := by
  have hle : (BitVec.ofInt 64 a &&& BitVec.ofInt 64 255).toNat ≤ 255 := by
    rw [BitVec.toNat_and]
    exact Nat.le_trans Nat.and_le_right (by decide)
  show 0 ≤ IntKind.i64.wrap ((BitVec.ofInt 64 a &&& BitVec.ofInt 64 255).toNat : Int) ∧ IntKind.i64.wrap ((BitVec.ofInt 64 a &&& BitVec.ofInt 64 255).toNat : Int) ≤ 255
  rw [IntKind.wrap_i64]
  omega
def CurOk (b : List Int) (i : Int) : Prop := 0 ≤ i ∧ i ≤ b.length ∧ b.length ≤ 1048576
theorem curOk0 {b : List Int} (hb : b.length ≤ 1048576) : CurOk b 0 := ⟨by omega, by omega, hb⟩
theorem l1Byte_ok {b : List Int} {i : Int} (h : Int) (hc : CurOk b i) : ∃ x i' h', spec_l1Byte.f b i h = some (x, i', h') ∧ 0 ≤ x ∧ x ≤ 255 ∧ CurOk b i' := by
  obtain ⟨h0, h1, h2⟩ := hc
  unfold spec_l1Byte.f
  by_cases hi : i < (b.length : Int)
  · rw [if_pos hi, if_pos h0]
    exact ⟨_, _, _, rfl, (and255 _).1, (and255 _).2, by rw [w64 (by omega) (by omega)]; exact ⟨by omega, by omega, h2⟩⟩
  · rw [if_neg hi]
    exact ⟨_, _, _, rfl, (and255 _).1, (and255 _).2, h0, h1, h2⟩
theorem l1Below_ok {b : List Int} {i : Int} (h n : Int) (hc : CurOk b i) : ∃ x i' h', spec_l1Below.f b i h n = some (x, i', h') ∧ 0 ≤ x ∧ (0 < n → x < n) ∧ (n ≤ 0 → x = 0) ∧ CurOk b i' := by
  unfold spec_l1Below.f
  by_cases h1 : n ≤ 0
  · rw [if_pos h1]
    exact ⟨0, i, h, rfl, by omega, by omega, fun _ => rfl, hc⟩
  · rw [if_neg h1]
    have hn : n ≠ 0 := by omega
    by_cases h2 : n ≤ 256
    · rw [if_pos h2]
      obtain ⟨x, i', h', e, hx0, hx1, hc'⟩ := l1Byte_ok h hc
      rw [e]
      simp only [Option.bind_some, if_neg hn]
      exact ⟨_, _, _, rfl, Int.tmod_nonneg _ hx0, fun hp => Int.tmod_lt_of_pos _ hp, fun hq => absurd hq h1, hc'⟩
    · rw [if_neg h2]
      obtain ⟨x, i1, g1, e1, hx0, hx1, c1⟩ := l1Byte_ok h hc
      obtain ⟨y, i2, g2, e2, hy0, hy1, c2⟩ := l1Byte_ok g1 c1
      obtain ⟨z, i3, g3, e3, hz0, hz1, c3⟩ := l1Byte_ok g2 c2
      simp only [e1, e2, e3, Option.bind_some, if_neg hn]
      refine ⟨_, _, _, rfl, Int.tmod_nonneg _ ?_, fun hp => Int.tmod_lt_of_pos _ hp, fun hq => absurd hq h1, c3⟩
      unfold wrap64
      omega
theorem l1New_loop (b : List Int) (hb : b.length ≤ 1048576) (d : Nat) : ∀ (i : Nat) (h : Int), i + d = b.length → ∃ h', Ev (fun k => spec_l1New.l0 k b h (i : Int)) (b, 0, h') := by
  induction d with
  | zero =>
    intro i h hd
    refine ⟨h, ?_⟩
    apply ev_succ
    simp only [spec_l1New.l0]
    refine ev_ifn (by omega) ?_
    exact Ev.now _
  | succ d ih =>
    intro i h hd
    by_cases h4 : (i : Int) < 4000
    · obtain ⟨h', e⟩ := ih (i + 1) (Go.bits .and .i64 (wrap64 ((wrap64 ((wrap64 (h * 137)) + (wrap64 (rd b (i : Int))))) + 11)) 1073741823) (by omega)
      refine ⟨h', ?_⟩
      apply ev_succ
      simp only [spec_l1New.l0]
      refine ev_ifp (by omega) (ev_ifp h4 (ev_ifp (by omega) ?_))
      rw [w64 (x := (i : Int) + 1) (by omega) (by omega)]
      simpa using e
    · refine ⟨h, ?_⟩
      apply ev_succ
      simp only [spec_l1New.l0]
      refine ev_ifp (by omega) (ev_ifn h4 ?_)
      exact Ev.now _
theorem l1New_ok (b : List Int) (hb : b.length ≤ 1048576) : ∃ h, Ev (fun k => spec_l1New.f k b) (b, 0, h) := by
  unfold spec_l1New.f
  exact l1New_loop b hb b.length 0 _ (by omega)
theorem rd_mem (l : List Int) (j : Int) (h0 : 0 ≤ j) (h1 : j < l.length) : rd l j ∈ l := by
  unfold rd
  have h : j.toNat < l.length := by omega
  simp [List.getD_eq_getElem?_getD, h]
theorem l1Int_ok {b : List Int} {i : Int} (h : Int) (l : List Int) (hl : 0 < l.length) (hc : CurOk b i) : ∃ v i' h', spec_l1Int.f b i h l = some (v, i', h') ∧ v ∈ l ∧ CurOk b i' := by
  obtain ⟨x, i', h', e, h0, h1, _, c⟩ := l1Below_ok h (l.length : Int) hc
  unfold spec_l1Int.f
  rw [e]
  simp only [Option.bind_some]
  rw [if_pos h0, if_pos (h1 (by omega))]
  exact ⟨_, _, _, rfl, rd_mem l x h0 (h1 (by omega)), c⟩
theorem l1Once_ok {b : List Int} {i : Int} (h n : Int) (hc : CurOk b i) : ∃ t i' h', spec_l1Once.f b i h n = some (t, i', h') ∧ CurOk b i' := by
  obtain ⟨x, i', h', e, h0, h1, _, c⟩ := l1Below_ok h n hc
  unfold spec_l1Once.f
  rw [e]
  simp only [Option.bind_some]
  exact ⟨_, _, _, rfl, c⟩
theorem rd37 (xs : List S37) (i : Nat) (h : i < xs.length) : rd_T37 xs (i : Int) = xs[i] := by simp [rd_T37, List.getD_eq_getElem?_getD, h]
theorem drop37 (xs : List S37) (i : Nat) (h : i < xs.length) : xs.drop i = rd_T37 xs (i : Int) :: xs.drop (i + 1) := by
  rw [List.drop_eq_getElem_cons h, rd37 xs i h]
def findG : List S37 → Int → Int → Int
  | [], _, _ => -1
  | x :: xs, id, i => if x.f0 = id then i else findG xs id (i + 1)
def srcAt (xs : List S37) (i : Int) : Bool :=
  decide (1 ≤ (rd_T37 xs i).f0 ∧ (rd_T37 xs i).f0 ≤ 99) && decide (1 ≤ (rd_T37 xs i).f2 ∧ (rd_T37 xs i).f2 ≤ 10) && (decide (i ≤ 0) || decide ((rd_T37 xs (i - 1)).f0 < (rd_T37 xs i).f0)) && (decide ((rd_T37 xs i).f1 = 0) || decide (0 ≤ findG (xs.take i.toNat) (rd_T37 xs i).f1 0))
def srcFrom (xs : List S37) : Nat → Int → Bool
  | 0, _ => true
  | d + 1, i => srcAt xs i && srcFrom xs d (i + 1)
def sourcesG (xs : List S37) : Bool := decide (xs.length ≤ 15) && srcFrom xs xs.length 0
theorem src_tail {find : Nat → Option Int} {rest : Nat → Option Bool} {f1 : Int} {c : Prop} [Decidable c] {v : Int} {r : Bool} (hc : c) (hf : Ev find v) (hr : Ev rest r) : Ev (fun k => if f1 = 0 then rest k else if c then (find k).bind fun t => if t < 0 then some false else rest k else none) ((decide (f1 = 0) || decide (0 ≤ v)) && r) := by
  by_cases h : f1 = 0
  · refine ev_ifp h ?_
    simpa [h] using hr
  · refine ev_ifn h (ev_ifp hc (Ev.bind hf ?_))
    by_cases hv : v < 0
    · refine ev_ifp hv (ev_some ?_)
      have : ¬ 0 ≤ v := by omega
      simp [h, this]
    · refine ev_ifn hv ?_
      have : 0 ≤ v := by omega
      simpa [h, this] using hr
theorem impl_find_loop (xs : List S37) (id : Int) (hx : xs.length ≤ 2000000) (d : Nat) : ∀ i : Nat, i + d = xs.length → Ev (fun k => impl_sourceAt.l0 k xs id (i : Int)) (findG (xs.drop i) id i) := by
  induction d with
  | zero =>
    intro i hd
    apply ev_succ
    simp only [impl_sourceAt.l0]
    rw [List.drop_eq_nil_of_le (by omega)]
    exact ev_ifn (by omega) (Ev.now _)
  | succ d ih =>
    intro i hd
    apply ev_succ
    have e1 : wrap64 ((i : Int) + 1) = (i : Int) + 1 := w64 (by omega) (by omega)
    simp only [impl_sourceAt.l0, e1]
    refine ev_ifp (by omega) (ev_ifp (by omega) ?_)
    rw [drop37 xs i (by omega)]
    unfold findG
    by_cases h : (rd_T37 xs (i : Int)).f0 = id
    · exact ev_ifp h (ev_some (by rw [if_pos h]))
    · refine ev_ifn h ?_
      rw [if_neg h]
      exact ih (i + 1) (by omega)
theorem impl_find_ev (xs : List S37) (id : Int) (hx : xs.length ≤ 2000000) : Ev (fun k => impl_sourceAt.f k xs id) (findG xs id 0) := by
  unfold impl_sourceAt.f
  simpa using impl_find_loop xs id hx xs.length 0 (by omega)
theorem impl_AreSources_loop (xs : List S37) (hx : xs.length ≤ 15) (d : Nat) : ∀ i : Nat, i + d = xs.length → Ev (fun k => impl_AreSources.l0 k xs xs (xs.length : Int) (i : Int)) (srcFrom xs d i) := by
  induction d with
  | zero =>
    intro i hd
    apply ev_succ
    simp only [impl_AreSources.l0]
    exact ev_ifn (by omega) (ev_some rfl)
  | succ d ih =>
    intro i hd
    apply ev_succ
    have e1 : wrap64 ((i : Int) + 1) = (i : Int) + 1 := w64 (by omega) (by omega)
    have e2 : wrap64 ((i : Int) - 1) = (i : Int) - 1 := w64 (by omega) (by omega)
    simp only [impl_AreSources.l0, impl_InRange_eq, Option.bind_some, e1, e2]
    refine ev_ifp (by omega) (ev_ifp (by omega) (ev_ifp (by omega) ?_))
    have ht := src_tail (f1 := (rd_T37 xs (i : Int)).f1) (c := (i : Int) ≤ (xs.length : Int)) (by omega) (impl_find_ev (xs.take (i : Int).toNat) (rd_T37 xs (i : Int)).f1 (by simp; omega)) (ih (i + 1) (by omega))
    rw [show (((i + 1 : Nat) : Int)) = (i : Int) + 1 by omega] at ht
    unfold srcFrom srcAt
    generalize rd_T37 xs (i : Int) = x at ht ⊢
    generalize findG (xs.take (i : Int).toNat) x.f1 0 = v at ht ⊢
    generalize srcFrom xs d ((i : Int) + 1) = r at ht ⊢
    by_cases h1 : 1 ≤ x.f0 ∧ x.f0 ≤ 99
    · refine ev_ifp (by simpa using h1) ?_
      by_cases hi : (i : Int) > 0
      · refine ev_ifp hi (ev_ifp (by omega) (ev_ifp (by omega) ?_))
        have hi' : ¬ (i : Int) ≤ 0 := by omega
        by_cases h3 : x.f0 ≤ (rd_T37 xs ((i : Int) - 1)).f0
        · refine ev_ifp h3 (ev_some ?_)
          have h3' : ¬ (rd_T37 xs ((i : Int) - 1)).f0 < x.f0 := by omega
          rw [decide_eq_true h1, decide_eq_false hi', decide_eq_false h3']
          simp
        · refine ev_ifn h3 ?_
          have h3' : (rd_T37 xs ((i : Int) - 1)).f0 < x.f0 := by omega
          by_cases h2 : 1 ≤ x.f2 ∧ x.f2 ≤ 10
          · refine ev_ifp (by simpa using h2) ?_
            rw [decide_eq_true h1, decide_eq_true h2, decide_eq_false hi', decide_eq_true h3']
            simpa only [Bool.true_and, Bool.false_or, Bool.and_assoc] using ht
          · refine ev_ifn (by simpa using h2) (ev_some ?_)
            rw [decide_eq_true h1, decide_eq_false h2]
            rfl
      · refine ev_ifn hi ?_
        have hi' : (i : Int) ≤ 0 := by omega
        by_cases h2 : 1 ≤ x.f2 ∧ x.f2 ≤ 10
        · refine ev_ifp (by simpa using h2) ?_
          rw [decide_eq_true h1, decide_eq_true h2, decide_eq_true hi']
          simpa only [Bool.true_and, Bool.true_or, Bool.and_assoc] using ht
        · refine ev_ifn (by simpa using h2) (ev_some ?_)
          rw [decide_eq_true h1, decide_eq_false h2]
          rfl
    · refine ev_ifn (by simpa using h1) (ev_some ?_)
      rw [decide_eq_false h1]
      rfl
theorem impl_AreSources_ev (xs : List S37) : Ev (fun k => impl_AreSources.f k xs) (sourcesG xs) := by
  unfold impl_AreSources.f sourcesG
  by_cases hx : xs.length ≤ 15
  · refine ev_ifn (by omega) ?_
    simpa [hx] using impl_AreSources_loop xs hx xs.length 0 (by omega)
  · exact ev_ifp (by omega) (ev_some (by simp [hx]))
def balG (xs : List S37) : Nat → Int → Int → Int
  | 0, _, n => n
  | d + 1, i, n => if (rd_T37 xs i).f1 = 0 then (if (rd_T37 xs i).f3 = true then balG xs d (i + 1) (wrap64 (n + (rd_T37 xs i).f2)) else balG xs d (i + 1) (wrap64 (n - (rd_T37 xs i).f2))) else balG xs d (i + 1) n
def balanceG (xs : List S37) : Int := if sourcesG xs = true then balG xs xs.length 0 0 else 0
theorem impl_BalanceOf_loop (xs : List S37) (hx : xs.length ≤ 2000000) (d : Nat) : ∀ (i : Nat) (n : Int), i + d = xs.length → Ev (fun k => impl_BalanceOf.l0 k n xs (xs.length : Int) (i : Int)) (balG xs d i n) := by
  induction d with
  | zero =>
    intro i n hd
    apply ev_succ
    simp only [impl_BalanceOf.l0]
    exact ev_ifn (by omega) (ev_some rfl)
  | succ d ih =>
    intro i n hd
    apply ev_succ
    have e1 : wrap64 ((i : Int) + 1) = (i : Int) + 1 := w64 (by omega) (by omega)
    simp only [impl_BalanceOf.l0, e1]
    refine ev_ifp (by omega) (ev_ifp (by omega) (ev_ifp (by omega) ?_))
    unfold balG
    have e3 : (((i + 1 : Nat) : Int)) = (i : Int) + 1 := by omega
    have ih' := fun n => ih (i + 1) n (by omega)
    rw [e3] at ih'
    by_cases h1 : (rd_T37 xs (i : Int)).f1 = 0
    · rw [if_pos h1]
      refine ev_ifp h1 ?_
      by_cases h2 : (rd_T37 xs (i : Int)).f3 = true
      · rw [if_pos h2]
        exact ev_ifp h2 (ih' _)
      · rw [if_neg h2]
        exact ev_ifn h2 (ih' _)
    · rw [if_neg h1]
      exact ev_ifn h1 (ih' _)
theorem impl_BalanceOf_ev (xs : List S37) (hx : xs.length ≤ 2000000) : Ev (fun k => impl_BalanceOf.f k xs) (balanceG xs) := by
  unfold impl_BalanceOf.f balanceG
  refine Ev.bind (impl_AreSources_ev xs) ?_
  by_cases hs : sourcesG xs = true
  · rw [if_pos hs]
    exact ev_ifp hs (impl_BalanceOf_loop xs hx xs.length 0 0 (by omega))
  · rw [if_neg hs]
    exact ev_ifn hs (Ev.now _)
def addG (l : List S37) (x : S37) : List S37 × Bool := if sourcesG (l ++ [x]) = true then (l ++ [x], true) else (l, false)
theorem addG_len (l : List S37) (x : S37) : (addG l x).1.length ≤ l.length + 1 := by
  unfold addG
  split <;> simp
theorem impl_Source_eq (l : List S37) (hl : l.length ≤ 1048576) : impl_Source_67.f l = some l := by
  unfold impl_Source_67.f
  simp only [Option.bind_some, List.nil_append, List.length_nil]
  rw [if_pos (by omega)]
theorem impl_AddSource_ev (l : List S37) (a b c : Int) (d : Bool) (hl : l.length ≤ 1048576) : Ev (fun k => impl_AddSource.f k l a b c d) (addG l ⟨a, b, c, d⟩) := by
  unfold impl_AddSource.f addG
  rw [impl_Source_eq l hl]
  simp only [Option.bind_some, List.length_singleton]
  refine ev_ifp (by omega) (Ev.bind (impl_AreSources_ev _) ?_)
  by_cases h : sourcesG (l ++ [⟨a, b, c, d⟩]) = true
  · exact ev_ifp h (ev_some (if_pos h).symm)
  · exact ev_ifn h (ev_some (if_neg h).symm)
theorem findG_bd (id : Int) (l : List S37) : ∀ s : Int, 0 ≤ s → findG l id s = -1 ∨ (s ≤ findG l id s ∧ findG l id s < s + l.length) := by
  induction l with
  | nil => intro s hs; exact .inl rfl
  | cons x xs ih =>
    intro s hs
    unfold findG
    by_cases h : x.f0 = id
    · rw [if_pos h]
      right
      simp only [List.length_cons]
      omega
    · rw [if_neg h]
      rcases ih (s + 1) (by omega) with e | e
      · exact .inl e
      · right
        simp only [List.length_cons]
        omega
theorem findG_app (id : Int) (l m : List S37) : ∀ s : Int, 0 ≤ s → 0 ≤ findG l id s → findG (l ++ m) id s = findG l id s := by
  induction l with
  | nil => intro s hs h; simp [findG] at h
  | cons x xs ih =>
    intro s hs h
    rw [List.cons_append]
    unfold findG at h ⊢
    by_cases e : x.f0 = id
    · rw [if_pos e, if_pos e]
    · rw [if_neg e] at h
      rw [if_neg e, if_neg e]
      exact ih (s + 1) (by omega) h
theorem findG_mem (id : Int) (l : List S37) : ∀ s : Int, 0 ≤ s → (∃ x, x ∈ l ∧ x.f0 = id) → 0 ≤ findG l id s := by
  induction l with
  | nil => rintro s hs ⟨x, hx, _⟩; cases hx
  | cons y xs ih =>
    rintro s hs ⟨x, hx, e⟩
    unfold findG
    by_cases h : y.f0 = id
    · rw [if_pos h]; exact hs
    · rw [if_neg h]
      rcases List.mem_cons.mp hx with rfl | hx
      · exact absurd e h
      · exact ih (s + 1) (by omega) ⟨x, hx, e⟩
theorem findG_val (id : Int) (l : List S37) : ∀ s : Int, 0 ≤ s → 0 ≤ findG l id s → ∃ h : (findG l id s - s).toNat < l.length, (l[(findG l id s - s).toNat]'h).f0 = id := by
  induction l with
  | nil => intro s hs h; simp [findG] at h
  | cons y xs ih =>
    intro s hs h
    by_cases e : y.f0 = id
    · have e0 : findG (y :: xs) id s = s := by unfold findG; rw [if_pos e]
      have e1 : (findG (y :: xs) id s - s).toNat = 0 := by rw [e0]; omega
      refine ⟨by rw [e1]; simp, ?_⟩
      simp only [e1]
      exact e
    · have e0 : findG (y :: xs) id s = findG xs id (s + 1) := by conv => lhs; unfold findG; rw [if_neg e]
      rw [e0] at h
      obtain ⟨hl, hv⟩ := ih (s + 1) (by omega) h
      have hb := findG_bd id xs (s + 1) (by omega)
      have e1 : (findG (y :: xs) id s - s).toNat = (findG xs id (s + 1) - (s + 1)).toNat + 1 := by rw [e0]; omega
      refine ⟨by rw [e1]; simp only [List.length_cons]; omega, ?_⟩
      simp only [e1, List.getElem_cons_succ]
      exact hv
theorem findG_take (id : Int) (xs : List S37) (i : Nat) (h : 0 ≤ findG (xs.take i) id 0) : findG xs id 0 = findG (xs.take i) id 0 ∧ findG (xs.take i) id 0 < i := by
  have h1 := findG_app id (xs.take i) (xs.drop i) 0 (by omega) h
  rw [List.take_append_drop] at h1
  refine ⟨h1, ?_⟩
  have := findG_bd id (xs.take i) 0 (by omega)
  have hl : (xs.take i).length ≤ i := by rw [List.length_take]; omega
  omega
theorem srcFrom_at (xs : List S37) (d : Nat) : ∀ (i : Int), srcFrom xs d i = true → ∀ j : Int, i ≤ j → j < i + d → srcAt xs j = true := by
  induction d with
  | zero => intro i h j h1 h2; omega
  | succ d ih =>
    intro i h j h1 h2
    unfold srcFrom at h
    rw [Bool.and_eq_true] at h
    by_cases e : j = i
    · rw [e]; exact h.1
    · exact ih (i + 1) h.2 j (by omega) (by omega)
theorem sourcesG_at (xs : List S37) (h : sourcesG xs = true) (j : Nat) (hj : j < xs.length) : srcAt xs j = true := by
  unfold sourcesG at h
  rw [Bool.and_eq_true] at h
  exact srcFrom_at xs xs.length 0 h.2 j (by omega) (by omega)
theorem src_back (xs : List S37) (h : sourcesG xs = true) (j : Nat) (hj : j < xs.length) (h1 : (rd_T37 xs (j : Int)).f1 ≠ 0) : 0 ≤ findG xs (rd_T37 xs (j : Int)).f1 0 ∧ findG xs (rd_T37 xs (j : Int)).f1 0 < j := by
  have hs := sourcesG_at xs h j hj
  unfold srcAt at hs
  simp only [Bool.and_eq_true, Bool.or_eq_true, decide_eq_true_eq, Int.toNat_natCast] at hs
  have hf := hs.2.resolve_left h1
  obtain ⟨e, hlt⟩ := findG_take _ xs j hf
  rw [e]
  exact ⟨hf, hlt⟩
def rootF (xs : List S37) : Nat → Int → Int
  | 0, i => (rd_T37 xs i).f0
  | n + 1, i => if (rd_T37 xs i).f1 = 0 then (rd_T37 xs i).f0 else rootF xs n (findG xs (rd_T37 xs i).f1 0)
def rootG (xs : List S37) (id : Int) : Int := if findG xs id 0 < 0 then 0 else if sourcesG xs = true then rootF xs xs.length (findG xs id 0) else 0
theorem impl_RootOf_loop (xs : List S37) (hx : xs.length ≤ 2000000) (hs : sourcesG xs = true) (n : Nat) : ∀ i : Nat, i < xs.length → i < n → Ev (fun k => impl_RootOf.l0 k xs (i : Int)) (rootF xs n i) := by
  induction n with
  | zero => intro i _ h; omega
  | succ n ih =>
    intro i hi hn
    apply ev_succ
    simp only [impl_RootOf.l0]
    refine ev_ifp (by omega) (ev_ifp (by omega) ?_)
    unfold rootF
    by_cases h : (rd_T37 xs (i : Int)).f1 = 0
    · rw [if_pos h]
      exact ev_ifp h (ev_some rfl)
    · rw [if_neg h]
      refine ev_ifn h (Ev.bind (impl_find_ev xs _ hx) ?_)
      obtain ⟨h0, h1⟩ := src_back xs hs i hi h
      have := ih (findG xs (rd_T37 xs (i : Int)).f1 0).toNat (by omega) (by omega)
      rwa [show (((findG xs (rd_T37 xs (i : Int)).f1 0).toNat : Nat) : Int) = findG xs (rd_T37 xs (i : Int)).f1 0 by omega] at this
theorem impl_RootOf_ev (xs : List S37) (id : Int) (hx : xs.length ≤ 2000000) : Ev (fun k => impl_RootOf.f k xs id) (rootG xs id) := by
  unfold impl_RootOf.f rootG
  refine Ev.bind (impl_find_ev xs id hx) (Ev.bind (impl_AreSources_ev xs) ?_)
  by_cases hs : sourcesG xs = true
  · rw [if_pos hs]
    refine ev_ifp hs ?_
    apply ev_succ
    simp only [impl_RootOf.j0]
    by_cases h : findG xs id 0 < 0
    · rw [if_pos h]
      exact ev_ifp (by simp [h]) (ev_some rfl)
    · rw [if_neg h]
      refine ev_ifn (by simp; omega) ?_
      have hb := findG_bd id xs 0 (by omega)
      have := impl_RootOf_loop xs hx hs xs.length (findG xs id 0).toNat (by omega) (by omega)
      rwa [show (((findG xs id 0).toNat : Nat) : Int) = findG xs id 0 by omega] at this
  · rw [if_neg hs]
    refine ev_ifn hs ?_
    apply ev_succ
    simp only [impl_RootOf.j0, if_true]
    exact ev_some (by split <;> rfl)
theorem rootF_mem (xs : List S37) (hs : sourcesG xs = true) (n : Nat) : ∀ i : Nat, i < xs.length → ∃ x, x ∈ xs ∧ x.f0 = rootF xs n i := by
  induction n with
  | zero =>
    intro i hi
    exact ⟨xs[i], List.getElem_mem hi, by unfold rootF; rw [rd37 xs i hi]⟩
  | succ n ih =>
    intro i hi
    unfold rootF
    by_cases h : (rd_T37 xs (i : Int)).f1 = 0
    · rw [if_pos h]
      exact ⟨xs[i], List.getElem_mem hi, by rw [rd37 xs i hi]⟩
    · rw [if_neg h]
      obtain ⟨h0, h1⟩ := src_back xs hs i hi h
      have := ih (findG xs (rd_T37 xs (i : Int)).f1 0).toNat (by omega)
      rwa [show (((findG xs (rd_T37 xs (i : Int)).f1 0).toNat : Nat) : Int) = findG xs (rd_T37 xs (i : Int)).f1 0 by omega] at this
theorem rootG_find (xs : List S37) (id : Int) (h : rootG xs id ≠ 0) : 0 ≤ findG xs (rootG xs id) 0 := by
  unfold rootG at h ⊢
  by_cases h1 : findG xs id 0 < 0
  · rw [if_pos h1] at h; exact absurd rfl h
  · rw [if_neg h1] at h ⊢
    by_cases hs : sourcesG xs = true
    · rw [if_pos hs] at h ⊢
      have hb := findG_bd id xs 0 (by omega)
      have := rootF_mem xs hs xs.length (findG xs id 0).toNat (by omega)
      rw [show (((findG xs id 0).toNat : Nat) : Int) = findG xs id 0 by omega] at this
      exact findG_mem _ xs 0 (by omega) this
    · rw [if_neg hs] at h; exact absurd rfl h
def twistG (xs : List S37) (id : Int) : Bool := decide (0 ≤ findG xs id 0) && decide (rootG xs id ≠ 0) && ((rd_T37 xs (findG xs id 0)).f3 != (rd_T37 xs (findG xs (rootG xs id) 0)).f3)
theorem impl_IsTwisted_ev (xs : List S37) (id : Int) (hx : xs.length ≤ 2000000) : Ev (fun k => impl_IsTwisted.f k xs id) (twistG xs id) := by
  unfold impl_IsTwisted.f twistG
  refine Ev.bind (impl_find_ev xs id hx) (Ev.bind (impl_RootOf_ev xs id hx) ?_)
  by_cases h1 : 0 ≤ findG xs id 0
  · refine ev_ifp h1 ?_
    by_cases h2 : rootG xs id = 0
    · exact ev_ifp h2 (ev_some (by simp [h2]))
    · have h3 := rootG_find xs id h2
      have hb := findG_bd id xs 0 (by omega)
      have hc := findG_bd (rootG xs id) xs 0 (by omega)
      exact ev_ifn h2 (ev_ifp h1 (ev_ifp (by omega) (Ev.bind (impl_find_ev xs _ hx) (ev_ifp h3 (ev_ifp (by omega) (ev_some (by simp [h1, h2])))))))
  · exact ev_ifn h1 (ev_some (by simp [h1]))
theorem contains_loop (xs : List Int) (v : Int) (hx : xs.length ≤ 1048576) (d : Nat) : ∀ i : Nat, i + d = xs.length → Ev (fun k => laws_contains.l0 k xs v (i : Int)) (decide (v ∈ xs.drop i)) := by
  induction d with
  | zero =>
    intro i hd
    apply ev_succ
    simp only [laws_contains.l0]
    rw [List.drop_eq_nil_of_le (by omega)]
    exact ev_ifn (by omega) (ev_some (by simp))
  | succ d ih =>
    intro i hd
    apply ev_succ
    have e1 : wrap64 ((i : Int) + 1) = ((i + 1 : Nat) : Int) := by rw [w64 (by omega) (by omega)]; simp
    simp only [laws_contains.l0, e1]
    refine ev_ifp (by omega) (ev_ifp (by omega) ?_)
    rw [drop_rd xs i (by omega)]
    by_cases h : rd xs (i : Int) = v
    · exact ev_ifp h (ev_some (by simp [h]))
    · refine ev_ifn h ?_
      have h' : ¬ v = rd xs (i : Int) := fun e => h e.symm
      simpa [h'] using ih (i + 1) (by omega)
theorem contains_ev (xs : List Int) (v : Int) (hx : xs.length ≤ 1048576) : Ev (fun k => laws_contains.f k xs v) (decide (v ∈ xs)) := by
  unfold laws_contains.f
  simpa using contains_loop xs v hx xs.length 0 (by omega)
theorem any_loop (b : List Int) (d : Nat) : ∀ (i h : Int) (ys : List S37) (x : Int), CurOk b i → (ys.length : Int) + 1 = x → x + d = 8 → ∃ l i' h', Ev (fun k => spec_l26Any.l0 k ys x b i h) (l, i', h') ∧ l.length ≤ 8 ∧ CurOk b i' := by
  have out : ∀ (i h : Int) (ys : List S37) (x : Int) (v i1 h1 : Int), CurOk b i1 → ys.length ≤ 8 → spec_l1Below.f b i h 8 = some (v, i1, h1) → ¬ x ≤ v → ∃ l i' h', Ev (fun k => spec_l26Any.l0 k ys x b i h) (l, i', h') ∧ l.length ≤ 8 ∧ CurOk b i' := by
    intro i h ys x v i1 h1 c1 hy e1 hx
    by_cases h0 : (ys.length : Int) > 0
    · obtain ⟨p, i2, h2, e2, p0, p1, _, c2⟩ := l1Below_ok h1 (ys.length : Int) c1
      have p2 := p1 (by omega)
      obtain ⟨q, i3, h3, e3, _, _, _, c3⟩ := l1Below_ok h2 12 c2
      by_cases q0 : q = 0
      · obtain ⟨u, i4, h4, e4, _, c4⟩ := l1Int_ok h3 [wrap64 (2 * (wrap64 (p + 1))), 99, (-1)] (by simp) c3
        refine ⟨ys.set (p : Int).toNat ⟨(rd_T37 ys p).f0, u, (rd_T37 ys p).f2, (rd_T37 ys p).f3⟩, i4, h4, ev_succ ?_, by rw [List.length_set]; exact hy, c4⟩
        simp only [spec_l26Any.l0, e1, e2, e3, e4, Option.bind_some]
        exact ev_ifn hx (ev_ifp h0 (ev_ifp q0 (ev_ifp p0 (ev_ifp p2 (Ev.now _)))))
      · by_cases q1 : q = 1
        · obtain ⟨u, i4, h4, e4, _, c4⟩ := l1Int_ok h3 [0, 10, 11] (by simp) c3
          refine ⟨ys.set (p : Int).toNat ⟨(rd_T37 ys p).f0, (rd_T37 ys p).f1, u, (rd_T37 ys p).f3⟩, i4, h4, ev_succ ?_, by rw [List.length_set]; exact hy, c4⟩
          simp only [spec_l26Any.l0, e1, e2, e3, e4, Option.bind_some]
          exact ev_ifn hx (ev_ifp h0 (ev_ifn q0 (ev_ifp q1 (ev_ifp p0 (ev_ifp p2 (Ev.now _))))))
        · by_cases q2 : q = 2
          · obtain ⟨u, i4, h4, e4, _, c4⟩ := l1Int_ok h3 [0, 99, 100] (by simp) c3
            refine ⟨ys.set (p : Int).toNat ⟨u, (rd_T37 ys p).f1, (rd_T37 ys p).f2, (rd_T37 ys p).f3⟩, i4, h4, ev_succ ?_, by rw [List.length_set]; exact hy, c4⟩
            simp only [spec_l26Any.l0, e1, e2, e3, e4, Option.bind_some]
            exact ev_ifn hx (ev_ifp h0 (ev_ifn q0 (ev_ifn q1 (ev_ifp q2 (ev_ifp p0 (ev_ifp p2 (Ev.now _)))))))
          · refine ⟨ys, i3, h3, ev_succ ?_, hy, c3⟩
            simp only [spec_l26Any.l0, e1, e2, e3, Option.bind_some]
            exact ev_ifn hx (ev_ifp h0 (ev_ifn q0 (ev_ifn q1 (ev_ifn q2 (Ev.now _)))))
    · refine ⟨ys, i1, h1, ev_succ ?_, hy, c1⟩
      simp only [spec_l26Any.l0, e1, Option.bind_some]
      exact ev_ifn hx (ev_ifn h0 (Ev.now _))
  induction d with
  | zero =>
    intro i h ys x hc hy hx
    obtain ⟨v, i1, h1, e1, v0, v1, _, c1⟩ := l1Below_ok h 8 hc
    have v2 := v1 (by omega)
    exact out i h ys x v i1 h1 c1 (by omega) e1 (by omega)
  | succ d ih =>
    intro i h ys x hc hy hx
    obtain ⟨v, i1, h1, e1, v0, v1, _, c1⟩ := l1Below_ok h 8 hc
    have v2 := v1 (by omega)
    by_cases hxv : x ≤ v
    · obtain ⟨a, i2, h2, e2, _, _, _, c2⟩ := l1Below_ok h1 10 c1
      obtain ⟨t, i3, h3, e3, c3⟩ := l1Once_ok h2 2 c2
      have w1 : wrap64 (x + 1) = x + 1 := w64 (by omega) (by omega)
      by_cases hx1 : x > 1
      · obtain ⟨t2, i4, h4, e4, c4⟩ := l1Once_ok h3 2 c3
        by_cases ht : t2 = true
        · obtain ⟨u, i5, h5, e5, _, _, _, c5⟩ := l1Below_ok h4 (wrap64 (x - 1)) c4
          obtain ⟨l, i', h', he, hl, hc'⟩ := ih i5 h5 (ys ++ [(⟨wrap64 (2 * x), wrap64 (2 * (wrap64 (1 + u))), wrap64 (1 + a), t⟩ : S37)]) (x + 1) c5 (by simp; omega) (by omega)
          refine ⟨l, i', h', ev_succ ?_, hl, hc'⟩
          simp only [spec_l26Any.l0, e1, e2, e3, e4, e5, Option.bind_some, w1]
          exact ev_ifp hxv (ev_ifp hx1 (ev_ifp ht (ev_ifp (by omega) he)))
        · obtain ⟨l, i', h', he, hl, hc'⟩ := ih i4 h4 (ys ++ [(⟨wrap64 (2 * x), 0, wrap64 (1 + a), t⟩ : S37)]) (x + 1) c4 (by simp; omega) (by omega)
          refine ⟨l, i', h', ev_succ ?_, hl, hc'⟩
          simp only [spec_l26Any.l0, e1, e2, e3, e4, Option.bind_some, w1]
          exact ev_ifp hxv (ev_ifp hx1 (ev_ifn ht (ev_ifp (by omega) he)))
      · obtain ⟨l, i', h', he, hl, hc'⟩ := ih i3 h3 (ys ++ [(⟨wrap64 (2 * x), 0, wrap64 (1 + a), t⟩ : S37)]) (x + 1) c3 (by simp; omega) (by omega)
        refine ⟨l, i', h', ev_succ ?_, hl, hc'⟩
        simp only [spec_l26Any.l0, e1, e2, e3, Option.bind_some, w1]
        exact ev_ifp hxv (ev_ifn hx1 (ev_ifp (by omega) he))
    · exact out i h ys x v i1 h1 c1 (by omega) e1 hxv
theorem any_ok (b : List Int) (i h : Int) (hc : CurOk b i) : ∃ l i' h', Ev (fun k => spec_l26Any.f k b i h) (l, i', h') ∧ l.length ≤ 8 ∧ CurOk b i' := by
  unfold spec_l26Any.f
  exact any_loop b 7 i h [] 1 hc (by simp) (by omega)
def repL (xs : List S37) (id : Int) (ys : List S37) : List Int := (ys.filter (fun x => !decide (x.f0 = id) && decide (rootG xs x.f0 = id))).map (·.f0)
theorem repL_len (xs : List S37) (id : Int) (ys : List S37) : (repL xs id ys).length ≤ ys.length := by
  unfold repL
  rw [List.length_map]
  exact List.length_filter_le _ _
theorem rep_loop (xs : List S37) (id : Int) (hx : xs.length ≤ 2000000) (d : Nat) : ∀ (i : Nat) (o : List Int), o.length ≤ i → i + d = xs.length → Ev (fun k => impl_RepeatsOf.l0 k xs id o xs (xs.length : Int) (i : Int)) (o ++ repL xs id (xs.drop i)) := by
  induction d with
  | zero =>
    intro i o ho hd
    apply ev_succ
    simp only [impl_RepeatsOf.l0]
    rw [List.drop_eq_nil_of_le (by omega)]
    exact ev_ifn (by omega) (ev_some (by simp [repL]))
  | succ d ih =>
    intro i o ho hd
    apply ev_succ
    have e1 : wrap64 ((i : Int) + 1) = ((i + 1 : Nat) : Int) := by rw [w64 (by omega) (by omega)]; simp
    simp only [impl_RepeatsOf.l0, e1]
    refine ev_ifp (by omega) (ev_ifp (by omega) (ev_ifp (by omega) ?_))
    rw [drop37 xs i (by omega)]
    generalize rd_T37 xs (i : Int) = x
    by_cases h : x.f0 = id
    · refine ev_ifp h ?_
      have := ih (i + 1) o (by omega) (by omega)
      simpa [repL, h] using this
    · refine ev_ifn h (Ev.bind (impl_RootOf_ev xs x.f0 hx) ?_)
      by_cases h2 : rootG xs x.f0 = id
      · refine ev_ifp h2 (ev_ifp (by omega) ?_)
        have := ih (i + 1) (o ++ [x.f0]) (by simp; omega) (by omega)
        simpa [repL, h, h2, List.append_assoc] using this
      · refine ev_ifn h2 ?_
        have := ih (i + 1) o (by omega) (by omega)
        simpa [repL, h, h2] using this
theorem rep_ev (xs : List S37) (id : Int) (hx : xs.length ≤ 2000000) : Ev (fun k => impl_RepeatsOf.f k xs id) (repL xs id xs) := by
  unfold impl_RepeatsOf.f
  simpa using rep_loop xs id hx xs.length 0 [] (by simp) (by omega)
/-- ids stand in order -/
theorem ids_lt (xs : List S37) (hs : sourcesG xs = true) (d : Nat) : ∀ i : Nat, i + d + 1 < xs.length → (rd_T37 xs (i : Int)).f0 < (rd_T37 xs ((i + d + 1 : Nat) : Int)).f0 := by
  have one : ∀ i : Nat, i + 1 < xs.length → (rd_T37 xs (i : Int)).f0 < (rd_T37 xs ((i + 1 : Nat) : Int)).f0 := by
    intro i hi
    have h := sourcesG_at xs hs (i + 1) hi
    unfold srcAt at h
    simp only [Bool.and_eq_true, Bool.or_eq_true, decide_eq_true_eq] at h
    have h2 := h.1.2.resolve_left (by omega)
    rwa [show (((i + 1 : Nat) : Int)) - 1 = (i : Int) by omega] at h2
  induction d with
  | zero => intro i hi; exact one i hi
  | succ d ih =>
    intro i hi
    have h1 := ih i (by omega)
    have h2 := one (i + d + 1) (by omega)
    have e : i + d + 1 + 1 = i + (d + 1) + 1 := by omega
    rw [e] at h2
    omega
theorem ids_inj (xs : List S37) (hs : sourcesG xs = true) (i j : Nat) (hi : i < xs.length) (hj : j < xs.length) (h : (rd_T37 xs (i : Int)).f0 = (rd_T37 xs (j : Int)).f0) : i = j := by
  rcases Nat.lt_trichotomy i j with hl | hl | hl
  · have := ids_lt xs hs (j - i - 1) i (by omega)
    rw [show i + (j - i - 1) + 1 = j by omega] at this
    omega
  · exact hl
  · have := ids_lt xs hs (i - j - 1) j (by omega)
    rw [show j + (i - j - 1) + 1 = i by omega] at this
    omega
theorem find_self (xs : List S37) (hs : sourcesG xs = true) (i : Nat) (hi : i < xs.length) : findG xs (rd_T37 xs (i : Int)).f0 0 = i := by
  have h0 := findG_mem (rd_T37 xs (i : Int)).f0 xs 0 (by omega) ⟨xs[i], List.getElem_mem hi, by rw [rd37 xs i hi]⟩
  obtain ⟨hl, hv⟩ := findG_val (rd_T37 xs (i : Int)).f0 xs 0 (by omega) h0
  have := ids_inj xs hs (findG xs (rd_T37 xs (i : Int)).f0 0 - 0).toNat i hl hi (by rw [rd37 xs _ hl]; exact hv)
  omega
theorem root_ix (xs : List S37) (hs : sourcesG xs = true) (n : Nat) : ∀ i : Nat, i < xs.length → i < n → ∃ j : Nat, j ≤ i ∧ rootF xs n i = (rd_T37 xs (j : Int)).f0 ∧ (rd_T37 xs (j : Int)).f1 = 0 ∧ ((rd_T37 xs (i : Int)).f1 = 0 → j = i) := by
  induction n with
  | zero => intro i _ h; omega
  | succ n ih =>
    intro i hi hn
    unfold rootF
    by_cases h : (rd_T37 xs (i : Int)).f1 = 0
    · rw [if_pos h]
      exact ⟨i, Nat.le_refl _, rfl, h, fun _ => rfl⟩
    · rw [if_neg h]
      obtain ⟨h0, h1⟩ := src_back xs hs i hi h
      obtain ⟨j, a1, a2, a3, _⟩ := ih (findG xs (rd_T37 xs (i : Int)).f1 0).toNat (by omega) (by omega)
      rw [show (((findG xs (rd_T37 xs (i : Int)).f1 0).toNat : Nat) : Int) = findG xs (rd_T37 xs (i : Int)).f1 0 by omega] at a2
      exact ⟨j, by omega, a2, a3, fun h' => absurd h' h⟩
theorem rootG_self (xs : List S37) (hs : sourcesG xs = true) (i : Nat) (hi : i < xs.length) : rootG xs (rd_T37 xs (i : Int)).f0 = rootF xs xs.length i := by
  unfold rootG
  rw [find_self xs hs i hi, if_neg (by omega), if_pos hs]
/-- the root of an element: an element that is no repeat -/
theorem root_of (xs : List S37) (hs : sourcesG xs = true) (i : Nat) (hi : i < xs.length) : ∃ j : Nat, j ≤ i ∧ rootG xs (rd_T37 xs (i : Int)).f0 = (rd_T37 xs (j : Int)).f0 ∧ (rd_T37 xs (j : Int)).f1 = 0 ∧ ((rd_T37 xs (i : Int)).f1 = 0 → j = i) := by
  rw [rootG_self xs hs i hi]
  exact root_ix xs hs xs.length i hi hi
theorem root_twice (xs : List S37) (id : Int) (h : rootG xs id ≠ 0) : rootG xs (rootG xs id) = rootG xs id := by
  by_cases h1 : findG xs id 0 < 0
  · exact absurd (by unfold rootG; rw [if_pos h1]) h
  · by_cases hs : sourcesG xs = true
    · have hb := findG_bd id xs 0 (by omega)
      obtain ⟨j, a1, a2, a3, _⟩ := root_ix xs hs xs.length (findG xs id 0).toNat (by omega) (by omega)
      rw [show (((findG xs id 0).toNat : Nat) : Int) = findG xs id 0 by omega] at a2
      have e : rootG xs id = (rd_T37 xs (j : Int)).f0 := by unfold rootG; rw [if_neg h1, if_pos hs]; exact a2
      rw [e]
      obtain ⟨j2, _, b2, _, b4⟩ := root_of xs hs j (by omega)
      rw [b2, b4 a3]
    · exact absurd (by unfold rootG; rw [if_neg h1, if_neg hs]) h
theorem not_twisted (xs : List S37) (id : Int) (h : rootG xs id ≠ 0) : twistG xs (rootG xs id) = false := by
  unfold twistG
  rw [root_twice xs id h]
  simp
theorem cnt_split {α : Type} (p q r : α → Bool) (l : List α) : (∀ x, x ∈ l → (r x = (p x || q x)) ∧ ((p x && q x) = false)) → l.countP r = l.countP p + l.countP q := by
  induction l with
  | nil => intro _; rfl
  | cons x l ih =>
    intro h
    have h1 := h x (List.mem_cons_self)
    have h2 := ih (fun y hy => h y (List.mem_cons_of_mem _ hy))
    rw [List.countP_cons, List.countP_cons, List.countP_cons, h2, h1.1]
    have h3 := h1.2
    cases hp : p x <;> cases hq : q x <;> simp_all <;> omega
theorem cnt_one (l : List S37) : l.Pairwise (fun x y => x.f0 ≠ y.f0) → ∀ x, x ∈ l → l.countP (fun y => decide (y.f0 = x.f0)) = 1 := by
  induction l with
  | nil => intro _ x hx; cases hx
  | cons y l ih =>
    intro h x hx
    rw [List.pairwise_cons] at h
    rw [List.countP_cons]
    rcases List.mem_cons.mp hx with rfl | hx
    · have : l.countP (fun y => decide (y.f0 = x.f0)) = 0 := by
        rw [List.countP_eq_zero]
        intro z hz
        have := h.1 z hz
        simp only [decide_eq_true_eq]
        exact fun e => this e.symm
      rw [this]
      simp
    · rw [ih h.2 x hx]
      have := h.1 x hx
      simp [this]
theorem ids_pair (xs : List S37) (hs : sourcesG xs = true) : xs.Pairwise (fun x y => x.f0 ≠ y.f0) := by
  rw [List.pairwise_iff_getElem]
  intro i j hi hj hij e
  have := ids_inj xs hs i j hi hj (by rw [rd37 xs i hi, rd37 xs j hj]; exact e)
  omega
theorem cnt_one_at (xs : List S37) (hs : sourcesG xs = true) (m : Nat) (hm : m < xs.length) : xs.countP (fun x => decide (x.f0 = (rd_T37 xs (m : Int)).f0)) = 1 := by
  rw [rd37 xs m hm]
  exact cnt_one xs (ids_pair xs hs) xs[m] (List.getElem_mem hm)
/-- how many have their root among the first m -/
def under (xs : List S37) (m : Int) : Nat := xs.countP (fun x => decide (findG xs (rootG xs x.f0) 0 < m))
theorem root_mem (xs : List S37) (hs : sourcesG xs = true) (x : S37) (hx : x ∈ xs) : ∃ j : Nat, j < xs.length ∧ rootG xs x.f0 = (rd_T37 xs (j : Int)).f0 ∧ (rd_T37 xs (j : Int)).f1 = 0 ∧ findG xs (rootG xs x.f0) 0 = j ∧ (x.f1 = 0 → x.f0 = (rd_T37 xs (j : Int)).f0) := by
  obtain ⟨i, hi, rfl⟩ := List.mem_iff_getElem.mp hx
  obtain ⟨j, a1, a2, a3, a4⟩ := root_of xs hs i hi
  rw [rd37 xs i hi] at a2 a4
  refine ⟨j, by omega, a2, a3, by rw [a2]; exact find_self xs hs j (by omega), fun h => ?_⟩
  rw [a4 h, rd37 xs i hi]
theorem under_all (xs : List S37) (hs : sourcesG xs = true) : under xs xs.length = xs.length := by
  unfold under
  rw [List.countP_eq_length]
  intro x hx
  obtain ⟨j, hj, _, _, e, _⟩ := root_mem xs hs x hx
  rw [e, decide_eq_true_eq]
  omega
theorem under_none (xs : List S37) (hs : sourcesG xs = true) : under xs 0 = 0 := by
  unfold under
  rw [List.countP_eq_zero]
  intro x hx
  obtain ⟨j, hj, _, _, e, _⟩ := root_mem xs hs x hx
  rw [e, decide_eq_true_eq]
  omega
theorem under_step (xs : List S37) (hs : sourcesG xs = true) (m : Nat) (hm : m < xs.length) : under xs ((m : Int) + 1) = under xs m + (if (rd_T37 xs (m : Int)).f1 = 0 then 1 + (repL xs (rd_T37 xs (m : Int)).f0 xs).length else 0) := by
  unfold under
  rw [cnt_split (fun x => decide (findG xs (rootG xs x.f0) 0 < (m : Int))) (fun x => decide (findG xs (rootG xs x.f0) 0 = (m : Int))) (fun x => decide (findG xs (rootG xs x.f0) 0 < (m : Int) + 1)) xs (by
    intro x hx
    obtain ⟨j, hj, _, _, e, _⟩ := root_mem xs hs x hx
    rw [e]
    rcases Nat.lt_trichotomy j m with h | h | h
    · have h1 : (j : Int) < m := by omega
      have h2 : ¬ (j : Int) = m := by omega
      have h3 : (j : Int) < m + 1 := by omega
      simp [h1, h2, h3]
    · have h1 : ¬ (j : Int) < m := by omega
      have h2 : (j : Int) = m := by omega
      simp [h2]
      omega
    · have h1 : ¬ (j : Int) < m := by omega
      have h2 : ¬ (j : Int) = m := by omega
      have h3 : ¬ (j : Int) < m + 1 := by omega
      simp [h1, h2, h3])]
  congr 1
  by_cases h : (rd_T37 xs (m : Int)).f1 = 0
  · rw [if_pos h, repL, List.length_map, ← List.countP_eq_length_filter]
    rw [cnt_split (fun x => decide (x.f0 = (rd_T37 xs (m : Int)).f0)) (fun x => !decide (x.f0 = (rd_T37 xs (m : Int)).f0) && decide (rootG xs x.f0 = (rd_T37 xs (m : Int)).f0)) (fun x => decide (findG xs (rootG xs x.f0) 0 = (m : Int))) xs (by
      intro x hx
      obtain ⟨j, hj, a2, a3, e, a5⟩ := root_mem xs hs x hx
      rw [e]
      by_cases hx0 : x.f0 = (rd_T37 xs (m : Int)).f0
      · have hxm : x = xs[m] := by
          obtain ⟨i, hi, rfl⟩ := List.mem_iff_getElem.mp hx
          have := ids_inj xs hs i m hi hm (by rw [rd37 xs i hi]; exact hx0)
          subst this
          rfl
        have hf1 : x.f1 = 0 := by rw [hxm, ← rd37 xs m hm]; exact h
        have := ids_inj xs hs j m hj hm (by rw [← a5 hf1]; exact hx0)
        subst this
        simp [hx0]
      · by_cases hr : rootG xs x.f0 = (rd_T37 xs (m : Int)).f0
        · have := ids_inj xs hs j m hj hm (by rw [← a2]; exact hr)
          subst this
          simp [hx0, hr]
        · have : ¬ (j : Int) = (m : Int) := by
            intro e2
            apply hr
            rw [a2, e2]
          simp [hx0, hr, this])]
    rw [cnt_one_at xs hs m hm]
  · rw [if_neg h, List.countP_eq_zero]
    intro x hx
    obtain ⟨j, hj, a2, a3, e, _⟩ := root_mem xs hs x hx
    rw [e, decide_eq_true_eq]
    intro e2
    rw [e2] at a3
    exact h a3
theorem srcFrom_of (xs : List S37) (d : Nat) : ∀ (i : Int), (∀ j : Int, i ≤ j → j < i + d → srcAt xs j = true) → srcFrom xs d i = true := by
  induction d with
  | zero => intro i _; rfl
  | succ d ih =>
    intro i h
    unfold srcFrom
    rw [h i (by omega) (by omega), ih (i + 1) (fun j h1 h2 => h j (by omega) (by omega))]
    rfl
theorem rd_app (l : List S37) (x : S37) (i : Nat) (hi : i < l.length) : rd_T37 (l ++ [x]) (i : Int) = rd_T37 l (i : Int) := by
  rw [rd37 _ i (by simp; omega), rd37 l i hi, List.getElem_append_left hi]
theorem rd_last (l : List S37) (x : S37) : rd_T37 (l ++ [x]) (l.length : Int) = x := by
  rw [rd37 _ l.length (by simp)]
  simp
theorem src_prefix (l : List S37) (x : S37) (h : sourcesG (l ++ [x]) = true) : sourcesG l = true := by
  have hall := sourcesG_at (l ++ [x]) h
  unfold sourcesG at h ⊢
  rw [Bool.and_eq_true, decide_eq_true_eq, List.length_append, List.length_singleton] at h
  rw [Bool.and_eq_true, decide_eq_true_eq]
  refine ⟨by omega, srcFrom_of l l.length 0 (fun j h1 h2 => ?_)⟩
  have hj := hall j.toNat (by simp; omega)
  have e : ((j.toNat : Nat) : Int) = j := by omega
  have e1 := rd_app l x j.toNat (by omega)
  unfold srcAt at hj ⊢
  rw [e] at hj e1
  have e3 : (l ++ [x]).take j.toNat = l.take j.toNat := List.take_append_of_le_length (by omega)
  rw [e1, e3] at hj
  by_cases h0 : j ≤ 0
  · have hd : decide (j ≤ 0) = true := decide_eq_true h0
    rw [hd] at hj ⊢
    simpa only [Bool.true_or] using hj
  · have e2 := rd_app l x (j - 1).toNat (by omega)
    rw [show (((j - 1).toNat : Nat) : Int) = j - 1 by omega] at e2
    rw [e2] at hj
    exact hj
theorem bal_app (l : List S37) (x : S37) (d : Nat) : ∀ (i : Nat) (n : Int), i + d = l.length → balG (l ++ [x]) (d + 1) i n = (if x.f1 = 0 then (if x.f3 = true then wrap64 (balG l d i n + x.f2) else wrap64 (balG l d i n - x.f2)) else balG l d i n) := by
  induction d with
  | zero =>
    intro i n hd
    have hi : (i : Int) = (l.length : Int) := by omega
    unfold balG
    rw [hi, rd_last]
    simp only [balG]
  | succ d ih =>
    intro i n hd
    have e := rd_app l x i (by omega)
    have e3 : (((i + 1 : Nat) : Int)) = (i : Int) + 1 := by omega
    have ih' := fun n => ih (i + 1) n (by omega)
    rw [e3] at ih'
    rw [balG, e]
    conv => rhs; rw [balG]
    by_cases h1 : (rd_T37 l (i : Int)).f1 = 0
    · rw [if_pos h1, if_pos h1]
      by_cases h2 : (rd_T37 l (i : Int)).f3 = true
      · rw [if_pos h2, if_pos h2]
        exact ih' _
      · rw [if_neg h2, if_neg h2]
        exact ih' _
    · rw [if_neg h1, if_neg h1]
      exact ih' _
theorem balance_app (l : List S37) (x : S37) (h : sourcesG (l ++ [x]) = true) : balanceG (l ++ [x]) = (if x.f1 = 0 then (if x.f3 = true then wrap64 (balanceG l + x.f2) else wrap64 (balanceG l - x.f2)) else balanceG l) := by
  unfold balanceG
  rw [if_pos h, if_pos (src_prefix l x h), List.length_append, List.length_singleton]
  exact bal_app l x l.length 0 0 (by omega)
theorem weight_of (l : List S37) (x : S37) (h : sourcesG (l ++ [x]) = true) : 1 ≤ x.f2 ∧ x.f2 ≤ 10 := by
  have hs := sourcesG_at (l ++ [x]) h l.length (by simp)
  unfold srcAt at hs
  rw [rd_last] at hs
  simp only [Bool.and_eq_true, decide_eq_true_eq] at hs
  exact hs.1.1.2
theorem wrap_ne (m w : Int) (h : 1 ≤ w ∧ w ≤ 10) : wrap64 (m + w) ≠ m ∧ wrap64 (m - w) ≠ m := by
  unfold wrap64
  omega
theorem repeats_last (l : List S37) (x : S37) (h : sourcesG (l ++ [x]) = true) (hx : x.f1 ≠ 0) : x.f0 ∈ repL (l ++ [x]) (rootG (l ++ [x]) x.f0) (l ++ [x]) := by
  obtain ⟨j, a1, a2, a3, _⟩ := root_of (l ++ [x]) h l.length (by simp)
  rw [rd_last] at a2
  have hj : j ≠ l.length := by
    intro e
    rw [e, rd_last] at a3
    exact hx a3
  have hne : ¬ x.f0 = rootG (l ++ [x]) x.f0 := by
    intro e
    rw [a2] at e
    have := ids_inj (l ++ [x]) h l.length j (by simp) (by simp; omega) (by rw [rd_last]; exact e)
    exact hj this.symm
  unfold repL
  rw [List.mem_map]
  refine ⟨x, ?_, rfl⟩
  rw [List.mem_filter]
  refine ⟨by simp, ?_⟩
  rw [decide_eq_false hne]
  simp
theorem src_l0 (xs : List S37) (hx : xs.length ≤ 100) (hs : sourcesG xs = true) (d : Nat) : ∀ i : Nat, i + d = xs.length → Ev (fun k => laws_FnSources.l0 k xs ((under xs (i : Int) : Nat) : Int) (i : Int)) true := by
  have ha := impl_AreSources_ev xs
  rw [hs] at ha
  induction d with
  | zero =>
    intro i hd
    apply ev_succ
    simp only [laws_FnSources.l0]
    refine ev_ifn (by omega) ?_
    apply ev_succ
    simp only [laws_FnSources.j3, Bool.false_eq_true, if_false]
    refine Ev.bind ha (ev_ifp rfl (ev_some ?_))
    rw [show (i : Int) = (xs.length : Int) by omega, under_all xs hs]
    simp
  | succ d ih =>
    intro i hd
    have e1 : wrap64 ((i : Int) + 1) = (i : Int) + 1 := w64 (by omega) (by omega)
    have ih' := ih (i + 1) (by omega)
    have e3 : (((i + 1 : Nat) : Int)) = (i : Int) + 1 := by omega
    rw [e3, under_step xs hs i (by omega)] at ih'
    have hu : under xs (i : Int) ≤ xs.length := List.countP_le_length
    apply ev_succ
    simp only [laws_FnSources.l0]
    refine ev_ifp (by omega) (Ev.bind ha ?_)
    apply ev_succ
    simp only [laws_FnSources.j3, if_true, e1]
    refine ev_ifp (by omega) (ev_ifp (by omega) ?_)
    by_cases h : (rd_T37 xs (i : Int)).f1 = 0
    · refine ev_ifp h (Ev.bind (rep_ev xs _ (by omega)) ?_)
      have hr := repL_len xs (rd_T37 xs (i : Int)).f0 xs
      rw [if_pos h] at ih'
      rw [w64 (x := ((under xs (i : Int) : Nat) : Int) + 1) (by omega) (by omega), w64 (by omega) (by omega)]
      rw [show (((under xs (i : Int) + (1 + (repL xs (rd_T37 xs (i : Int)).f0 xs).length) : Nat)) : Int) = ((under xs (i : Int) : Nat) : Int) + 1 + ((repL xs (rd_T37 xs (i : Int)).f0 xs).length : Int) by omega] at ih'
      exact ih'
    · refine ev_ifn h ?_
      rw [if_neg h] at ih'
      simpa using ih'
theorem src_j1 (xs : List S37) (hx : xs.length ≤ 100) : Ev (fun k => laws_FnSources.j1 k xs false) true := by
  apply ev_succ
  simp only [laws_FnSources.j1, Bool.false_eq_true, if_false]
  by_cases hs : sourcesG xs = true
  · have := src_l0 xs hx hs xs.length 0 (by omega)
    rw [show ((0 : Nat) : Int) = 0 by rfl, under_none xs hs] at this
    exact this
  · have ha := impl_AreSources_ev xs
    rw [Bool.eq_false_iff.mpr hs] at ha
    apply ev_succ
    simp only [laws_FnSources.l0]
    have fin : Ev (fun k => laws_FnSources.j3 k xs 0 0 false) true := by
      apply ev_succ
      simp only [laws_FnSources.j3, Bool.false_eq_true, if_false]
      exact Ev.bind ha (ev_ifn (by decide) (Ev.now _))
    by_cases hl : (0 : Int) < (xs.length : Int)
    · exact ev_ifp hl (Ev.bind ha fin)
    · exact ev_ifn hl fin
theorem FnSources : laws_FnSources.Pure := by
  intro b _ _ _
  apply Ev.rounds
  unfold laws_FnSources.f
  simp only [laws_big.f, Option.bind_some, decide_eq_true_eq]
  by_cases hb : (b.length : Int) > 1048576
  · exact ev_ifp hb (Ev.now _)
  refine ev_ifn hb ?_
  obtain ⟨h, hnew⟩ := l1New_ok b (by omega)
  have c0 : CurOk b 0 := curOk0 (by omega)
  have R : Ev (fun k => laws_FnSources.j0 k b) true := by
    obtain ⟨l, i1, h1, e1, hl, c1⟩ := any_ok b 0 h c0
    obtain ⟨v, i2, h2, e2, _, _, _, c2⟩ := l1Below_ok h1 9 c1
    have hd : Ev (fun k => spec_DrawRootOf.f k b) (l, wrap64 (2 * v)) := by
      unfold spec_DrawRootOf.f
      refine Ev.bind hnew (Ev.bind e1 ?_)
      simp only [e2, Option.bind_some]
      exact Ev.now _
    apply ev_succ
    simp only [laws_FnSources.j0]
    refine Ev.bind hd (Ev.bind (impl_RootOf_ev l _ (by omega)) ?_)
    by_cases hr : rootG l (wrap64 (2 * v)) = 0
    · exact ev_ifp hr (src_j1 l (by omega))
    · have h3 := impl_RootOf_ev l (rootG l (wrap64 (2 * v))) (by omega)
      rw [root_twice l _ hr] at h3
      have h4 := impl_IsTwisted_ev l (rootG l (wrap64 (2 * v))) (by omega)
      rw [not_twisted l _ hr] at h4
      exact ev_ifn hr (Ev.bind h3 (ev_ifp rfl (Ev.bind h4 (src_j1 l (by omega)))))
  obtain ⟨l, i1, h1, e1, hl, c1⟩ := any_ok b 0 h c0
  obtain ⟨p, i2, h2, e2, _, _, _, c2⟩ := l1Below_ok h1 9 c1
  obtain ⟨q, i3, h3, e3, _, _, _, c3⟩ := l1Below_ok h2 6 c2
  obtain ⟨u, i4, h4, e4, _, c4⟩ := l1Int_ok h3 [1, 5, 10, 11] (by decide) c3
  have hd : Ev (fun k => spec_DrawAddSource.f k b) (l, wrap64 (10 + p), wrap64 (2 * q), u, false) := by
    unfold spec_DrawAddSource.f
    refine Ev.bind hnew (Ev.bind e1 ?_)
    simp only [e2, e3, e4, Option.bind_some]
    exact Ev.now _
  generalize wrap64 (10 + p) = xi at hd
  generalize wrap64 (2 * q) = xf at hd
  refine Ev.bind hd (Ev.bind (impl_AddSource_ev l xi xf u false (by omega)) ?_)
  unfold addG
  by_cases hs : sourcesG (l ++ [⟨xi, xf, u, false⟩]) = true
  · rw [if_pos hs]
    have ha := impl_AreSources_ev (l ++ [⟨xi, xf, u, false⟩])
    rw [hs] at ha
    have hbal := balance_app l ⟨xi, xf, u, false⟩ hs
    have hw := wrap_ne (balanceG l) u (weight_of l ⟨xi, xf, u, false⟩ hs)
    refine ev_ifp rfl (Ev.bind (impl_BalanceOf_ev _ (by simp; omega)) (Ev.bind ha (ev_ifp rfl ?_)))
    by_cases hf : xf = 0
    · refine ev_ifp hf (Ev.bind (impl_BalanceOf_ev l (by omega)) (ev_ifn ?_ R))
      rw [hbal]
      simp only [hf, if_true, Bool.false_eq_true, if_false]
      exact hw.2
    · refine ev_ifn hf (Ev.bind (impl_BalanceOf_ev l (by omega)) (ev_ifp ?_ (Ev.bind (impl_RootOf_ev _ xi (by simp; omega)) (Ev.bind (rep_ev _ _ (by simp; omega)) (Ev.bind (contains_ev _ xi ?_) (ev_ifp ?_ R))))))
      · rw [hbal, if_neg hf]
      · have := repL_len (l ++ [⟨xi, xf, u, false⟩]) (rootG (l ++ [⟨xi, xf, u, false⟩]) xi) (l ++ [⟨xi, xf, u, false⟩])
        rw [List.length_append, List.length_singleton] at this
        exact Nat.le_trans this (by omega)
      · exact decide_eq_true (repeats_last l ⟨xi, xf, u, false⟩ hs hf)
  · rw [if_neg hs]
    exact ev_ifn Bool.false_ne_true (ev_ifp rfl R)

end Go.Proofs.Ytfcidjlnokhkjaa.Pure
