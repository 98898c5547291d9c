/- Nobody asks in the first or in the last minute, and no more are taken than may be: the law answers true at whatever bytes.
No condition: for every input. -/
import Derived.Test.YtimikonnmcgljaaQFnOffersx16
import Derived.Lib.SlicesCompact
set_option linter.unusedVariables false
set_option linter.unusedSimpArgs false
set_option maxHeartbeats 1000000
namespace Go.Proofs.Ytimikonnmcgljaa.Pure
open Go.RowKit Go.Proofs.Ytimikonnmcgljaa.QFnOffers Go.Proofs.YtimikonnmcgljaaW.PrintWords Go.Proofs.YtimikonnmcgljaaW.PrintLast

theorem w64 {x : Int} (h1 : -9223372036854775808 ≤ x) (h2 : x ≤ 9223372036854775807) : wrap64 x = x := by unfold wrap64; omega
theorem wf64 {x : Int} (h : (Lit.int .i64 x).wf = true) : -9223372036854775808 ≤ x ∧ x ≤ 9223372036854775807 := by
  simp only [Lit.wf, Bool.and_eq_true, decide_eq_true_eq] at h
  have e1 : IntKind.min .i64 = -9223372036854775808 := by decide
  have e2 : IntKind.max .i64 = 9223372036854775807 := by decide
  omega
theorem wfu8 {x : Int} (h : (Lit.int .u8 x).wf = true) : 0 ≤ x ∧ x ≤ 255 := by
  simp only [Lit.wf, Bool.and_eq_true, decide_eq_true_eq] at h
  have e1 : IntKind.min .u8 = 0 := by decide
  have e2 : IntKind.max .u8 = 255 := by decide
  omega
theorem ev_succ {α : Type} {g : Nat → Option α} {r : α} (h : Ev (fun k => g (k + 1)) r) : Ev g r := Ev.step (fun _ => rfl) h
theorem ev_some {α : Type} {r s : α} (h : r = s) : Ev (fun _ => some r) s := by subst h; exact Ev.now r
theorem ev_fix {α : Type} {o : Option α} {r : α} (h : o = some r) : Ev (fun _ => o) r := ⟨0, fun _ _ => h⟩
theorem ev_at {α : Type} {g : Nat → Option α} {r : α} (n : Nat) (h : ∀ k, g (k + n) = some r) : Ev g r :=
  ⟨n, fun k hk => by obtain ⟨m, rfl⟩ : ∃ m, k = m + n := ⟨k - n, by omega⟩; exact h m⟩
theorem ev_bindc {α β : Type} {o : Option α} {f : Nat → α → Option β} {a : α} {r : β} (h : o = some a) (k : Ev (fun n => f n a) r) : Ev (fun n => o.bind (f n)) r := by
  subst h; exact k
theorem ev_ifp {α : Type} {c : Prop} [Decidable c] {a b : Nat → Option α} {r : α} (h : c) (k : Ev a r) : Ev (fun n => if c then a n else b n) r := by
  simpa only [if_pos h] using k
theorem ev_ifn {α : Type} {c : Prop} [Decidable c] {a b : Nat → Option α} {r : α} (h : ¬ c) (k : Ev b r) : Ev (fun n => if c then a n else b n) r := by
  simpa only [if_neg h] using k
theorem drop_rd (xs : List Int) (i : Nat) (h : i < xs.length) : xs.drop i = rd xs (i : Int) :: xs.drop (i + 1) := by
  rw [List.drop_eq_getElem_cons h]
  simp [rd, List.getD_eq_getElem?_getD, h]
theorem spec_l1In_eq (a b c : Int) : spec_l1In.f a b c = some (decide (b ≤ a ∧ a ≤ c)) := by
  unfold spec_l1In.f
  by_cases h : a ≥ b
  · have h' : b ≤ a := h
    simp [h']
  · have h' : ¬ b ≤ a := h
    simp [h']
theorem impl_InRange_eq (a b c : Int) : impl_InRange.f a b c = some (decide (b ≤ a ∧ a ≤ c)) := by
  unfold impl_InRange.f
  by_cases h : b ≤ a <;> simp [h]
theorem rd46 (xs : List S46) (i : Nat) (h : i < xs.length) : rd_T46 xs (i : Int) = xs[i] := by simp [rd_T46, List.getD_eq_getElem?_getD, h]
theorem drop46 (xs : List S46) (i : Nat) (h : i < xs.length) : xs.drop i = rd_T46 xs (i : Int) :: xs.drop (i + 1) := by
  rw [List.drop_eq_getElem_cons h, rd46 xs i h]
def slotG (a b c : Int) : Bool := decide (1 ≤ a ∧ a ≤ 99) && decide (1 ≤ b ∧ b ≤ 1000) && decide (0 ≤ c ∧ c ≤ wrap64 (b + 15))
def mayG (a b c d : Int) : Bool := slotG a b c && decide (60 ≤ d ∧ d ≤ wrap64 (b - 60))
theorem spec_IsSlot_eq (a b c : Int) : spec_IsSlot.f a b c = some (slotG a b c) := by
  simp only [spec_IsSlot.f, spec_l1In_eq, Option.bind_some, slotG]
  by_cases h1 : 1 ≤ a ∧ a ≤ 99
  · by_cases h2 : 1 ≤ b ∧ b ≤ 1000 <;> simp [h1, h2]
  · simp [h1]
theorem spec_MayOffer_eq (a b c d : Int) : spec_MayOffer.f a b c d = some (mayG a b c d) := by
  simp only [spec_MayOffer.f, spec_IsSlot_eq, Option.bind_some, mayG]
  cases h1 : slotG a b c
  · simp
  · by_cases h4 : d ≥ 60
    · have h4' : 60 ≤ d := h4
      simp [h4']
    · have h4' : ¬ 60 ≤ d := h4
      simp [h4']
theorem impl_IsSlot_eq (a b c : Int) : impl_IsSlot.f a b c = some (slotG a b c) := by
  simp only [impl_IsSlot.f, impl_InRange_eq, Option.bind_some, slotG]
  by_cases h1 : 1 ≤ a ∧ a ≤ 99
  · by_cases h2 : 1 ≤ b ∧ b ≤ 1000 <;> simp [h1, h2]
  · simp [h1]
theorem impl_MayOffer_eq (a b c d : Int) : impl_MayOffer.f a b c d = some (mayG a b c d) := by
  simp only [impl_MayOffer.f, impl_IsSlot_eq, impl_InRange_eq, Option.bind_some, mayG]
  cases h1 : slotG a b c <;> simp
def offOk (a b c : Int) (xs : List S46) (i : Nat) (x : S46) : Bool :=
  mayG a b c x.f0 && (decide (i = 0) || decide ((rd_T46 xs ((i : Int) - 1)).f0 < x.f0)) && decide (1 ≤ x.f1 ∧ x.f1 ≤ 99) && decide (x.f1 ≠ a)
def offG (a b c : Int) (xs : List S46) : List S46 → Nat → Int → Option Int
  | [], _, n => some n
  | x :: ys, i, n => if offOk a b c xs i x = true then offG a b c xs ys (i + 1) (if x.f2 = true then n + 1 else n) else none
def offersG (a b c : Int) (xs : List S46) : Bool := slotG a b c && decide (xs.length ≤ 20) && (match offG a b c xs xs 0 0 with | some n => decide (n ≤ 2) | none => false)
theorem spec_off_loop (a b c : Int) (xs : List S46) (hx : xs.length ≤ 1100000) (d : Nat) : ∀ (i : Nat) (n : Int), i + d = xs.length → 0 ≤ n → n ≤ i →
    Ev (fun k => spec_AreOffers.l0 k xs n (i : Int) a b c) (match offG a b c xs (xs.drop i) i n with | some m => slotG a b c && decide (xs.length ≤ 20) && decide (m ≤ 2) | none => false) := by
  induction d with
  | zero =>
    intro i n hd hn0 hn1
    apply ev_succ
    simp only [spec_AreOffers.l0, spec_IsSlot_eq, Option.bind_some]
    rw [List.drop_eq_nil_of_le (by omega)]
    simp only [offG]
    refine ev_ifn (by omega) ?_
    by_cases h1 : slotG a b c = true
    · refine ev_ifp h1 ?_
      by_cases h2 : (xs.length : Int) ≤ 20
      · have h2' : xs.length ≤ 20 := by omega
        exact ev_ifp h2 (ev_some (by simp [h1, h2']))
      · have h2' : ¬ xs.length ≤ 20 := by omega
        exact ev_ifn h2 (ev_some (by simp [h2']))
    · exact ev_ifn h1 (ev_some (by simp [h1]))
  | succ d ih =>
    intro i n hd hn0 hn1
    rw [drop46 xs i (by omega)]
    have e1 : wrap64 ((i : Int) + 1) = ((i + 1 : Nat) : Int) := by rw [w64 (by omega) (by omega)]; simp
    have e2 : wrap64 ((i : Int) - 1) = (i : Int) - 1 := w64 (by omega) (by omega)
    have e3 : wrap64 (n + 1) = n + 1 := w64 (by omega) (by omega)
    have hbad : ∀ v : Bool, v = true → Ev (fun k => spec_AreOffers.j1 k xs n (i : Int) v a b c) false := by
      intro v hv
      apply ev_succ
      simp only [spec_AreOffers.j1, hv, if_true]
      exact Ev.now _
    have hgood : ∀ v : Bool, v = false → Ev (fun k => spec_AreOffers.j1 k xs n (i : Int) v a b c) (match offG a b c xs (xs.drop (i + 1)) (i + 1) (if (rd_T46 xs (i : Int)).f2 = true then n + 1 else n) with | some m => slotG a b c && decide (xs.length ≤ 20) && decide (m ≤ 2) | none => false) := by
      intro v hv
      apply ev_succ
      simp only [spec_AreOffers.j1, hv, Bool.false_eq_true, if_false, e1, e3]
      refine ev_ifp (by omega) (ev_ifp (by omega) ?_)
      by_cases h : (rd_T46 xs (i : Int)).f2 = true
      · rw [if_pos h]
        exact ev_ifp h (ih (i + 1) (n + 1) (by omega) (by omega) (by omega))
      · rw [if_neg h]
        exact ev_ifn h (ih (i + 1) n (by omega) (by omega) (by omega))
    have key : ∀ (v : Bool), (v = true → offOk a b c xs i (rd_T46 xs (i : Int)) = false) → (v = false → offOk a b c xs i (rd_T46 xs (i : Int)) = true) →
        Ev (fun k => spec_AreOffers.j1 k xs n (i : Int) v a b c) (match offG a b c xs (rd_T46 xs (i : Int) :: xs.drop (i + 1)) i n with | some m => slotG a b c && decide (xs.length ≤ 20) && decide (m ≤ 2) | none => false) := by
      intro v h1 h2
      unfold offG
      cases v
      · rw [if_pos (h2 rfl)]
        exact hgood false rfl
      · rw [if_neg (by simp [h1 rfl])]
        exact hbad true rfl
    apply ev_succ
    simp only [spec_AreOffers.l0, spec_MayOffer_eq, spec_l1In_eq, Option.bind_some, e2]
    refine ev_ifp (by omega) (ev_ifp (by omega) ?_)
    revert key
    generalize rd_T46 xs (i : Int) = x
    intro key
    by_cases h1 : mayG a b c x.f0 = true
    · refine ev_ifp h1 ?_
      by_cases h0 : (i : Int) > 0
      · have h0' : ¬ i = 0 := by omega
        refine ev_ifp h0 (ev_ifp (by omega) (ev_ifp (by omega) ?_))
        by_cases h3 : (rd_T46 xs ((i : Int) - 1)).f0 ≥ x.f0
        · have h3' : ¬ (rd_T46 xs ((i : Int) - 1)).f0 < x.f0 := by omega
          exact ev_ifp h3 (key true (fun _ => by simp [offOk, h0', h3']) (fun h => by cases h))
        · have h3' : (rd_T46 xs ((i : Int) - 1)).f0 < x.f0 := by omega
          refine ev_ifn h3 ?_
          by_cases h4 : 1 ≤ x.f1 ∧ x.f1 ≤ 99
          · exact ev_ifp (by simpa using h4) (key _ (fun h => by simp at h; simp [offOk, h]) (fun h => by simp at h; simp [offOk, h1, h3', h4, h]))
          · exact ev_ifn (by simpa using h4) (key true (fun _ => by simp [offOk, h4]) (fun h => by cases h))
      · have h0' : i = 0 := by omega
        refine ev_ifn h0 ?_
        by_cases h4 : 1 ≤ x.f1 ∧ x.f1 ≤ 99
        · exact ev_ifp (by simpa using h4) (key _ (fun h => by simp at h; simp [offOk, h]) (fun h => by simp at h; simp [offOk, h1, h0', h4, h]))
        · exact ev_ifn (by simpa using h4) (key true (fun _ => by simp [offOk, h4]) (fun h => by cases h))
    · exact ev_ifn h1 (key true (fun _ => by simp [offOk, h1]) (fun h => by cases h))
theorem spec_AreOffers_ev (a b c : Int) (xs : List S46) (hx : xs.length ≤ 1100000) : Ev (fun k => spec_AreOffers.f k a b c xs) (offersG a b c xs) := by
  unfold spec_AreOffers.f offersG
  have := spec_off_loop a b c xs hx xs.length 0 0 (by omega) (by omega) (by omega)
  simp only [List.drop_zero] at this
  revert this
  cases offG a b c xs xs 0 0 <;> simp
theorem impl_off_loop (a b c : Int) (xs : List S46) (hx : xs.length ≤ 1100000) (d : Nat) : ∀ (i : Nat) (n : Int), i + d = xs.length → 0 ≤ n → n ≤ i →
    Ev (fun k => impl_AreOffers.l0 k xs n xs (xs.length : Int) (i : Int) a b c) (match offG a b c xs (xs.drop i) i n with | some m => decide (m ≤ 2) | none => false) := by
  induction d with
  | zero =>
    intro i n hd hn0 hn1
    apply ev_succ
    simp only [impl_AreOffers.l0]
    rw [List.drop_eq_nil_of_le (by omega)]
    simp only [offG]
    exact ev_ifn (by omega) (Ev.now _)
  | succ d ih =>
    intro i n hd hn0 hn1
    rw [drop46 xs i (by omega)]
    have e1 : wrap64 ((i : Int) + 1) = ((i + 1 : Nat) : Int) := by rw [w64 (by omega) (by omega)]; simp
    have e2 : wrap64 ((i : Int) - 1) = (i : Int) - 1 := w64 (by omega) (by omega)
    have e3 : wrap64 (n + 1) = n + 1 := w64 (by omega) (by omega)
    have key : ∀ (v : Bool) (x : S46), (v = true → offOk a b c xs i x = false) → (v = false → offOk a b c xs i x = true) →
        Ev (fun k => impl_AreOffers.j2 k xs n xs (xs.length : Int) (i : Int) v a b c x.f0 x.f1 x.f2) (match offG a b c xs (x :: xs.drop (i + 1)) i n with | some m => decide (m ≤ 2) | none => false) := by
      intro v x h1 h2
      unfold offG
      cases v
      · rw [if_pos (h2 rfl)]
        apply ev_succ
        simp only [impl_AreOffers.j2, Bool.false_eq_true, if_false, e1, e3]
        by_cases h : x.f2 = true
        · rw [if_pos h]
          exact ev_ifp h (ih (i + 1) (n + 1) (by omega) (by omega) (by omega))
        · rw [if_neg h]
          exact ev_ifn h (ih (i + 1) n (by omega) (by omega) (by omega))
      · rw [if_neg (by simp [h1 rfl])]
        apply ev_succ
        simp only [impl_AreOffers.j2, if_true]
        exact Ev.now _
    apply ev_succ
    simp only [impl_AreOffers.l0, impl_MayOffer_eq, impl_InRange_eq, Option.bind_some, e2]
    refine ev_ifp (by omega) (ev_ifp (by omega) (ev_ifp (by omega) ?_))
    generalize rd_T46 xs (i : Int) = x
    by_cases h1 : mayG a b c x.f0 = true
    · refine ev_ifp h1 ?_
      by_cases h0 : (i : Int) > 0
      · have h0' : ¬ i = 0 := by omega
        refine ev_ifp h0 (ev_ifp (by omega) (ev_ifp (by omega) ?_))
        by_cases h3 : x.f0 ≤ (rd_T46 xs ((i : Int) - 1)).f0
        · have h3' : ¬ (rd_T46 xs ((i : Int) - 1)).f0 < x.f0 := by omega
          exact ev_ifp h3 (key true x (fun _ => by simp [offOk, h0', h3']) (fun h => by cases h))
        · have h3' : (rd_T46 xs ((i : Int) - 1)).f0 < x.f0 := by omega
          refine ev_ifn h3 ?_
          by_cases h4 : 1 ≤ x.f1 ∧ x.f1 ≤ 99
          · exact ev_ifp (by simpa using h4) (key _ x (fun h => by simp at h; simp [offOk, h]) (fun h => by simp at h; simp [offOk, h1, h3', h4, h]))
          · exact ev_ifn (by simpa using h4) (key true x (fun _ => by simp [offOk, h4]) (fun h => by cases h))
      · have h0' : i = 0 := by omega
        refine ev_ifn h0 ?_
        by_cases h4 : 1 ≤ x.f1 ∧ x.f1 ≤ 99
        · exact ev_ifp (by simpa using h4) (key _ x (fun h => by simp at h; simp [offOk, h]) (fun h => by simp at h; simp [offOk, h1, h0', h4, h]))
        · exact ev_ifn (by simpa using h4) (key true x (fun _ => by simp [offOk, h4]) (fun h => by cases h))
    · exact ev_ifn h1 (key true x (fun _ => by simp [offOk, h1]) (fun h => by cases h))
theorem impl_AreOffers_ev (a b c : Int) (xs : List S46) (hx : xs.length ≤ 1100000) : Ev (fun k => impl_AreOffers.f k a b c xs) (offersG a b c xs) := by
  unfold impl_AreOffers.f offersG
  rw [impl_IsSlot_eq]
  simp only [Option.bind_some]
  by_cases h1 : slotG a b c = true
  · refine ev_ifp h1 ?_
    apply ev_succ
    simp only [impl_AreOffers.j0]
    by_cases h2 : xs.length ≤ 20
    · refine ev_ifn (by simp; omega) ?_
      have := impl_off_loop a b c xs hx xs.length 0 0 (by omega) (by omega) (by omega)
      simp only [List.drop_zero] at this
      simpa [h1, h2] using this
    · exact ev_ifp (by simp; omega) (ev_some (by simp [h2]))
  · refine ev_ifn h1 ?_
    apply ev_succ
    simp only [impl_AreOffers.j0, if_true]
    exact ev_some (by simp [h1])
def makG (a b c : Int) (l : List S46) (x : S46) : List S46 × Bool := if offersG a b c (l ++ [x]) = true then (l ++ [x], true) else (l, false)
theorem makG_len (a b c : Int) (l : List S46) (x : S46) : (makG a b c l x).1.length ≤ l.length + 1 := by
  unfold makG
  split <;> simp
theorem spec_MakeOffer_ev (a b c : Int) (l : List S46) (x y : Int) (z : Bool) (hl : l.length ≤ 1048576) : Ev (fun k => spec_MakeOffer.f k a b c l x y z) (makG a b c l ⟨x, y, z⟩) := by
  unfold spec_MakeOffer.f makG
  simp only [Option.bind_some, List.nil_append, List.length_nil, List.length_singleton]
  refine ev_ifp (by omega) (ev_ifp (by omega) (Ev.bind (spec_AreOffers_ev a b c _ (by simp; omega)) ?_))
  by_cases h : offersG a b c (l ++ [⟨x, y, z⟩]) = true
  · exact ev_ifp h (ev_some (if_pos h).symm)
  · exact ev_ifn h (ev_ifp (by omega) (ev_some (if_neg h).symm))
theorem impl_Offer_eq (l : List S46) (hl : l.length ≤ 1048576) : impl_Offer.f l = some l := by
  unfold impl_Offer.f
  simp only [Option.bind_some, List.nil_append, List.length_nil]
  rw [if_pos (by omega)]
theorem impl_MakeOffer_ev (a b c : Int) (l : List S46) (x y : Int) (z : Bool) (hl : l.length ≤ 1048576) : Ev (fun k => impl_MakeOffer.f k a b c l x y z) (makG a b c l ⟨x, y, z⟩) := by
  unfold impl_MakeOffer.f makG
  rw [impl_Offer_eq l hl]
  simp only [Option.bind_some, List.length_singleton]
  refine ev_ifp (by omega) (Ev.bind (impl_AreOffers_ev a b c _ (by simp; omega)) ?_)
  by_cases h : offersG a b c (l ++ [⟨x, y, z⟩]) = true
  · exact ev_ifp h (ev_some (if_pos h).symm)
  · exact ev_ifn h (ev_some (if_neg h).symm)
theorem and255 (a : Int) : 0 ≤ Go.bits .and .i64 a 255 ∧ Go.bits .and .i64 a 255 ≤ 255 := by
  have hle : (BitVec.ofInt 64 a &&& BitVec.ofInt 64 255).toNat ≤ 255 := by
    rw [BitVec.toNat_and]
    exact Nat.le_trans Nat.and_le_right (by decide)
  show 0 ≤ IntKind.i64.wrap ((BitVec.ofInt 64 a &&& BitVec.ofInt 64 255).toNat : Int) ∧ IntKind.i64.wrap ((BitVec.ofInt 64 a &&& BitVec.ofInt 64 255).toNat : Int) ≤ 255
  rw [IntKind.wrap_i64]
  omega
def CurOk (b : List Int) (i : Int) : Prop := 0 ≤ i ∧ i ≤ b.length ∧ b.length ≤ 1048576
theorem curOk0 {b : List Int} (hb : b.length ≤ 1048576) : CurOk b 0 := ⟨by omega, by omega, hb⟩
theorem l1Byte_ok {b : List Int} {i : Int} (h : Int) (hc : CurOk b i) : ∃ x i' h', spec_l1Byte.f b i h = some (x, i', h') ∧ 0 ≤ x ∧ x ≤ 255 ∧ CurOk b i' := by
  obtain ⟨h0, h1, h2⟩ := hc
  unfold spec_l1Byte.f
  by_cases hi : i < (b.length : Int)
  · rw [if_pos hi, if_pos h0]
    exact ⟨_, _, _, rfl, (and255 _).1, (and255 _).2, by rw [w64 (by omega) (by omega)]; exact ⟨by omega, by omega, h2⟩⟩
  · rw [if_neg hi]
    exact ⟨_, _, _, rfl, (and255 _).1, (and255 _).2, h0, h1, h2⟩
theorem l1Below_ok {b : List Int} {i : Int} (h n : Int) (hc : CurOk b i) : ∃ x i' h', spec_l1Below.f b i h n = some (x, i', h') ∧ 0 ≤ x ∧ (0 < n → x < n) ∧ (n ≤ 0 → x = 0) ∧ CurOk b i' := by
  unfold spec_l1Below.f
  by_cases h1 : n ≤ 0
  · rw [if_pos h1]
    exact ⟨0, i, h, rfl, by omega, by omega, fun _ => rfl, hc⟩
  · rw [if_neg h1]
    have hn : n ≠ 0 := by omega
    by_cases h2 : n ≤ 256
    · rw [if_pos h2]
      obtain ⟨x, i', h', e, hx0, hx1, hc'⟩ := l1Byte_ok h hc
      rw [e]
      simp only [Option.bind_some, if_neg hn]
      exact ⟨_, _, _, rfl, Int.tmod_nonneg _ hx0, fun hp => Int.tmod_lt_of_pos _ hp, fun hq => absurd hq h1, hc'⟩
    · rw [if_neg h2]
      obtain ⟨x, i1, g1, e1, hx0, hx1, c1⟩ := l1Byte_ok h hc
      obtain ⟨y, i2, g2, e2, hy0, hy1, c2⟩ := l1Byte_ok g1 c1
      obtain ⟨z, i3, g3, e3, hz0, hz1, c3⟩ := l1Byte_ok g2 c2
      simp only [e1, e2, e3, Option.bind_some, if_neg hn]
      refine ⟨_, _, _, rfl, Int.tmod_nonneg _ ?_, fun hp => Int.tmod_lt_of_pos _ hp, fun hq => absurd hq h1, c3⟩
      unfold wrap64
      omega
theorem l1New_loop (b : List Int) (hb : b.length ≤ 1048576) (d : Nat) : ∀ (i : Nat) (h : Int), i + d = b.length → ∃ h', Ev (fun k => spec_l1New.l0 k b h (i : Int)) (b, 0, h') := by
  induction d with
  | zero =>
    intro i h hd
    refine ⟨h, ?_⟩
    apply ev_succ
    simp only [spec_l1New.l0]
    refine ev_ifn (by omega) ?_
    exact Ev.now _
  | succ d ih =>
    intro i h hd
    by_cases h4 : (i : Int) < 4000
    · obtain ⟨h', e⟩ := ih (i + 1) (Go.bits .and .i64 (wrap64 ((wrap64 ((wrap64 (h * 137)) + (wrap64 (rd b (i : Int))))) + 11)) 1073741823) (by omega)
      refine ⟨h', ?_⟩
      apply ev_succ
      simp only [spec_l1New.l0]
      refine ev_ifp (by omega) (ev_ifp h4 (ev_ifp (by omega) ?_))
      rw [w64 (x := (i : Int) + 1) (by omega) (by omega)]
      simpa using e
    · refine ⟨h, ?_⟩
      apply ev_succ
      simp only [spec_l1New.l0]
      refine ev_ifp (by omega) (ev_ifn h4 ?_)
      exact Ev.now _
theorem l1New_ok (b : List Int) (hb : b.length ≤ 1048576) : ∃ h, Ev (fun k => spec_l1New.f k b) (b, 0, h) := by
  unfold spec_l1New.f
  exact l1New_loop b hb b.length 0 _ (by omega)
theorem rd_mem (l : List Int) (j : Int) (h0 : 0 ≤ j) (h1 : j < l.length) : rd l j ∈ l := by
  unfold rd
  have h : j.toNat < l.length := by omega
  simp [List.getD_eq_getElem?_getD, h]
theorem l1Int_ok {b : List Int} {i : Int} (h : Int) (l : List Int) (hl : 0 < l.length) (hc : CurOk b i) : ∃ v i' h', spec_l1Int.f b i h l = some (v, i', h') ∧ v ∈ l ∧ CurOk b i' := by
  obtain ⟨x, i', h', e, h0, h1, _, c⟩ := l1Below_ok h (l.length : Int) hc
  unfold spec_l1Int.f
  rw [e]
  simp only [Option.bind_some]
  rw [if_pos h0, if_pos (h1 (by omega))]
  exact ⟨_, _, _, rfl, rd_mem l x h0 (h1 (by omega)), c⟩
theorem l1Once_ok {b : List Int} {i : Int} (h n : Int) (hc : CurOk b i) : ∃ t i' h', spec_l1Once.f b i h n = some (t, i', h') ∧ CurOk b i' := by
  obtain ⟨x, i', h', e, h0, h1, _, c⟩ := l1Below_ok h n hc
  unfold spec_l1Once.f
  rw [e]
  simp only [Option.bind_some]
  exact ⟨_, _, _, rfl, c⟩
theorem up_uniq : ∀ (r s : List Int), r.Pairwise (· < ·) → s.Pairwise (· < ·) → (∀ x, x ∈ r ↔ x ∈ s) → r = s
  | [], [], _, _, _ => rfl
  | [], y :: s, _, _, h => absurd ((h y).mpr List.mem_cons_self) (by simp)
  | x :: r, [], _, _, h => absurd ((h x).mp List.mem_cons_self) (by simp)
  | x :: r, y :: s, hr, hs, h => by
    rw [List.pairwise_cons] at hr hs
    have hxy : x = y := by
      rcases List.mem_cons.mp ((h x).mp List.mem_cons_self) with e | e
      · exact e
      · rcases List.mem_cons.mp ((h y).mpr List.mem_cons_self) with e2 | e2
        · exact e2.symm
        · have h1 := hs.1 x e
          have h2 := hr.1 y e2
          omega
    subst hxy
    have := up_uniq r s hr.2 hs.2 (fun z => by
      have hz := h z
      rw [List.mem_cons, List.mem_cons] at hz
      constructor
      · intro m
        have hne : z ≠ x := by have := hr.1 z m; omega
        exact (hz.mp (.inr m)).resolve_left hne
      · intro m
        have hne : z ≠ x := by have := hs.1 z m; omega
        exact (hz.mpr (.inr m)).resolve_left hne)
    rw [this]
theorem compact_up (zs : List Int) (h : zs.Pairwise (· ≤ ·)) : (Go.Lib.compact zs).Pairwise (· < ·) ∧ ∀ x, x ∈ Go.Lib.compact zs ↔ x ∈ zs := by
  have key : ∀ m, m ≤ zs.length → (Go.Lib.compactUpTo zs.toArray m).Pairwise (· < ·) ∧ (∀ x, x ∈ Go.Lib.compactUpTo zs.toArray m ↔ x ∈ zs.take m) := by
    intro m
    induction m with
    | zero => intro _; simp [Go.Lib.compactUpTo]
    | succ m ih =>
      intro hm
      obtain ⟨h1, h2⟩ := ih (by omega)
      have hml : m < zs.length := by omega
      have em : zs.toArray[m]! = zs[m] := by simp [hml]
      rw [Go.Lib.compactUpTo_succ, List.take_succ_eq_append_getElem hml]
      by_cases hk : Go.Lib.keeps zs.toArray m = true
      · rw [if_pos hk, em]
        refine ⟨?_, fun x => by rw [List.mem_append, List.mem_append, h2]⟩
        rw [List.pairwise_append]
        refine ⟨h1, by simp, fun a ha b hb => ?_⟩
        rw [List.mem_singleton] at hb
        subst hb
        rw [h2, List.mem_iff_getElem] at ha
        obtain ⟨j, hj, rfl⟩ := ha
        rw [List.length_take] at hj
        rw [List.getElem_take]
        have hm0 : m ≠ 0 := by omega
        have ek : zs[m] ≠ zs[m - 1] := by
          have : zs.toArray[m - 1]! = zs[m - 1] := by simp [show m - 1 < zs.length by omega]
          unfold Go.Lib.keeps at hk
          rw [decide_eq_true_eq] at hk
          have := hk.resolve_left hm0
          simpa [hml, show m - 1 < zs.length by omega] using this
        rw [List.pairwise_iff_getElem] at h
        have l1 : zs[m - 1] ≤ zs[m] := h (m - 1) m (by omega) hml (by omega)
        have l2 : zs[j] ≤ zs[m - 1] := by
          by_cases e : j = m - 1
          · subst e; exact Int.le_refl _
          · exact h j (m - 1) (by omega) (by omega) (by omega)
        omega
      · rw [if_neg hk, List.append_nil]
        refine ⟨h1, fun x => ?_⟩
        rw [h2, List.mem_append, List.mem_singleton]
        constructor
        · exact .inl
        · rintro (h3 | rfl)
          · exact h3
          · unfold Go.Lib.keeps at hk
            rw [decide_eq_true_eq, not_or] at hk
            obtain ⟨hm0, he⟩ := hk
            have he2 : zs[m] = zs[m - 1] := by
              have := Classical.not_not.mp he
              simpa [hml, show m - 1 < zs.length by omega] using this
            rw [he2, List.mem_iff_getElem]
            exact ⟨m - 1, by simp; omega, by simp⟩
  have := key zs.length (Nat.le_refl _)
  rw [List.take_length] at this
  exact this
theorem sort_up (zs : List Int) : (zs.mergeSort fun x y => decide (x ≤ y)).Pairwise (· ≤ ·) := by
  have := List.pairwise_mergeSort (le := fun x y : Int => decide (x ≤ y)) (fun a b c => by simp only [decide_eq_true_eq]; omega) (fun a b => by simp only [Bool.or_eq_true, decide_eq_true_eq]; omega) zs
  exact this.imp (fun h => of_decide_eq_true h)
theorem compact_sort (zs r : List Int) (h : r.Pairwise (· < ·)) (hm : ∀ x, x ∈ r ↔ x ∈ zs) : Go.Lib.compact (zs.mergeSort fun x y => decide (x ≤ y)) = r := by
  obtain ⟨h1, h2⟩ := compact_up _ (sort_up zs)
  exact up_uniq _ _ h1 h (fun x => by rw [h2, List.mem_mergeSort, hm])
theorem contains_loop (xs : List Int) (v : Int) (hx : xs.length ≤ 1048576) (d : Nat) : ∀ i : Nat, i + d = xs.length → Ev (fun k => laws_contains.l0 k xs v (i : Int)) (decide (v ∈ xs.drop i)) := by
  induction d with
  | zero =>
    intro i hd
    apply ev_succ
    simp only [laws_contains.l0]
    rw [List.drop_eq_nil_of_le (by omega)]
    exact ev_ifn (by omega) (ev_some (by simp))
  | succ d ih =>
    intro i hd
    apply ev_succ
    have e1 : wrap64 ((i : Int) + 1) = ((i + 1 : Nat) : Int) := by rw [w64 (by omega) (by omega)]; simp
    simp only [laws_contains.l0, e1]
    refine ev_ifp (by omega) (ev_ifp (by omega) ?_)
    rw [drop_rd xs i (by omega)]
    by_cases h : rd xs (i : Int) = v
    · exact ev_ifp h (ev_some (by simp [h]))
    · refine ev_ifn h ?_
      have h' : ¬ v = rd xs (i : Int) := fun e => h e.symm
      simpa [h'] using ih (i + 1) (by omega)
theorem contains_ev (xs : List Int) (v : Int) (hx : xs.length ≤ 1048576) : Ev (fun k => laws_contains.f k xs v) (decide (v ∈ xs)) := by
  unfold laws_contains.f
  simpa using contains_loop xs v hx xs.length 0 (by omega)
theorem any_loop (b : List Int) (p q r : Int) (d : Nat) : ∀ (i h : Int) (ys : List S46) (x m : Int), CurOk b i → m ≤ (d : Int) → ys.length + d ≤ 100 →
    ∃ s t u l i' h', Ev (fun k => spec_l28Any.l0 k ys x m b i h p q r) (s, t, u, l, i', h') ∧ l.length ≤ 100 ∧ CurOk b i' := by
  have out : ∀ (i h : Int) (ys : List S46) (x m : Int), CurOk b i → ys.length ≤ 100 → ¬ m > 0 → ∃ s t u l i' h', Ev (fun k => spec_l28Any.l0 k ys x m b i h p q r) (s, t, u, l, i', h') ∧ l.length ≤ 100 ∧ CurOk b i' := by
    intro i h ys x m hc hy hm
    obtain ⟨v, i1, h1, e1, v0, v1, _, c1⟩ := l1Below_ok h 10 hc
    by_cases hv0 : v = 0
    · obtain ⟨u, i2, h2, e2, _, c2⟩ := l1Int_ok h1 [119, 120, 1000, 1001] (by simp) c1
      refine ⟨p, u, r, ys, i2, h2, ev_succ ?_, hy, c2⟩
      simp only [spec_l28Any.l0, e1, e2, Option.bind_some]
      exact ev_ifn hm (ev_ifp hv0 (Ev.now _))
    · by_cases hv1 : v = 1
      · refine ⟨2, q, r, ys, i1, h1, ev_succ ?_, hy, c1⟩
        simp only [spec_l28Any.l0, e1, Option.bind_some]
        exact ev_ifn hm (ev_ifn hv0 (ev_ifp hv1 (Ev.now _)))
      · refine ⟨p, q, r, ys, i1, h1, ev_succ ?_, hy, c1⟩
        simp only [spec_l28Any.l0, e1, Option.bind_some]
        exact ev_ifn hm (ev_ifn hv0 (ev_ifn hv1 (Ev.now _)))
  induction d with
  | zero =>
    intro i h ys x m hc hm hy
    exact out i h ys x m hc (by omega) (by omega)
  | succ d ih =>
    intro i h ys x m hc hm hy
    by_cases h0 : m > 0
    · obtain ⟨v1, i1, h1, e1, _, _, _, c1⟩ := l1Below_ok h 60 hc
      obtain ⟨v2, i2, h2, e2, _, _, _, c2⟩ := l1Below_ok h1 5 c1
      obtain ⟨t, i3, h3, e3, c3⟩ := l1Once_ok h2 3 c2
      have w1 : wrap64 (m - 1) = m - 1 := w64 (by omega) (by omega)
      have hmk := spec_MakeOffer_ev p q r ys (wrap64 ((wrap64 (x + 1)) + v1)) (wrap64 (1 + v2)) t (by omega)
      have hl := makG_len p q r ys ⟨wrap64 ((wrap64 (x + 1)) + v1), wrap64 (1 + v2), t⟩
      obtain ⟨s', t', u', l', i', h', he, q'⟩ := ih i3 h3 (makG p q r ys ⟨wrap64 ((wrap64 (x + 1)) + v1), wrap64 (1 + v2), t⟩).1 (wrap64 ((wrap64 (x + 1)) + v1)) (m - 1) c3 (by omega) (by omega)
      refine ⟨s', t', u', l', i', h', ev_succ ?_, q'⟩
      simp only [spec_l28Any.l0, e1, e2, e3, Option.bind_some, w1]
      exact ev_ifp h0 (Ev.bind hmk he)
    · exact out i h ys x m hc (by omega) h0
theorem any_ok (b : List Int) (i h : Int) (hc : CurOk b i) : ∃ s t u l i' h', Ev (fun k => spec_l28Any.f k b i h) (s, t, u, l, i', h') ∧ l.length ≤ 100 ∧ CurOk b i' := by
  obtain ⟨v1, i1, h1, e1, _, _, _, c1⟩ := l1Below_ok h 6 hc
  obtain ⟨v2, i2, h2, e2, w0, w1, _, c2⟩ := l1Below_ok h1 7 c1
  have w2 := w1 (by omega)
  obtain ⟨s, t, u, l, i', h', he, q⟩ := any_loop b 7 (wrap64 (60 * (wrap64 (2 + v1)))) 0 7 i2 h2 [] 50 v2 c2 (by omega) (by simp)
  refine ⟨s, t, u, l, i', h', ?_, q⟩
  simp only [spec_l28Any.f, e1, e2, Option.bind_some]
  exact he
theorem drawMake_ev (b : List Int) (hb : b.length ≤ 1048576) : ∃ s t u l x y z, Ev (fun k => spec_DrawMakeOffer.f k b) (s, t, u, l, x, y, z) ∧ l.length ≤ 100 := by
  obtain ⟨h, hn⟩ := l1New_ok b hb
  obtain ⟨s, t, u, l, i1, h1, ha, hl, c1⟩ := any_ok b 0 h (curOk0 hb)
  obtain ⟨v2, i2, h2, e2, _, _, _, c2⟩ := l1Below_ok h1 400 c1
  obtain ⟨v3, i3, h3, e3, _, c3⟩ := l1Int_ok h2 [1, 3, 7, 99, 100] (by simp) c2
  obtain ⟨v4, i4, h4, e4, c4⟩ := l1Once_ok h3 2 c3
  refine ⟨s, t, u, l, wrap64 (60 + v2), v3, v4, ?_, hl⟩
  unfold spec_DrawMakeOffer.f
  refine Ev.bind hn (Ev.bind ha ?_)
  simp only [e2, e3, e4, Option.bind_some]
  exact Ev.now _
theorem drawRefused_ev (b : List Int) (hb : b.length ≤ 1048576) : ∃ l, Ev (fun k => spec_DrawRefusedOf.f k b) l ∧ l.length ≤ 100 := by
  obtain ⟨h, hn⟩ := l1New_ok b hb
  obtain ⟨s, t, u, l, i1, h1, ha, hl, c1⟩ := any_ok b 0 h (curOk0 hb)
  refine ⟨l, ?_, hl⟩
  unfold spec_DrawRefusedOf.f
  exact Ev.bind hn (Ev.bind ha (Ev.now _))
def tkN (ys : List S46) (w : Int) : Nat := ys.countP (fun x => decide (x.f1 = w) && x.f2)
theorem taken_loop (xs : List S46) (w : Int) (hx : xs.length ≤ 1048576) (d : Nat) : ∀ i n : Nat, i + d = xs.length → n ≤ i →
    Ev (fun k => impl_TakenFrom.l0 k w (n : Int) xs (xs.length : Int) (i : Int)) ((n + tkN (xs.drop i) w : Nat) : Int) := by
  induction d with
  | zero =>
    intro i n hd hn
    apply ev_succ
    simp only [impl_TakenFrom.l0]
    rw [List.drop_eq_nil_of_le (by omega)]
    exact ev_ifn (by omega) (ev_some (by simp [tkN]))
  | succ d ih =>
    intro i n hd hn
    rw [drop46 xs i (by omega)]
    have e1 : wrap64 ((i : Int) + 1) = ((i + 1 : Nat) : Int) := by rw [w64 (by omega) (by omega)]; simp
    have e2 : wrap64 ((n : Int) + 1) = ((n + 1 : Nat) : Int) := by rw [w64 (by omega) (by omega)]; simp
    apply ev_succ
    simp only [impl_TakenFrom.l0, e1, e2]
    refine ev_ifp (by omega) (ev_ifp (by omega) (ev_ifp (by omega) ?_))
    generalize rd_T46 xs (i : Int) = x
    by_cases h1 : x.f1 = w
    · by_cases h2 : x.f2 = true
      · have e : n + tkN (x :: xs.drop (i + 1)) w = n + 1 + tkN (xs.drop (i + 1)) w := by
          unfold tkN; rw [List.countP_cons]; simp [h1, h2]; omega
        rw [e]
        exact ev_ifp h1 (ev_ifp h2 (ih (i + 1) (n + 1) (by omega) (by omega)))
      · have e : n + tkN (x :: xs.drop (i + 1)) w = n + tkN (xs.drop (i + 1)) w := by
          unfold tkN; rw [List.countP_cons]; simp [h2]
        rw [e]
        exact ev_ifp h1 (ev_ifn h2 (ih (i + 1) n (by omega) (by omega)))
    · have e : n + tkN (x :: xs.drop (i + 1)) w = n + tkN (xs.drop (i + 1)) w := by
        unfold tkN; rw [List.countP_cons]; simp [h1]
      rw [e]
      exact ev_ifn h1 (ih (i + 1) n (by omega) (by omega))
theorem taken_ev (xs : List S46) (w : Int) (hx : xs.length ≤ 1048576) : Ev (fun k => impl_TakenFrom.f k xs w) (tkN xs w : Int) := by
  unfold impl_TakenFrom.f
  have := taken_loop xs w hx xs.length 0 0 (by omega) (by omega)
  simpa using this
def lowN (l : List S46) (w : Int) : Nat := l.countP (fun x => decide (1 ≤ x.f1 ∧ x.f1 < w) && x.f2)
theorem low_step (l : List S46) (w : Int) (hw : 1 ≤ w) : lowN l w + tkN l w = lowN l (w + 1) := by
  induction l with
  | nil => rfl
  | cons x l ih =>
    unfold lowN tkN at ih ⊢
    rw [List.countP_cons, List.countP_cons, List.countP_cons, ← ih]
    cases hx : x.f2
    · simp
    · by_cases h1 : x.f1 = w
      · have a1 : ¬ (1 ≤ x.f1 ∧ x.f1 < w) := by omega
        have a2 : (1 ≤ x.f1 ∧ x.f1 < w + 1) := by omega
        simp only [decide_eq_false a1, decide_eq_true a2, decide_eq_true h1, Bool.true_and, Bool.false_and, Bool.false_eq_true, if_true, if_false]
        omega
      · by_cases h2 : (1 ≤ x.f1 ∧ x.f1 < w)
        · have a2 : (1 ≤ x.f1 ∧ x.f1 < w + 1) := by omega
          simp only [decide_eq_true h2, decide_eq_true a2, decide_eq_false h1, Bool.true_and, Bool.false_and, Bool.false_eq_true, if_true, if_false]
          omega
        · have a2 : ¬ (1 ≤ x.f1 ∧ x.f1 < w + 1) := by omega
          simp only [decide_eq_false h2, decide_eq_false a2, decide_eq_false h1, Bool.false_and, Bool.false_eq_true, if_false]
          omega
theorem low_le (l : List S46) (w : Int) : lowN l w ≤ l.countP (fun x => x.f2) := by
  unfold lowN
  refine List.countP_mono_left (fun x _ h => ?_)
  rw [Bool.and_eq_true] at h
  exact h.2
theorem low_one (l : List S46) : lowN l 1 = 0 := by
  unfold lowN
  rw [List.countP_eq_zero]
  intro x _ h
  rw [Bool.and_eq_true, decide_eq_true_eq] at h
  omega
theorem off_count (a b c : Int) (xs : List S46) : ∀ (ys : List S46) (i : Nat) (n m : Int), offG a b c xs ys i n = some m → m = n + (ys.countP (fun x => x.f2) : Nat)
  | [], i, n, m, h => by simp only [offG, Option.some.injEq] at h; simp [h]
  | x :: ys, i, n, m, h => by
    unfold offG at h
    by_cases h1 : offOk a b c xs i x = true
    · rw [if_pos h1] at h
      have := off_count a b c xs ys _ _ _ h
      rw [List.countP_cons]
      by_cases h2 : x.f2 = true
      · rw [if_pos h2] at this ⊢; omega
      · rw [if_neg h2] at this ⊢; omega
    · rw [if_neg h1] at h
      exact absurd h (by simp)
theorem offers_two (a b c : Int) (xs : List S46) (h : offersG a b c xs = true) : xs.countP (fun x => x.f2) ≤ 2 := by
  unfold offersG at h
  rw [Bool.and_eq_true] at h
  obtain ⟨_, h⟩ := h
  cases e : offG a b c xs xs 0 0 with
  | none => rw [e] at h; exact absurd h (by simp)
  | some m =>
    rw [e] at h
    have := off_count a b c xs xs 0 0 m e
    have h2 : m ≤ 2 := of_decide_eq_true h
    omega
theorem off_all (a b c : Int) (xs : List S46) : ∀ (ys : List S46) (i : Nat) (n m : Int), offG a b c xs ys i n = some m → ∀ y, y ∈ ys → mayG a b c y.f0 = true
  | [], i, n, m, h => by simp
  | x :: ys, i, n, m, h => by
    unfold offG at h
    by_cases h1 : offOk a b c xs i x = true
    · rw [if_pos h1] at h
      have := off_all a b c xs ys _ _ _ h
      intro y hy
      rcases List.mem_cons.mp hy with rfl | hy
      · unfold offOk at h1
        rw [Bool.and_eq_true, Bool.and_eq_true, Bool.and_eq_true] at h1
        exact h1.1.1.1
      · exact this y hy
    · rw [if_neg h1] at h
      exact absurd h (by simp)
theorem offers_may (a b c : Int) (xs : List S46) (h : offersG a b c xs = true) (y : S46) (hy : y ∈ xs) : mayG a b c y.f0 = true := by
  unfold offersG at h
  rw [Bool.and_eq_true] at h
  obtain ⟨_, h⟩ := h
  cases e : offG a b c xs xs 0 0 with
  | none => rw [e] at h; exact absurd h (by simp)
  | some m => exact off_all a b c xs xs 0 0 m e y hy
theorem compact_len (zs : List Int) : (Go.Lib.compact zs).length ≤ zs.length := by
  unfold Go.Lib.compact Go.Lib.compactUpTo
  rw [List.length_map]
  exact Nat.le_trans (List.length_filter_le _ _) (by simp)
theorem refused_loop (xs : List S46) (hx : xs.length ≤ 1048576) (d : Nat) : ∀ (i : Nat) (zs : List Int), i + d = xs.length → zs.length ≤ i →
    Ev (fun k => impl_RefusedOf.l0 k xs zs xs (xs.length : Int) (i : Int)) (zs ++ ((xs.drop i).filter (fun y => decide (tkN xs y.f1 = 0))).map (·.f1)) := by
  induction d with
  | zero =>
    intro i zs hd hz
    apply ev_succ
    simp only [impl_RefusedOf.l0]
    rw [List.drop_eq_nil_of_le (by omega)]
    exact ev_ifn (by omega) (ev_some (by simp))
  | succ d ih =>
    intro i zs hd hz
    rw [drop46 xs i (by omega)]
    have e1 : wrap64 ((i : Int) + 1) = ((i + 1 : Nat) : Int) := by rw [w64 (by omega) (by omega)]; simp
    apply ev_succ
    simp only [impl_RefusedOf.l0, e1]
    refine ev_ifp (by omega) (ev_ifp (by omega) (ev_ifp (by omega) (Ev.bind (taken_ev xs _ hx) ?_)))
    generalize rd_T46 xs (i : Int) = y
    by_cases h1 : tkN xs y.f1 = 0
    · have := ih (i + 1) (zs ++ [y.f1]) (by omega) (by simp; omega)
      rw [List.filter_cons, if_pos (decide_eq_true h1), List.map_cons, show zs ++ y.f1 :: ((xs.drop (i + 1)).filter (fun y => decide (tkN xs y.f1 = 0))).map (·.f1) = zs ++ [y.f1] ++ ((xs.drop (i + 1)).filter (fun y => decide (tkN xs y.f1 = 0))).map (·.f1) by simp]
      exact ev_ifp (by omega) (ev_ifp (by omega) this)
    · have := ih (i + 1) zs (by omega) (by omega)
      rw [List.filter_cons, if_neg (by simpa using h1)]
      exact ev_ifn (by omega) this
theorem refused_ev (xs : List S46) (hx : xs.length ≤ 1048576) : ∃ r : List Int, Ev (fun k => impl_RefusedOf.f k xs) r ∧ r.length ≤ xs.length ∧ r.Pairwise (· < ·) ∧ ∀ y, y ∈ xs → (y.f1 ∈ r ↔ tkN xs y.f1 = 0) := by
  obtain ⟨n, hn⟩ := refused_loop xs hx xs.length 0 [] (by omega) (by simp)
  rw [List.nil_append, List.drop_zero] at hn
  obtain ⟨c1, c2⟩ := compact_up _ (sort_up ((xs.filter (fun y => decide (tkN xs y.f1 = 0))).map (·.f1)))
  refine ⟨_, ⟨n, fun k hk => ?_⟩, ?_, c1, fun y hy => ?_⟩
  · show (impl_RefusedOf.l0 k xs [] xs (xs.length : Int) 0).map _ = some _
    rw [show impl_RefusedOf.l0 k xs [] xs (xs.length : Int) 0 = _ from hn k hk]
    rfl
  · refine Nat.le_trans (compact_len _) ?_
    rw [List.length_mergeSort, List.length_map]
    exact List.length_filter_le _ _
  · rw [c2, List.mem_mergeSort, List.mem_map]
    constructor
    · rintro ⟨z, hz, e⟩
      rw [List.mem_filter, decide_eq_true_eq] at hz
      rw [← e]
      exact hz.2
    · intro h
      exact ⟨y, List.mem_filter.mpr ⟨hy, decide_eq_true h⟩, rfl⟩
theorem rd_at (xs : List Int) (i : Nat) (h : i < xs.length) : rd xs (i : Int) = xs[i] := by
  unfold rd
  simp [h]
theorem ascends_loop (r : List Int) (hr : r.length ≤ 1048576) (hp : r.Pairwise (· < ·)) (d : Nat) : ∀ i : Nat, 1 ≤ i → i + d = r.length + 1 → Ev (fun k => laws_ascends.l0 k r (i : Int)) true := by
  induction d with
  | zero =>
    intro i h1 hd
    apply ev_succ
    simp only [laws_ascends.l0]
    exact ev_ifn (by omega) (Ev.now _)
  | succ d ih =>
    intro i h1 hd
    have e1 : wrap64 ((i : Int) + 1) = ((i + 1 : Nat) : Int) := by rw [w64 (by omega) (by omega)]; simp
    have e2 : wrap64 ((i : Int) - 1) = ((i - 1 : Nat) : Int) := by rw [w64 (by omega) (by omega)]; omega
    apply ev_succ
    simp only [laws_ascends.l0, e1, e2]
    by_cases h : i < r.length
    · refine ev_ifp (by omega) (ev_ifp (by omega) (ev_ifp (by omega) (ev_ifp (by omega) (ev_ifn ?_ (ih (i + 1) (by omega) (by omega))))))
      rw [rd_at r i h, rd_at r (i - 1) (by omega)]
      have := List.pairwise_iff_getElem.mp hp (i - 1) i (by omega) h (by omega)
      omega
    · exact ev_ifn (by omega) (Ev.now _)
theorem ascends_ev (r : List Int) (hr : r.length ≤ 1048576) (hp : r.Pairwise (· < ·)) : Ev (fun k => laws_ascends.f k r) true := by
  unfold laws_ascends.f
  exact ascends_loop r hr hp r.length 1 (by omega) (by omega)
theorem last_loop (xs : List S46) (r : List Int) (hx : xs.length ≤ 1048576) (hr : r.length ≤ 1048576) (hp : r.Pairwise (· < ·)) (hm : ∀ y, y ∈ xs → (y.f1 ∈ r ↔ tkN xs y.f1 = 0)) (d : Nat) :
    ∀ i : Nat, i + d = xs.length → Ev (fun k => laws_FnOffers.l1 k xs r (i : Int)) true := by
  induction d with
  | zero =>
    intro i hd
    apply ev_succ
    simp only [laws_FnOffers.l1]
    exact ev_ifn (by omega) (Ev.bind (ascends_ev r hr hp) (Ev.now _))
  | succ d ih =>
    intro i hd
    have e1 : wrap64 ((i : Int) + 1) = ((i + 1 : Nat) : Int) := by rw [w64 (by omega) (by omega)]; simp
    apply ev_succ
    simp only [laws_FnOffers.l1, e1]
    have hmem : rd_T46 xs (i : Int) ∈ xs := by
      have := drop46 xs i (by omega)
      exact List.mem_of_mem_drop (this ▸ List.mem_cons_self : rd_T46 xs (i : Int) ∈ xs.drop i)
    refine ev_ifp (by omega) (ev_ifp (by omega) (Ev.bind (contains_ev r _ hr) (Ev.bind (taken_ev xs _ hx) (ev_ifn ?_ (ih (i + 1) (by omega))))))
    have := hm _ hmem
    by_cases h : tkN xs (rd_T46 xs (i : Int)).f1 = 0
    · simp [h, this.mpr h]
    · have h2 : ¬ (rd_T46 xs (i : Int)).f1 ∈ r := fun e => h (this.mp e)
      simp [h, h2]
theorem j2_ev (code : List Int) (hb : code.length ≤ 1048576) : Ev (fun k => laws_FnOffers.j2 k code) true := by
  obtain ⟨l, hd, hl⟩ := drawRefused_ev code hb
  obtain ⟨r, hr, hrl, hp, hm⟩ := refused_ev l (by omega)
  apply ev_succ
  simp only [laws_FnOffers.j2]
  exact Ev.bind hd (Ev.bind hr (last_loop l r (by omega) (by omega) hp hm l.length 0 (by omega)))
theorem sum_loop (code : List Int) (hb : code.length ≤ 1048576) (l : List S46) (hl : l.length ≤ 1048576) (h2 : l.countP (fun x => x.f2) ≤ 2) (d : Nat) :
    ∀ w : Nat, 1 ≤ w → w + d = 100 → Ev (fun k => laws_FnOffers.l0 k code l (lowN l (w : Int) : Int) (w : Int)) true := by
  induction d with
  | zero =>
    intro w h1 hd
    have := low_le l (w : Int)
    apply ev_succ
    simp only [laws_FnOffers.l0]
    exact ev_ifn (by omega) (ev_ifn (by omega) (j2_ev code hb))
  | succ d ih =>
    intro w h1 hd
    have e1 : wrap64 ((w : Int) + 1) = ((w + 1 : Nat) : Int) := by rw [w64 (by omega) (by omega)]; simp
    have h3 := low_step l (w : Int) (by omega)
    have h4 := low_le l ((w : Int) + 1)
    have e2 : wrap64 ((lowN l (w : Int) : Int) + (tkN l (w : Int) : Int)) = (lowN l ((w + 1 : Nat) : Int) : Int) := by
      rw [w64 (by omega) (by omega)]
      have e3 : ((w + 1 : Nat) : Int) = (w : Int) + 1 := by simp
      rw [e3]
      omega
    apply ev_succ
    simp only [laws_FnOffers.l0, e1]
    refine ev_ifp (by omega) (Ev.bind (taken_ev l _ hl) ?_)
    rw [e2]
    exact ih (w + 1) (by omega) (by omega)
theorem j0_ev (code : List Int) (hb : code.length ≤ 1048576) (l : List S46) (hl : l.length ≤ 1048576) (a b c : Int) : Ev (fun k => laws_FnOffers.j0 k code l false a b c) true := by
  apply ev_succ
  simp only [laws_FnOffers.j0, Bool.false_eq_true, if_false]
  refine Ev.bind (impl_AreOffers_ev a b c l (by omega)) ?_
  by_cases h : offersG a b c l = true
  · have := sum_loop code hb l hl (offers_two a b c l h) 99 1 (by omega) (by omega)
    simp only [Int.natCast_one, low_one] at this
    exact ev_ifp h this
  · exact ev_ifn h (j2_ev code hb)
theorem FnOffers : laws_FnOffers.Pure := by
  intro code _ _ _
  apply Ev.rounds
  unfold laws_FnOffers.f laws_big.f
  simp only [Option.bind_some]
  by_cases hb : (code.length : Int) > 1048576
  · exact ev_ifp (decide_eq_true hb) (Ev.now _)
  · refine ev_ifn (by simpa using hb) ?_
    have hb' : code.length ≤ 1048576 := by omega
    obtain ⟨a, b, c, l, x, y, z, hd, hl⟩ := drawMake_ev code hb'
    refine Ev.bind hd (Ev.bind (impl_MakeOffer_ev a b c l x y z (by omega)) ?_)
    have hj := j0_ev code hb' l (by omega) a b c
    unfold makG
    by_cases h : offersG a b c (l ++ [⟨x, y, z⟩]) = true
    · rw [if_pos h]
      have hm := offers_may a b c _ h ⟨x, y, z⟩ (by simp)
      refine ev_ifp rfl (Ev.bind (impl_AreOffers_ev a b c _ (by simp; omega)) (ev_ifp h ?_))
      simp only [impl_MayOffer_eq, Option.bind_some]
      refine ev_ifp hm (ev_ifp ?_ hj)
      rw [w64 (by omega) (by omega)]
      simp
    · rw [if_neg h]
      refine ev_ifn (by simp) ?_
      simpa using hj

end Go.Proofs.Ytimikonnmcgljaa.Pure
