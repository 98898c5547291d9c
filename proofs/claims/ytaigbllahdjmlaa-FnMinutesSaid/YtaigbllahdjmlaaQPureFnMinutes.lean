/- Minutes are only continued: the law answers true at whatever bytes.
No condition: for every input. -/
import Derived.Test.YtaigbllahdjmlaaQFnMinutesx9
set_option linter.unusedVariables false
set_option linter.unusedSimpArgs false
set_option maxHeartbeats 1000000
namespace Go.Proofs.Ytaigbllahdjmlaa.Pure
open Go.RowKit Go.Proofs.Ytaigbllahdjmlaa.QFnMinutes Go.Proofs.YtaigbllahdjmlaaW.PrintWords Go.Proofs.YtaigbllahdjmlaaW.PrintLast

theorem w64 {x : Int} (h1 : -9223372036854775808 ≤ x) (h2 : x ≤ 9223372036854775807) : wrap64 x = x := by unfold wrap64; omega
theorem wf64 {x : Int} (h : (Lit.int .i64 x).wf = true) : -9223372036854775808 ≤ x ∧ x ≤ 9223372036854775807 := by
  simp only [Lit.wf, Bool.and_eq_true, decide_eq_true_eq] at h
  have e1 : IntKind.min .i64 = -9223372036854775808 := by decide
  have e2 : IntKind.max .i64 = 9223372036854775807 := by decide
  omega
theorem wfu8 {x : Int} (h : (Lit.int .u8 x).wf = true) : 0 ≤ x ∧ x ≤ 255 := by
  simp only [Lit.wf, Bool.and_eq_true, decide_eq_true_eq] at h
  have e1 : IntKind.min .u8 = 0 := by decide
  have e2 : IntKind.max .u8 = 255 := by decide
  omega
theorem ev_succ {α : Type} {g : Nat → Option α} {r : α} (h : Ev (fun k => g (k + 1)) r) : Ev g r := Ev.step (fun _ => rfl) h
theorem ev_some {α : Type} {r s : α} (h : r = s) : Ev (fun _ => some r) s := by subst h; exact Ev.now r
theorem ev_fix {α : Type} {o : Option α} {r : α} (h : o = some r) : Ev (fun _ => o) r := ⟨0, fun _ _ => h⟩
theorem ev_at {α : Type} {g : Nat → Option α} {r : α} (n : Nat) (h : ∀ k, g (k + n) = some r) : Ev g r :=
  ⟨n, fun k hk => by obtain ⟨m, rfl⟩ : ∃ m, k = m + n := ⟨k - n, by omega⟩; exact h m⟩
theorem ev_bindc {α β : Type} {o : Option α} {f : Nat → α → Option β} {a : α} {r : β} (h : o = some a) (k : Ev (fun n => f n a) r) : Ev (fun n => o.bind (f n)) r := by
  subst h; exact k
theorem ev_ifp {α : Type} {c : Prop} [Decidable c] {a b : Nat → Option α} {r : α} (h : c) (k : Ev a r) : Ev (fun n => if c then a n else b n) r := by
  simpa only [if_pos h] using k
theorem ev_ifn {α : Type} {c : Prop} [Decidable c] {a b : Nat → Option α} {r : α} (h : ¬ c) (k : Ev b r) : Ev (fun n => if c then a n else b n) r := by
  simpa only [if_neg h] using k
theorem drop_rd (xs : List Int) (i : Nat) (h : i < xs.length) : xs.drop i = rd xs (i : Int) :: xs.drop (i + 1) := by
  rw [List.drop_eq_getElem_cons h]
  simp [rd, List.getD_eq_getElem?_getD, h]
theorem spec_l1In_eq (a b c : Int) : spec_l1In.f a b c = some (decide (b ≤ a ∧ a ≤ c)) := by
  unfold spec_l1In.f
  by_cases h : a ≥ b
  · have h' : b ≤ a := h
    simp [h']
  · have h' : ¬ b ≤ a := h
    simp [h']
theorem impl_InRange_eq (a b c : Int) : impl_InRange.f a b c = some (decide (b ≤ a ∧ a ≤ c)) := by
  unfold impl_InRange.f
  by_cases h : b ≤ a <;> simp [h]
theorem rd41 (xs : List S41) (i : Nat) (h : i < xs.length) : rd_T41 xs (i : Int) = xs[i] := by simp [rd_T41, List.getD_eq_getElem?_getD, h]
theorem drop41 (xs : List S41) (i : Nat) (h : i < xs.length) : xs.drop i = rd_T41 xs (i : Int) :: xs.drop (i + 1) := by
  rw [List.drop_eq_getElem_cons h, rd41 xs i h]
def modG (a : Int) : Int := if Int.tmod a 2147483647 < 0 then Int.tmod a 2147483647 + 2147483647 else Int.tmod a 2147483647
theorem tmod_bd (a : Int) : -2147483647 < Int.tmod a 2147483647 ∧ Int.tmod a 2147483647 < 2147483647 := by
  have h1 := Int.tmod_lt_of_pos a (b := 2147483647) (by omega)
  have h2 := Int.tmod_lt_of_pos (-a) (b := 2147483647) (by omega)
  rw [Int.neg_tmod] at h2
  omega
theorem spec_Mod_eq (a : Int) : spec_Mod.f a 2147483647 = some (modG a) := by
  have hb := tmod_bd a
  simp only [spec_Mod.f, spec_l1In_eq, Option.bind_some]
  have h1 : decide ((1 : Int) ≤ 2147483647 ∧ (2147483647 : Int) ≤ 1000000000000) = true := by decide
  rw [h1, if_pos rfl, if_neg (by omega), w64 (by omega) (by omega)]
  congr 1
  unfold modG
  by_cases h : Int.tmod a 2147483647 < 0
  · rw [if_pos h, Int.tmod_eq_of_lt (by omega) (by omega)]
  · rw [if_neg h, Int.tmod_eq_emod_of_nonneg (by omega)]
    omega
def stepG (h x : Int) : Int := Int.tmod (wrap64 ((wrap64 ((wrap64 (h * 1000003)) + modG x)) + 13)) 2147483647
theorem spec_Hash_loop (xs : List Int) (hx : xs.length ≤ 17592186044416) (d : Nat) : ∀ (i : Nat) (h : Int), i + d = xs.length → Ev (fun k => spec_Hash.l0 k xs h (i : Int)) ((xs.drop i).foldl stepG h) := by
  induction d with
  | zero =>
    intro i h hd
    apply ev_succ
    simp only [spec_Hash.l0]
    rw [List.drop_eq_nil_of_le (by omega)]
    exact ev_ifn (by omega) (Ev.now _)
  | succ d ih =>
    intro i h hd
    apply ev_succ
    simp only [spec_Hash.l0, spec_Mod_eq, Option.bind_some]
    refine ev_ifp (by omega) (ev_ifp (by omega) ?_)
    rw [w64 (x := (i : Int) + 1) (by omega) (by omega), drop_rd xs i (by omega)]
    simpa [stepG] using ih (i + 1) (stepG h (rd xs (i : Int))) (by omega)
theorem spec_Hash_ev (xs : List Int) (hx : xs.length ≤ 17592186044416) : Ev (fun k => spec_Hash.f k xs) (xs.foldl stepG 11) := by
  unfold spec_Hash.f
  simpa using spec_Hash_loop xs hx xs.length 0 11 (by omega)
def sealG (b x y z : Int) : Int := [b, x, y, z].foldl stepG 11
theorem spec_l27Seal_ev (b x y z u : Int) : Ev (fun k => spec_l27Seal.f k b x y z u) (sealG b x y z) := by
  unfold spec_l27Seal.f
  exact Ev.bind (spec_Hash_ev [b, x, y, z] (by simp)) (Ev.now _)
theorem impl_Mod_eq (a : Int) : impl_Mod.f a 2147483647 = some (modG a) := by
  have hb := tmod_bd a
  simp only [impl_Mod.f, impl_InRange_eq, Option.bind_some]
  have h1 : decide ((1 : Int) ≤ 2147483647 ∧ (2147483647 : Int) ≤ 1000000000000) = true := by decide
  rw [h1, if_pos rfl, if_neg (by omega)]
  unfold modG
  by_cases h : Int.tmod a 2147483647 < 0
  · rw [if_pos h, if_pos h, w64 (by omega) (by omega)]
  · rw [if_neg h, if_neg h]
theorem impl_fold_eq (h x : Int) : impl_fold.f h x = some (stepG h x) := by
  simp only [impl_fold.f, impl_Mod_eq, Option.bind_some, stepG]
theorem impl_Hash_loop (xs : List Int) (hx : xs.length ≤ 17592186044416) (d : Nat) : ∀ (i : Nat) (h : Int), i + d = xs.length → Ev (fun k => impl_Hash.l0 k h xs (xs.length : Int) (i : Int)) ((xs.drop i).foldl stepG h) := by
  induction d with
  | zero =>
    intro i h hd
    apply ev_succ
    simp only [impl_Hash.l0]
    rw [List.drop_eq_nil_of_le (by omega)]
    exact ev_ifn (by omega) (Ev.now _)
  | succ d ih =>
    intro i h hd
    apply ev_succ
    simp only [impl_Hash.l0, impl_fold_eq, Option.bind_some]
    refine ev_ifp (by omega) (ev_ifp (by omega) (ev_ifp (by omega) ?_))
    rw [w64 (x := (i : Int) + 1) (by omega) (by omega), drop_rd xs i (by omega)]
    simpa using ih (i + 1) (stepG h (rd xs (i : Int))) (by omega)
theorem impl_Hash_ev (xs : List Int) (hx : xs.length ≤ 17592186044416) : Ev (fun k => impl_Hash.f k xs) (xs.foldl stepG 11) := by
  unfold impl_Hash.f
  simpa using impl_Hash_loop xs hx xs.length 0 11 (by omega)
theorem impl_lineSeal_ev (b x y z u : Int) : Ev (fun k => impl_lineSeal.f k b x y z u) (sealG b x y z) := by
  unfold impl_lineSeal.f
  exact Ev.bind (impl_Hash_ev [b, x, y, z] (by simp)) (Ev.now _)
def lineOk (x : S41) (i s : Int) : Bool := decide (x.f0 = i + 1) && decide (1 ≤ x.f1 ∧ x.f1 ≤ 9) && decide (0 ≤ x.f2 ∧ x.f2 ≤ 99) && decide (x.f3 = sealG s x.f0 x.f1 x.f2)
def minG : List S41 → Int → Int → Bool
  | [], _, _ => true
  | x :: xs, i, s => lineOk x i s && minG xs (i + 1) x.f3
def minutesG (xs : List S41) : Bool := decide (xs.length ≤ 200) && minG xs 0 0
theorem spec_AreMinutes_loop (xs : List S41) (hx : xs.length ≤ 200) (d : Nat) : ∀ (i : Nat) (s : Int), i + d = xs.length → Ev (fun k => spec_AreMinutes.l0 k xs s (i : Int)) (minG (xs.drop i) i s) := by
  induction d with
  | zero =>
    intro i s hd
    apply ev_succ; apply ev_succ
    simp only [spec_AreMinutes.l0, spec_AreMinutes.j1]
    rw [List.drop_eq_nil_of_le (by omega)]
    refine ev_ifn (by omega) (ev_ifn (by simp) (ev_some ?_))
    simp only [minG, decide_eq_true_eq]
    omega
  | succ d ih =>
    intro i s hd
    apply ev_succ; apply ev_succ
    have e1 : wrap64 ((i : Int) + 1) = (i : Int) + 1 := w64 (by omega) (by omega)
    have e2 : decide ((xs.length : Int) ≤ 200) = true := by rw [decide_eq_true_eq]; omega
    have e3 : (((i + 1 : Nat) : Int)) = (i : Int) + 1 := by omega
    simp only [spec_AreMinutes.l0, spec_AreMinutes.j1, spec_l1In_eq, Option.bind_some, e1, e2, if_true]
    refine ev_ifp (by omega) (ev_ifp (by omega) (ev_ifp (by omega) ?_))
    rw [drop41 xs i (by omega)]
    generalize rd_T41 xs (i : Int) = x
    refine Ev.bind (spec_l27Seal_ev s x.f0 x.f1 x.f2 x.f3) ?_
    unfold minG lineOk
    by_cases h0 : x.f0 = (i : Int) + 1
    · refine ev_ifp h0 ?_
      by_cases h1 : 1 ≤ x.f1 ∧ x.f1 ≤ 9
      · refine ev_ifp (by simpa using h1) ?_
        by_cases h2 : 0 ≤ x.f2 ∧ x.f2 ≤ 99
        · refine ev_ifp (by simpa using h2) ?_
          by_cases h3 : x.f3 = sealG s x.f0 x.f1 x.f2
          · refine ev_ifp h3 ?_
            have := ih (i + 1) (sealG s x.f0 x.f1 x.f2) (by omega)
            rw [e3] at this
            rw [← h3] at this ⊢
            simpa [h0, h1, h2] using this
          · exact ev_ifn h3 (ev_some (by simp [h3]))
        · exact ev_ifn (by simpa using h2) (ev_some (by simp [h2]))
      · exact ev_ifn (by simpa using h1) (ev_some (by simp [h1]))
    · exact ev_ifn h0 (ev_some (by simp [h0]))
theorem spec_AreMinutes_ev (xs : List S41) : Ev (fun k => spec_AreMinutes.f k xs) (minutesG xs) := by
  unfold spec_AreMinutes.f minutesG
  by_cases hx : xs.length ≤ 200
  · simpa [hx] using spec_AreMinutes_loop xs hx xs.length 0 0 (by omega)
  · apply ev_succ; apply ev_succ
    have e2 : decide ((xs.length : Int) ≤ 200) = false := by rw [decide_eq_false_iff_not]; omega
    simp only [spec_AreMinutes.l0, spec_AreMinutes.j1, e2, Bool.false_eq_true, if_false]
    refine ev_ifp (by omega) (ev_some ?_)
    simp [hx]
theorem impl_AreMinutes_loop (xs : List S41) (hx : xs.length ≤ 200) (d : Nat) : ∀ (i : Nat) (s : Int), i + d = xs.length → Ev (fun k => impl_AreMinutes.l0 k s xs (xs.length : Int) (i : Int)) (minG (xs.drop i) i s) := by
  induction d with
  | zero =>
    intro i s hd
    apply ev_succ
    simp only [impl_AreMinutes.l0]
    rw [List.drop_eq_nil_of_le (by omega)]
    exact ev_ifn (by omega) (Ev.now _)
  | succ d ih =>
    intro i s hd
    apply ev_succ
    have e1 : wrap64 ((i : Int) + 1) = (i : Int) + 1 := w64 (by omega) (by omega)
    have e3 : (((i + 1 : Nat) : Int)) = (i : Int) + 1 := by omega
    simp only [impl_AreMinutes.l0, impl_InRange_eq, Option.bind_some, e1]
    refine ev_ifp (by omega) (ev_ifp (by omega) (ev_ifp (by omega) ?_))
    rw [drop41 xs i (by omega)]
    generalize rd_T41 xs (i : Int) = x
    unfold minG lineOk
    by_cases h0 : x.f0 = (i : Int) + 1
    · refine ev_ifp h0 ?_
      by_cases h1 : 1 ≤ x.f1 ∧ x.f1 ≤ 9
      · refine ev_ifp (by simpa using h1) ?_
        by_cases h2 : 0 ≤ x.f2 ∧ x.f2 ≤ 99
        · refine ev_ifp (by simpa using h2) (Ev.bind (impl_lineSeal_ev s x.f0 x.f1 x.f2 x.f3) ?_)
          by_cases h3 : x.f3 = sealG s x.f0 x.f1 x.f2
          · refine ev_ifp h3 ?_
            have := ih (i + 1) x.f3 (by omega)
            rw [e3] at this
            have hd3 : decide (x.f3 = sealG s ((i : Int) + 1) x.f1 x.f2) = true := decide_eq_true (by rw [← h0]; exact h3)
            simpa [h0, h1, h2, hd3] using this
          · exact ev_ifn h3 (ev_some (by simp [h3]))
        · exact ev_ifn (by simpa using h2) (ev_some (by simp [h2]))
      · exact ev_ifn (by simpa using h1) (ev_some (by simp [h1]))
    · exact ev_ifn h0 (ev_some (by simp [h0]))
theorem impl_AreMinutes_ev (xs : List S41) : Ev (fun k => impl_AreMinutes.f k xs) (minutesG xs) := by
  unfold impl_AreMinutes.f minutesG
  by_cases hx : xs.length ≤ 200
  · refine ev_ifn (by omega) ?_
    simpa [hx] using impl_AreMinutes_loop xs hx xs.length 0 0 (by omega)
  · exact ev_ifp (by omega) (ev_some (by simp [hx]))
def lastG (l : List S41) : Int := if l.length = 0 then 0 else (rd_T41 l ((l.length : Int) - 1)).f3
def newG (l : List S41) (what who : Int) : S41 := ⟨(l.length : Int) + 1, what, who, sealG (lastG l) ((l.length : Int) + 1) what who⟩
def writeG (l : List S41) (what who : Int) : List S41 × Bool := if minutesG (l ++ [newG l what who]) = true then (l ++ [newG l what who], true) else (l, false)
theorem writeG_len (l : List S41) (a b : Int) : (writeG l a b).1.length ≤ l.length + 1 := by
  unfold writeG
  split <;> simp
theorem spec_LastSeal_eq (l : List S41) (hl : l.length ≤ 1048576) : spec_LastSeal.f l = some (lastG l) := by
  unfold spec_LastSeal.f lastG
  by_cases h0 : l.length = 0
  · rw [if_pos (by omega), if_pos h0]
  · rw [if_neg (by omega), if_neg h0, w64 (by omega) (by omega), if_pos (by omega), if_pos (by omega)]
theorem spec_WriteLine_ev (l : List S41) (a b : Int) (hl : l.length ≤ 1048576) : Ev (fun k => spec_WriteLine.f k l a b) (writeG l a b) := by
  unfold spec_WriteLine.f
  rw [spec_LastSeal_eq l hl, w64 (by omega) (by omega)]
  simp only [Option.bind_some, List.nil_append, List.length_nil, List.length_singleton]
  refine Ev.bind (spec_l27Seal_ev _ _ _ _ _) (ev_ifp (by omega) (ev_ifp (by omega) (Ev.bind (spec_AreMinutes_ev _) ?_)))
  show Ev (fun n => if minutesG (l ++ [newG l a b]) = true then some (l ++ [newG l a b], true) else if 0 + l.length < 4398046511104 then some (l, false) else none) (writeG l a b)
  unfold writeG
  by_cases h : minutesG (l ++ [newG l a b]) = true
  · exact ev_ifp h (ev_some (if_pos h).symm)
  · exact ev_ifn h (ev_ifp (by omega) (ev_some (if_neg h).symm))
theorem impl_LastSeal_eq (l : List S41) (hl : l.length ≤ 1048576) : impl_LastSeal.f l = some (lastG l) := by
  unfold impl_LastSeal.f lastG
  by_cases h0 : l.length = 0
  · rw [if_pos (by omega), if_pos h0]
  · rw [if_neg (by omega), if_neg h0, w64 (by omega) (by omega), if_pos (by omega), if_pos (by omega)]
theorem impl_Line_eq (l : List S41) (hl : l.length ≤ 1048576) : impl_Line_47.f l = some l := by
  unfold impl_Line_47.f
  simp only [Option.bind_some, List.nil_append, List.length_nil]
  rw [if_pos (by omega)]
theorem impl_WriteLine_ev (l : List S41) (a b : Int) (hl : l.length ≤ 1048576) : Ev (fun k => impl_WriteLine.f k l a b) (writeG l a b) := by
  unfold impl_WriteLine.f
  rw [impl_LastSeal_eq l hl, w64 (by omega) (by omega), impl_Line_eq l hl]
  simp only [Option.bind_some, List.length_singleton]
  refine Ev.bind (impl_lineSeal_ev _ _ _ _ _) (ev_ifp (by omega) (Ev.bind (impl_AreMinutes_ev _) ?_))
  show Ev (fun n => if minutesG (l ++ [newG l a b]) = true then some (l ++ [newG l a b], true) else some (l, false)) (writeG l a b)
  unfold writeG
  by_cases h : minutesG (l ++ [newG l a b]) = true
  · exact ev_ifp h (ev_some (if_pos h).symm)
  · exact ev_ifn h (ev_some (if_neg h).symm)
theorem and255 (a : Int) : 0 ≤ Go.bits .and .i64 a 255 ∧ Go.bits .and .i64 a 255 ≤ 255 := by
  have hle : (BitVec.ofInt 64 a &&& BitVec.ofInt 64 255).toNat ≤ 255 := by
    rw [BitVec.toNat_and]
    exact Nat.le_trans Nat.and_le_right (by decide)
  show 0 ≤ IntKind.i64.wrap ((BitVec.ofInt 64 a &&& BitVec.ofInt 64 255).toNat : Int) ∧ IntKind.i64.wrap ((BitVec.ofInt 64 a &&& BitVec.ofInt 64 255).toNat : Int) ≤ 255
  rw [IntKind.wrap_i64]
  omega
def CurOk (b : List Int) (i : Int) : Prop := 0 ≤ i ∧ i ≤ b.length ∧ b.length ≤ 1048576
theorem curOk0 {b : List Int} (hb : b.length ≤ 1048576) : CurOk b 0 := ⟨by omega, by omega, hb⟩
theorem l1Byte_ok {b : List Int} {i : Int} (h : Int) (hc : CurOk b i) : ∃ x i' h', spec_l1Byte.f b i h = some (x, i', h') ∧ 0 ≤ x ∧ x ≤ 255 ∧ CurOk b i' := by
  obtain ⟨h0, h1, h2⟩ := hc
  unfold spec_l1Byte.f
  by_cases hi : i < (b.length : Int)
  · rw [if_pos hi, if_pos h0]
    exact ⟨_, _, _, rfl, (and255 _).1, (and255 _).2, by rw [w64 (by omega) (by omega)]; exact ⟨by omega, by omega, h2⟩⟩
  · rw [if_neg hi]
    exact ⟨_, _, _, rfl, (and255 _).1, (and255 _).2, h0, h1, h2⟩
theorem l1Below_ok {b : List Int} {i : Int} (h n : Int) (hc : CurOk b i) : ∃ x i' h', spec_l1Below.f b i h n = some (x, i', h') ∧ 0 ≤ x ∧ (0 < n → x < n) ∧ (n ≤ 0 → x = 0) ∧ CurOk b i' := by
  unfold spec_l1Below.f
  by_cases h1 : n ≤ 0
  · rw [if_pos h1]
    exact ⟨0, i, h, rfl, by omega, by omega, fun _ => rfl, hc⟩
  · rw [if_neg h1]
    have hn : n ≠ 0 := by omega
    by_cases h2 : n ≤ 256
    · rw [if_pos h2]
      obtain ⟨x, i', h', e, hx0, hx1, hc'⟩ := l1Byte_ok h hc
      rw [e]
      simp only [Option.bind_some, if_neg hn]
      exact ⟨_, _, _, rfl, Int.tmod_nonneg _ hx0, fun hp => Int.tmod_lt_of_pos _ hp, fun hq => absurd hq h1, hc'⟩
    · rw [if_neg h2]
      obtain ⟨x, i1, g1, e1, hx0, hx1, c1⟩ := l1Byte_ok h hc
      obtain ⟨y, i2, g2, e2, hy0, hy1, c2⟩ := l1Byte_ok g1 c1
      obtain ⟨z, i3, g3, e3, hz0, hz1, c3⟩ := l1Byte_ok g2 c2
      simp only [e1, e2, e3, Option.bind_some, if_neg hn]
      refine ⟨_, _, _, rfl, Int.tmod_nonneg _ ?_, fun hp => Int.tmod_lt_of_pos _ hp, fun hq => absurd hq h1, c3⟩
      unfold wrap64
      omega
theorem l1New_loop (b : List Int) (hb : b.length ≤ 1048576) (d : Nat) : ∀ (i : Nat) (h : Int), i + d = b.length → ∃ h', Ev (fun k => spec_l1New.l0 k b h (i : Int)) (b, 0, h') := by
  induction d with
  | zero =>
    intro i h hd
    refine ⟨h, ?_⟩
    apply ev_succ
    simp only [spec_l1New.l0]
    refine ev_ifn (by omega) ?_
    exact Ev.now _
  | succ d ih =>
    intro i h hd
    by_cases h4 : (i : Int) < 4000
    · obtain ⟨h', e⟩ := ih (i + 1) (Go.bits .and .i64 (wrap64 ((wrap64 ((wrap64 (h * 137)) + (wrap64 (rd b (i : Int))))) + 11)) 1073741823) (by omega)
      refine ⟨h', ?_⟩
      apply ev_succ
      simp only [spec_l1New.l0]
      refine ev_ifp (by omega) (ev_ifp h4 (ev_ifp (by omega) ?_))
      rw [w64 (x := (i : Int) + 1) (by omega) (by omega)]
      simpa using e
    · refine ⟨h, ?_⟩
      apply ev_succ
      simp only [spec_l1New.l0]
      refine ev_ifp (by omega) (ev_ifn h4 ?_)
      exact Ev.now _
theorem l1New_ok (b : List Int) (hb : b.length ≤ 1048576) : ∃ h, Ev (fun k => spec_l1New.f k b) (b, 0, h) := by
  unfold spec_l1New.f
  exact l1New_loop b hb b.length 0 _ (by omega)
theorem rd_mem (l : List Int) (j : Int) (h0 : 0 ≤ j) (h1 : j < l.length) : rd l j ∈ l := by
  unfold rd
  have h : j.toNat < l.length := by omega
  simp [List.getD_eq_getElem?_getD, h]
theorem l1Int_ok {b : List Int} {i : Int} (h : Int) (l : List Int) (hl : 0 < l.length) (hc : CurOk b i) : ∃ v i' h', spec_l1Int.f b i h l = some (v, i', h') ∧ v ∈ l ∧ CurOk b i' := by
  obtain ⟨x, i', h', e, h0, h1, _, c⟩ := l1Below_ok h (l.length : Int) hc
  unfold spec_l1Int.f
  rw [e]
  simp only [Option.bind_some]
  rw [if_pos h0, if_pos (h1 (by omega))]
  exact ⟨_, _, _, rfl, rd_mem l x h0 (h1 (by omega)), c⟩
theorem l1Once_ok {b : List Int} {i : Int} (h n : Int) (hc : CurOk b i) : ∃ t i' h', spec_l1Once.f b i h n = some (t, i', h') ∧ CurOk b i' := by
  obtain ⟨x, i', h', e, h0, h1, _, c⟩ := l1Below_ok h n hc
  unfold spec_l1Once.f
  rw [e]
  simp only [Option.bind_some]
  exact ⟨_, _, _, rfl, c⟩
theorem contains_loop (xs : List Int) (v : Int) (hx : xs.length ≤ 1048576) (d : Nat) : ∀ i : Nat, i + d = xs.length → Ev (fun k => laws_contains.l0 k xs v (i : Int)) (decide (v ∈ xs.drop i)) := by
  induction d with
  | zero =>
    intro i hd
    apply ev_succ
    simp only [laws_contains.l0]
    rw [List.drop_eq_nil_of_le (by omega)]
    exact ev_ifn (by omega) (ev_some (by simp))
  | succ d ih =>
    intro i hd
    apply ev_succ
    have e1 : wrap64 ((i : Int) + 1) = ((i + 1 : Nat) : Int) := by rw [w64 (by omega) (by omega)]; simp
    simp only [laws_contains.l0, e1]
    refine ev_ifp (by omega) (ev_ifp (by omega) ?_)
    rw [drop_rd xs i (by omega)]
    by_cases h : rd xs (i : Int) = v
    · exact ev_ifp h (ev_some (by simp [h]))
    · refine ev_ifn h ?_
      have h' : ¬ v = rd xs (i : Int) := fun e => h e.symm
      simpa [h'] using ih (i + 1) (by omega)
theorem contains_ev (xs : List Int) (v : Int) (hx : xs.length ≤ 1048576) : Ev (fun k => laws_contains.f k xs v) (decide (v ∈ xs)) := by
  unfold laws_contains.f
  simpa using contains_loop xs v hx xs.length 0 (by omega)
theorem rd_memS (xs : List S41) (i : Nat) (h : i < xs.length) : rd_T41 xs (i : Int) ∈ xs := by
  rw [rd41 xs i h]
  exact List.getElem_mem h
theorem any27_loop (b : List Int) (d : Nat) : ∀ (i h : Int) (ys : List S41), CurOk b i → ys.length + d ≤ 8 → ∃ l i' h', Ev (fun k => spec_l27Any.l0 k ys (d : Int) b i h) (l, i', h') ∧ l.length ≤ 8 ∧ CurOk b i' := by
  induction d with
  | zero =>
    intro i h ys hc hy
    by_cases h0 : (ys.length : Int) > 0
    · obtain ⟨p, i2, h2, e2, p0, p1, _, c2⟩ := l1Below_ok h (ys.length : Int) hc
      have p2 := p1 (by omega)
      obtain ⟨q, i3, h3, e3, _, _, _, c3⟩ := l1Below_ok h2 10 c2
      by_cases q0 : q = 0
      · obtain ⟨u, i4, h4, e4, _, c4⟩ := l1Int_ok h3 [(-1), 99, 100] (by simp) c3
        refine ⟨ys.set (p : Int).toNat ⟨(rd_T41 ys p).f0, (rd_T41 ys p).f1, u, (rd_T41 ys p).f3⟩, i4, h4, ev_succ ?_, by rw [List.length_set]; omega, c4⟩
        simp only [spec_l27Any.l0, e2, e3, e4, Option.bind_some]
        exact ev_ifn (by omega) (ev_ifp h0 (ev_ifp q0 (ev_ifp p0 (ev_ifp p2 (Ev.now _)))))
      · by_cases q1 : q = 1
        · refine ⟨ys.set (p : Int).toNat ⟨(rd_T41 ys p).f0, (rd_T41 ys p).f1, (rd_T41 ys p).f2, wrap64 (((rd_T41 ys p).f3) + 1)⟩, i3, h3, ev_succ ?_, by rw [List.length_set]; omega, c3⟩
          simp only [spec_l27Any.l0, e2, e3, Option.bind_some]
          exact ev_ifn (by omega) (ev_ifp h0 (ev_ifn q0 (ev_ifp q1 (ev_ifp p0 (ev_ifp p2 (Ev.now _))))))
        · by_cases q2 : q = 2
          · refine ⟨ys.set (p : Int).toNat ⟨wrap64 (((rd_T41 ys p).f0) + 1), (rd_T41 ys p).f1, (rd_T41 ys p).f2, (rd_T41 ys p).f3⟩, i3, h3, ev_succ ?_, by rw [List.length_set]; omega, c3⟩
            simp only [spec_l27Any.l0, e2, e3, Option.bind_some]
            exact ev_ifn (by omega) (ev_ifp h0 (ev_ifn q0 (ev_ifn q1 (ev_ifp q2 (ev_ifp p0 (ev_ifp p2 (Ev.now _)))))))
          · refine ⟨ys, i3, h3, ev_succ ?_, by omega, c3⟩
            simp only [spec_l27Any.l0, e2, e3, Option.bind_some]
            exact ev_ifn (by omega) (ev_ifp h0 (ev_ifn q0 (ev_ifn q1 (ev_ifn q2 (Ev.now _)))))
    · refine ⟨ys, i, h, ev_succ ?_, by omega, hc⟩
      simp only [spec_l27Any.l0]
      exact ev_ifn (by omega) (ev_ifn h0 (Ev.now _))
  | succ d ih =>
    intro i h ys hc hy
    obtain ⟨p, i2, h2, e2, _, _, _, c2⟩ := l1Below_ok h 9 hc
    obtain ⟨q, i3, h3, e3, _, _, _, c3⟩ := l1Below_ok h2 5 c2
    have w1 : wrap64 (((d + 1 : Nat) : Int) - 1) = (d : Int) := by rw [w64 (by omega) (by omega)]; omega
    have hw := writeG_len ys (wrap64 (1 + p)) q
    obtain ⟨l, i', h', he, hl, hc'⟩ := ih i3 h3 (writeG ys (wrap64 (1 + p)) q).1 c3 (by omega)
    refine ⟨l, i', h', ev_succ ?_, hl, hc'⟩
    simp only [spec_l27Any.l0, e2, e3, Option.bind_some, w1]
    exact ev_ifp (by omega) (Ev.bind (spec_WriteLine_ev ys (wrap64 (1 + p)) q (by omega)) he)
theorem any27_ok (b : List Int) (i h : Int) (hc : CurOk b i) : ∃ l i' h', Ev (fun k => spec_l27Any.f k b i h) (l, i', h') ∧ l.length ≤ 8 ∧ CurOk b i' := by
  unfold spec_l27Any.f
  obtain ⟨v, i1, h1, e1, v0, v1, _, c1⟩ := l1Below_ok h 9 hc
  have v2 := v1 (by omega)
  obtain ⟨l, i', h', he, hl, hc'⟩ := any27_loop b v.toNat i1 h1 [] c1 (by simp; omega)
  refine ⟨l, i', h', ?_, hl, hc'⟩
  simp only [e1, Option.bind_some]
  rwa [show ((v.toNat : Nat) : Int) = v by omega] at he
def differ (x y : S41) : Bool := !(x.f0 == y.f0) || (!(x.f1 == y.f1) || (!(x.f2 == y.f2) || !(x.f3 == y.f3)))
theorem differ_self (x : S41) : differ x x = false := by simp [differ]
theorem same_loop (xs : List S41) (hx : xs.length ≤ 1048576) (d : Nat) : ∀ i : Nat, i + d = xs.length → Ev (fun k => impl_Line_53.l0 k xs xs (xs.length : Int) (i : Int)) true := by
  induction d with
  | zero =>
    intro i hd
    apply ev_succ
    simp only [impl_Line_53.l0]
    exact ev_ifn (by omega) (Ev.now _)
  | succ d ih =>
    intro i hd
    have e1 : wrap64 ((i : Int) + 1) = ((i + 1 : Nat) : Int) := by rw [w64 (by omega) (by omega)]; simp
    apply ev_succ
    simp only [impl_Line_53.l0, e1]
    have hself := differ_self (rd_T41 xs (i : Int))
    exact ev_ifp (by omega) (ev_ifp (by omega) (ev_ifp (by omega) (ev_ifp (by omega) (ev_ifn (by unfold differ at hself; rw [hself]; decide) (ih (i + 1) (by omega))))))
theorem some_loop (xs ys : List S41) (hx : xs.length ≤ 1048576) (hl : xs.length = ys.length) (d : Nat) : ∀ i : Nat, i + d = xs.length → ∃ r, Ev (fun k => impl_Line_53.l0 k xs ys (xs.length : Int) (i : Int)) r := by
  induction d with
  | zero =>
    intro i hd
    refine ⟨true, ev_succ ?_⟩
    simp only [impl_Line_53.l0]
    exact ev_ifn (by omega) (Ev.now _)
  | succ d ih =>
    intro i hd
    have e1 : wrap64 ((i : Int) + 1) = ((i + 1 : Nat) : Int) := by rw [w64 (by omega) (by omega)]; simp
    by_cases h : differ (rd_T41 xs (i : Int)) (rd_T41 ys (i : Int)) = true
    · refine ⟨false, ev_succ ?_⟩
      simp only [impl_Line_53.l0]
      exact ev_ifp (by omega) (ev_ifp (by omega) (ev_ifp (by omega) (ev_ifp (by omega) (ev_ifp h (Ev.now _)))))
    · obtain ⟨r, hr⟩ := ih (i + 1) (by omega)
      refine ⟨r, ev_succ ?_⟩
      simp only [impl_Line_53.l0, e1]
      exact ev_ifp (by omega) (ev_ifp (by omega) (ev_ifp (by omega) (ev_ifp (by omega) (ev_ifn h hr))))
theorem ext_true (l o : List S41) (hl : l.length ≤ 1048576) (h1 : minutesG l = true) (h2 : minutesG o = true) (h3 : o.length ≤ l.length) (h4 : l.take o.length = o) : Ev (fun k => impl_Extends.f k l o) true := by
  unfold impl_Extends.f
  refine Ev.bind (impl_AreMinutes_ev l) (ev_ifp h1 (Ev.bind (impl_AreMinutes_ev o) (ev_ifp h2 (ev_ifp (by omega) (ev_ifp (by omega) (ev_ifp (by omega) (Ev.bind ?_ (Ev.now _))))))))
  unfold impl_Line_53.f
  rw [Int.toNat_natCast, h4]
  exact ev_ifp rfl (by simpa using same_loop o (by omega) o.length 0 (by omega))
theorem ext_any (l o : List S41) (hl : l.length ≤ 1048576) : ∃ r, Ev (fun k => impl_Extends.f k l o) r ∧ (r = true → o.length ≤ l.length) ∧ (r = true → minutesG l = true) := by
  by_cases h1 : minutesG l = true
  · by_cases h2 : minutesG o = true
    · by_cases h3 : o.length ≤ l.length
      · have hlen : (l.take o.length).length = o.length := by simp; omega
        obtain ⟨r, hr⟩ := some_loop (l.take o.length) o (by omega) hlen (l.take o.length).length 0 (by omega)
        refine ⟨r, ?_, fun _ => h3, fun _ => h1⟩
        unfold impl_Extends.f
        refine Ev.bind (impl_AreMinutes_ev l) (ev_ifp h1 (Ev.bind (impl_AreMinutes_ev o) (ev_ifp h2 (ev_ifp (by omega) (ev_ifp (by omega) (ev_ifp (by omega) (Ev.bind ?_ (Ev.now _))))))))
        unfold impl_Line_53.f
        rw [Int.toNat_natCast]
        exact ev_ifp (by omega) (by simpa using hr)
      · refine ⟨false, ?_, (fun h => by cases h), (fun h => by cases h)⟩
        unfold impl_Extends.f
        exact Ev.bind (impl_AreMinutes_ev l) (ev_ifp h1 (Ev.bind (impl_AreMinutes_ev o) (ev_ifp h2 (ev_ifn (by omega) (Ev.now _)))))
    · refine ⟨false, ?_, (fun h => by cases h), (fun h => by cases h)⟩
      unfold impl_Extends.f
      exact Ev.bind (impl_AreMinutes_ev l) (ev_ifp h1 (Ev.bind (impl_AreMinutes_ev o) (ev_ifn h2 (Ev.now _))))
  · refine ⟨false, ?_, (fun h => by cases h), (fun h => by cases h)⟩
    unfold impl_Extends.f
    exact Ev.bind (impl_AreMinutes_ev l) (ev_ifn h1 (Ev.now _))
theorem minG_prefix (n : S41) (l : List S41) : ∀ i s : Int, minG (l ++ [n]) i s = true → minG l i s = true := by
  induction l with
  | nil => intro i s _; rfl
  | cons x l ih =>
    intro i s h
    rw [List.cons_append] at h
    unfold minG at h ⊢
    rw [Bool.and_eq_true] at h ⊢
    exact ⟨h.1, ih _ _ h.2⟩
theorem minutes_prefix (l : List S41) (n : S41) (h : minutesG (l ++ [n]) = true) : minutesG l = true := by
  unfold minutesG at h ⊢
  rw [Bool.and_eq_true, decide_eq_true_eq, List.length_append, List.length_singleton] at h
  rw [Bool.and_eq_true, decide_eq_true_eq]
  exact ⟨by omega, minG_prefix n l 0 0 h.2⟩
def linesG (w : Int) (l : List S41) : List Int := (l.filter (fun x => decide (x.f2 = w))).map (·.f0)
theorem lines_loop (xs : List S41) (w : Int) (hx : xs.length ≤ 1048576) (d : Nat) : ∀ (i : Nat) (o : List Int), i + d = xs.length → o.length ≤ i → Ev (fun k => impl_LinesOf.l0 k w o xs (xs.length : Int) (i : Int)) (o ++ linesG w (xs.drop i)) := by
  induction d with
  | zero =>
    intro i o hd ho
    apply ev_succ
    simp only [impl_LinesOf.l0]
    rw [List.drop_eq_nil_of_le (by omega)]
    exact ev_ifn (by omega) (ev_some (by simp [linesG]))
  | succ d ih =>
    intro i o hd ho
    have e1 : wrap64 ((i : Int) + 1) = ((i + 1 : Nat) : Int) := by rw [w64 (by omega) (by omega)]; simp
    apply ev_succ
    simp only [impl_LinesOf.l0, e1]
    refine ev_ifp (by omega) (ev_ifp (by omega) (ev_ifp (by omega) ?_))
    rw [drop41 xs i (by omega)]
    generalize rd_T41 xs (i : Int) = x
    by_cases h : x.f2 = w
    · refine ev_ifp h (ev_ifp (by omega) ?_)
      have := ih (i + 1) (o ++ [x.f0]) (by omega) (by simp; omega)
      simpa [linesG, h, List.append_assoc] using this
    · refine ev_ifn h ?_
      have := ih (i + 1) o (by omega) (by omega)
      simpa [linesG, h] using this
theorem lines_ev (xs : List S41) (w : Int) (hx : xs.length ≤ 1048576) : Ev (fun k => impl_LinesOf.f k xs w) (linesG w xs) := by
  unfold impl_LinesOf.f
  simpa using lines_loop xs w hx xs.length 0 [] (by omega) (by simp)
theorem linesG_len (w : Int) (l : List S41) : (linesG w l).length ≤ l.length := by
  unfold linesG
  rw [List.length_map]
  exact List.length_filter_le _ _
theorem rd_lastS (l : List S41) (x : S41) : rd_T41 (l ++ [x]) (l.length : Int) = x := by
  rw [rd41 _ l.length (by simp)]
  simp
theorem FnMinutes : laws_FnMinutes.Pure := by
  intro b _ _ _
  apply Ev.rounds
  unfold laws_FnMinutes.f
  simp only [laws_big.f, Option.bind_some, decide_eq_true_eq]
  by_cases hb : (b.length : Int) > 1048576
  · exact ev_ifp hb (Ev.now _)
  refine ev_ifn hb ?_
  obtain ⟨h, hnew⟩ := l1New_ok b (by omega)
  have c0 : CurOk b 0 := curOk0 (by omega)
  have R : Ev (fun k => laws_FnMinutes.j0 k b false) true := by
    apply ev_succ
    simp only [laws_FnMinutes.j0, Bool.false_eq_true, if_false]
    obtain ⟨l, i1, h1, e1, hl, c1⟩ := any27_ok b 0 h c0
    obtain ⟨p, i2, h2, e2, p0, p1, _, c2⟩ := l1Below_ok h1 (wrap64 ((l.length : Int) + 1)) c1
    obtain ⟨t, i3, h3, e3, c3⟩ := l1Once_ok h2 4 c2
    have w1 : wrap64 ((l.length : Int) + 1) = (l.length : Int) + 1 := w64 (by omega) (by omega)
    have p2 := p1 (by rw [w1]; omega)
    rw [w1] at p2
    have hd : ∃ o : List S41, Ev (fun k => spec_DrawExtends.f k b) (l, o) := by
      by_cases ht : t = true
      · obtain ⟨o, i4, h4, e4, _, _⟩ := any27_ok b i3 h3 c3
        refine ⟨o, ?_⟩
        unfold spec_DrawExtends.f
        refine Ev.bind hnew (Ev.bind e1 ?_)
        simp only [e2, e3, Option.bind_some]
        exact ev_ifp ht (Ev.bind e4 (Ev.now _))
      · refine ⟨l.take p.toNat, ?_⟩
        unfold spec_DrawExtends.f
        refine Ev.bind hnew (Ev.bind e1 ?_)
        simp only [e2, e3, Option.bind_some, List.nil_append, List.length_nil]
        exact ev_ifn ht (ev_ifp p0 (ev_ifp (by omega) (ev_ifp (by rw [List.length_take]; omega) (Ev.now _))))
    obtain ⟨o, hd⟩ := hd
    obtain ⟨r, hr, hr1, _⟩ := ext_any l o (by omega)
    have fin : Ev (fun k => (impl_Extends.f k l l).bind fun t325 => ((impl_AreMinutes.f k l).bind fun t326 => (some (t325 == t326)))) true := by
      by_cases hm : minutesG l = true
      · have ha := impl_AreMinutes_ev l
        rw [hm] at ha
        exact Ev.bind (ext_true l l (by omega) hm hm (Nat.le_refl _) (by simp)) (Ev.bind ha (Ev.now _))
      · have ha := impl_AreMinutes_ev l
        rw [Bool.eq_false_iff.mpr hm] at ha
        obtain ⟨r2, hr2, _, hr3⟩ := ext_any l l (by omega)
        have : r2 = false := Bool.eq_false_iff.mpr (fun e => hm (hr3 e))
        rw [this] at hr2
        exact Ev.bind hr2 (Ev.bind ha (Ev.now _))
    refine Ev.bind hd (Ev.bind hr ?_)
    by_cases hrt : r = true
    · have := hr1 hrt
      exact ev_ifp hrt (ev_ifp (by show (o.length : Int) ≤ (l.length : Int); omega) fin)
    · exact ev_ifn hrt fin
  obtain ⟨l, i1, h1, e1, hl, c1⟩ := any27_ok b 0 h c0
  obtain ⟨p, i2, h2, e2, _, c2⟩ := l1Int_ok h1 [1, 5, 9, 10, 0] (by decide) c1
  obtain ⟨q, i3, h3, e3, _, c3⟩ := l1Int_ok h2 [0, 7, 99, 100, (-1)] (by decide) c2
  have hd : Ev (fun k => spec_DrawWriteLine.f k b) (l, p, q) := by
    unfold spec_DrawWriteLine.f
    refine Ev.bind hnew (Ev.bind e1 ?_)
    simp only [e2, e3, Option.bind_some]
    exact Ev.now _
  refine Ev.bind hd (Ev.bind (impl_WriteLine_ev l p q (by omega)) ?_)
  unfold writeG
  by_cases hm : minutesG (l ++ [newG l p q]) = true
  · rw [if_pos hm]
    have ha := impl_AreMinutes_ev (l ++ [newG l p q])
    rw [hm] at ha
    have hlen : (l ++ [newG l p q]).length = l.length + 1 := by simp
    have hx := ext_true (l ++ [newG l p q]) l (by omega) hm (minutes_prefix l _ hm) (by omega) (by simp)
    obtain ⟨r2, hr2, hr3, _⟩ := ext_any l (l ++ [newG l p q]) (by omega)
    have hr4 : r2 = false := Bool.eq_false_iff.mpr (fun e => by have := hr3 e; omega)
    rw [hr4] at hr2
    have hmem : ((l ++ [newG l p q]).length : Int) ∈ linesG q (l ++ [newG l p q]) := by
      unfold linesG
      rw [List.mem_map]
      refine ⟨newG l p q, ?_, by rw [hlen]; simp [newG]⟩
      rw [List.mem_filter]
      exact ⟨by simp, by simp [newG]⟩
    have hll := linesG_len q (l ++ [newG l p q])
    refine ev_ifp rfl (Ev.bind ha (ev_ifp rfl (Ev.bind hx (ev_ifp rfl (Ev.bind hr2 (ev_ifn (by decide) (Ev.bind (lines_ev (l ++ [newG l p q]) q (by omega)) (Ev.bind (contains_ev _ _ ?_) (ev_ifp (decide_eq_true hmem) ?_)))))))))
    · exact Nat.le_trans hll (by omega)
    · rw [impl_LastSeal_eq (l ++ [newG l p q]) (by omega)]
      simp only [Option.bind_some]
      refine ev_ifp (by omega) (ev_ifp (by omega) (ev_ifp ?_ R))
      unfold lastG
      rw [if_neg (by omega), hlen, show ((l.length + 1 : Nat) : Int) - 1 = (l.length : Int) by omega]
  · rw [if_neg hm]
    refine ev_ifn Bool.false_ne_true ?_
    have : ((l.length : Int) != (l.length : Int)) = false := by simp
    rw [this]
    exact R

end Go.Proofs.Ytaigbllahdjmlaa.Pure
