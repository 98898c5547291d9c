/- The program's WriteLine answers what the reference's answers, for all arguments, and its list is its own.
No condition: for every input. -/
import Derived.Test.YtaigbllahdjmlaaQFnExactWriteLinex7
set_option linter.unusedVariables false
set_option linter.unusedSimpArgs false
set_option maxHeartbeats 1000000
namespace Go.Proofs.Ytaigbllahdjmlaa.Pure
open Go.RowKit Go.Proofs.Ytaigbllahdjmlaa.QFnExactWriteLine Go.Proofs.YtaigbllahdjmlaaW.PrintWords Go.Proofs.YtaigbllahdjmlaaW.PrintLast

theorem w64 {x : Int} (h1 : -9223372036854775808 ≤ x) (h2 : x ≤ 9223372036854775807) : wrap64 x = x := by unfold wrap64; omega
theorem wf64 {x : Int} (h : (Lit.int .i64 x).wf = true) : -9223372036854775808 ≤ x ∧ x ≤ 9223372036854775807 := by
  simp only [Lit.wf, Bool.and_eq_true, decide_eq_true_eq] at h
  have e1 : IntKind.min .i64 = -9223372036854775808 := by decide
  have e2 : IntKind.max .i64 = 9223372036854775807 := by decide
  omega
theorem wfu8 {x : Int} (h : (Lit.int .u8 x).wf = true) : 0 ≤ x ∧ x ≤ 255 := by
  simp only [Lit.wf, Bool.and_eq_true, decide_eq_true_eq] at h
  have e1 : IntKind.min .u8 = 0 := by decide
  have e2 : IntKind.max .u8 = 255 := by decide
  omega
theorem ev_succ {α : Type} {g : Nat → Option α} {r : α} (h : Ev (fun k => g (k + 1)) r) : Ev g r := Ev.step (fun _ => rfl) h
theorem ev_some {α : Type} {r s : α} (h : r = s) : Ev (fun _ => some r) s := by subst h; exact Ev.now r
theorem ev_fix {α : Type} {o : Option α} {r : α} (h : o = some r) : Ev (fun _ => o) r := ⟨0, fun _ _ => h⟩
theorem ev_at {α : Type} {g : Nat → Option α} {r : α} (n : Nat) (h : ∀ k, g (k + n) = some r) : Ev g r :=
  ⟨n, fun k hk => by obtain ⟨m, rfl⟩ : ∃ m, k = m + n := ⟨k - n, by omega⟩; exact h m⟩
theorem ev_bindc {α β : Type} {o : Option α} {f : Nat → α → Option β} {a : α} {r : β} (h : o = some a) (k : Ev (fun n => f n a) r) : Ev (fun n => o.bind (f n)) r := by
  subst h; exact k
theorem ev_ifp {α : Type} {c : Prop} [Decidable c] {a b : Nat → Option α} {r : α} (h : c) (k : Ev a r) : Ev (fun n => if c then a n else b n) r := by
  simpa only [if_pos h] using k
theorem ev_ifn {α : Type} {c : Prop} [Decidable c] {a b : Nat → Option α} {r : α} (h : ¬ c) (k : Ev b r) : Ev (fun n => if c then a n else b n) r := by
  simpa only [if_neg h] using k
theorem drop_rd (xs : List Int) (i : Nat) (h : i < xs.length) : xs.drop i = rd xs (i : Int) :: xs.drop (i + 1) := by
  rw [List.drop_eq_getElem_cons h]
  simp [rd, List.getD_eq_getElem?_getD, h]
theorem spec_l1In_eq (a b c : Int) : spec_l1In.f a b c = some (decide (b ≤ a ∧ a ≤ c)) := by
  unfold spec_l1In.f
  by_cases h : a ≥ b
  · have h' : b ≤ a := h
    simp [h']
  · have h' : ¬ b ≤ a := h
    simp [h']
theorem impl_InRange_eq (a b c : Int) : impl_InRange.f a b c = some (decide (b ≤ a ∧ a ≤ c)) := by
  unfold impl_InRange.f
  by_cases h : b ≤ a <;> simp [h]
theorem rd41 (xs : List S41) (i : Nat) (h : i < xs.length) : rd_T41 xs (i : Int) = xs[i] := by simp [rd_T41, List.getD_eq_getElem?_getD, h]
theorem drop41 (xs : List S41) (i : Nat) (h : i < xs.length) : xs.drop i = rd_T41 xs (i : Int) :: xs.drop (i + 1) := by
  rw [List.drop_eq_getElem_cons h, rd41 xs i h]
def upLine (x : S68) : S41 := ⟨x.f0, x.f1, x.f2, x.f3⟩
theorem szLine_eq (l : List S68) (c : Int) (hm : l.length ≤ maxLen) (h0 : 0 ≤ c) (h1 : c ≤ 1048576) : laws_szLineS.f l c = some (if (l.length : Int) ≤ c then c - (l.length : Int) else (-1 : Int)) := by
  unfold maxLen at hm
  unfold laws_szLineS.f
  rw [w64 (by omega) (by omega)]
  by_cases h : (l.length : Int) ≤ c
  · rw [if_neg (by omega), if_pos h]
  · rw [if_pos (by omega), if_neg h]
theorem rd68 (xs : List S68) (i : Nat) (h : i < xs.length) : rd_T68 xs (i : Int) = xs[i] := by simp [rd_T68, List.getD_eq_getElem?_getD, h]
theorem toLineS_loop (xs : List S68) (hx : xs.length ≤ 1048576) (d : Nat) : ∀ (i : Nat) (ys : List S41), ys.length = xs.length → i + d = xs.length → ys.take i = (xs.map upLine).take i →
    Ev (fun k => laws_toLineS.l0 k xs ys (i : Int)) (xs.map upLine) := by
  induction d with
  | zero =>
    intro i ys hl hd ht
    apply ev_succ
    simp only [laws_toLineS.l0]
    refine ev_ifn (by omega) (ev_some ?_)
    have h1 : ys.take i = ys := List.take_of_length_le (by omega)
    have h2 : (xs.map upLine).take i = xs.map upLine := List.take_of_length_le (by simp; omega)
    rw [← h1, ht, h2]
  | succ d ih =>
    intro i ys hl hd ht
    apply ev_succ
    simp only [laws_toLineS.l0, laws_toLine.f, Option.bind_some]
    refine ev_ifp (by omega) (ev_ifp (by omega) (ev_ifp (by omega) ?_))
    rw [w64 (by omega) (by omega)]
    have hi : i < xs.length := by omega
    have := ih (i + 1) (ys.set i (upLine xs[i])) (by simpa using hl) (by omega) (by
      rw [List.take_succ_eq_append_getElem (l := xs.map upLine) (by simpa using hi), List.take_succ_eq_append_getElem (l := ys.set i (upLine xs[i])) (by simp; omega), List.getElem_set_self, List.take_set_of_le (by omega), ht]
      simp)
    simpa [rd68 xs i hi, upLine] using this
theorem toLineS_ev (xs : List S68) (hx : xs.length ≤ 1048576) : Ev (fun k => laws_toLineS.f k xs) (xs.map upLine) := by
  unfold laws_toLineS.f
  refine ev_ifp (by omega) (ev_ifp (by omega) ?_)
  exact toLineS_loop xs hx xs.length 0 _ (by simp) (by omega) (by simp)
theorem eqLineS_loop (xs : List S41) (hx : xs.length ≤ 17592186044416) (d : Nat) : ∀ (i : Nat), i + d = xs.length → Ev (fun k => laws_eqLineS.l0 k xs xs (i : Int)) true := by
  induction d with
  | zero =>
    intro i hd
    apply ev_succ
    simp only [laws_eqLineS.l0]
    exact ev_ifn (by omega) (Ev.now _)
  | succ d ih =>
    intro i hd
    apply ev_succ
    simp only [laws_eqLineS.l0]
    refine ev_ifp (by omega) (ev_ifp (by omega) (ev_ifp (by omega) ?_))
    rw [w64 (by omega) (by omega)]
    simpa [laws_eqLine.f] using ih (i + 1) (by omega)
theorem eqLineS_ev (xs : List S41) (hx : xs.length ≤ 17592186044416) : Ev (fun k => laws_eqLineS.f k xs xs) true := by
  unfold laws_eqLineS.f
  refine ev_ifp rfl ?_
  exact eqLineS_loop xs hx xs.length 0 (by omega)
def elLine (a : Int) : S41 := ⟨a, a + 1, a + 2, a + 3⟩
theorem rdset41 (xs : List S41) (i : Nat) (v : S41) (h : i < xs.length) : rd_T41 (xs.set i v) (i : Int) = v := by
  rw [rd41 _ _ (by simpa using h)]
  simp
theorem markLine_loop (n : Nat) (hn : n ≤ 1100000) (d : Nat) : ∀ (i : Nat) (xs : List S41), xs.length = n → i + d = n → ∃ ys, Ev (fun k => laws_markLineS.l0 k xs (1 + 4 * (i : Int)) (i : Int)) (1 + 4 * (n : Int), ys) ∧ ys.length = n ∧ (∀ j : Nat, i ≤ j → j < n → ys[j]? = some (elLine (1 + 4 * (j : Int)))) ∧ (∀ j : Nat, j < i → ys[j]? = xs[j]?) := by
  induction d with
  | zero =>
    intro i xs hl hd
    refine ⟨xs, ?_, hl, fun j h1 h2 => by omega, fun j _ => rfl⟩
    apply ev_succ
    simp only [laws_markLineS.l0]
    refine ev_ifn (by omega) (ev_some ?_)
    rw [show (i : Int) = n by omega]
  | succ d ih =>
    intro i xs hl hd
    obtain ⟨ys, he, hy, h1, h2⟩ := ih (i + 1) (xs.set i (elLine (1 + 4 * (i : Int)))) (by simpa using hl) (by omega)
    refine ⟨ys, ?_, hy, fun j hj hn' => ?_, fun j hj => ?_⟩
    · apply ev_succ
      have hi : i < xs.length := by omega
      have w0 : wrap64 (1 + 4 * (i : Int) + 1) = 1 + 4 * (i : Int) + 1 := by rw [w64 (by omega) (by omega)] <;> omega
      have w1 : wrap64 (1 + 4 * (i : Int) + 1 + 1) = 1 + 4 * (i : Int) + 2 := by rw [w64 (by omega) (by omega)] <;> omega
      have w2 : wrap64 (1 + 4 * (i : Int) + 2 + 1) = 1 + 4 * (i : Int) + 3 := by rw [w64 (by omega) (by omega)] <;> omega
      have w3 : wrap64 (1 + 4 * (i : Int) + 3 + 1) = 1 + 4 * (i : Int) + 4 := by rw [w64 (by omega) (by omega)] <;> omega
      simp only [laws_markLineS.l0, Option.bind_some, Int.toNat_natCast, rdset41 _ _ _ hi, List.set_set, List.length_set, w0, w1, w2, w3]
      have w' : wrap64 ((i : Int) + 1) = ((i + 1 : Nat) : Int) := by rw [w64 (by omega) (by omega)]; simp
      rw [w']
      refine ev_ifp (by omega) (ev_ifp (by omega) ?_)
      have e : 1 + 4 * ((i + 1 : Nat) : Int) = 1 + 4 * (i : Int) + 4 := by omega
      rw [e] at he
      simpa [elLine, Int.add_assoc, Int.mul_comm] using he
    · by_cases hji : j = i
      · subst hji
        rw [h2 j (by omega)]
        simp [show j < xs.length by omega]
      · exact h1 j (by omega) hn'
    · rw [h2 j (by omega), List.getElem?_set_ne (by omega)]
theorem heldLine_loop (ys : List S41) (n : Nat) (hn : n ≤ 1100000) (hl : ys.length = n) (h : ∀ j : Nat, j < n → ys[j]? = some (elLine (1 + 4 * (j : Int)))) (d : Nat) : ∀ i : Nat, i + d = n → Ev (fun k => laws_heldLineS.l0 k ys (1 + 4 * (i : Int)) (i : Int)) (1 + 4 * (n : Int)) := by
  induction d with
  | zero =>
    intro i hd
    apply ev_succ
    simp only [laws_heldLineS.l0]
    refine ev_ifn (by omega) (ev_some ?_)
    rw [show (i : Int) = n by omega]
  | succ d ih =>
    intro i hd
    apply ev_succ
    have hr : rd_T41 ys (i : Int) = elLine (1 + 4 * (i : Int)) := by
      rw [rd41 ys i (by omega)]
      have := h i (by omega)
      rw [List.getElem?_eq_getElem (by omega)] at this
      exact Option.some.inj this
    have w0 : wrap64 (1 + 4 * (i : Int) + 1) = 1 + 4 * (i : Int) + 1 := by rw [w64 (by omega) (by omega)] <;> omega
    have w1 : wrap64 (1 + 4 * (i : Int) + 1 + 1) = 1 + 4 * (i : Int) + 2 := by rw [w64 (by omega) (by omega)] <;> omega
    have w2 : wrap64 (1 + 4 * (i : Int) + 2 + 1) = 1 + 4 * (i : Int) + 3 := by rw [w64 (by omega) (by omega)] <;> omega
    have w3 : wrap64 (1 + 4 * (i : Int) + 3 + 1) = 1 + 4 * (i : Int) + 4 := by rw [w64 (by omega) (by omega)] <;> omega
    have he := ih (i + 1) (by omega)
    have e : 1 + 4 * ((i + 1 : Nat) : Int) = 1 + 4 * (i : Int) + 4 := by omega
    rw [e] at he
    have w' : wrap64 ((i : Int) + 1) = ((i + 1 : Nat) : Int) := by rw [w64 (by omega) (by omega)]; simp
    simp only [laws_heldLineS.l0, hr, elLine, w0, w1, w2, w3, w']
    refine ev_ifp (by omega) (ev_ifp (by omega) ?_)
    simpa [Int.add_assoc] using he
theorem markLine_ev (xs : List S41) (hx : xs.length ≤ 1100000) : ∃ m ys, Ev (fun k => laws_markLineS.f k xs 1) (m, ys) ∧ 0 ≤ m ∧ Ev (fun k => laws_heldLineS.f k ys 1) m := by
  obtain ⟨ys, he, hy, h1, h2⟩ := markLine_loop xs.length hx xs.length 0 xs rfl (by omega)
  refine ⟨1 + 4 * (xs.length : Int), ys, ?_, by omega, ?_⟩
  · unfold laws_markLineS.f
    simpa using he
  · unfold laws_heldLineS.f
    simpa using heldLine_loop ys xs.length hx hy (fun j hj => h1 j (by omega) hj) xs.length 0 (by omega)
def modG (a : Int) : Int := if Int.tmod a 2147483647 < 0 then Int.tmod a 2147483647 + 2147483647 else Int.tmod a 2147483647
theorem tmod_bd (a : Int) : -2147483647 < Int.tmod a 2147483647 ∧ Int.tmod a 2147483647 < 2147483647 := by
  have h1 := Int.tmod_lt_of_pos a (b := 2147483647) (by omega)
  have h2 := Int.tmod_lt_of_pos (-a) (b := 2147483647) (by omega)
  rw [Int.neg_tmod] at h2
  omega
theorem spec_Mod_eq (a : Int) : spec_Mod.f a 2147483647 = some (modG a) := by
  have hb := tmod_bd a
  simp only [spec_Mod.f, spec_l1In_eq, Option.bind_some]
  have h1 : decide ((1 : Int) ≤ 2147483647 ∧ (2147483647 : Int) ≤ 1000000000000) = true := by decide
  rw [h1, if_pos rfl, if_neg (by omega), w64 (by omega) (by omega)]
  congr 1
  unfold modG
  by_cases h : Int.tmod a 2147483647 < 0
  · rw [if_pos h, Int.tmod_eq_of_lt (by omega) (by omega)]
  · rw [if_neg h, Int.tmod_eq_emod_of_nonneg (by omega)]
    omega
def stepG (h x : Int) : Int := Int.tmod (wrap64 ((wrap64 ((wrap64 (h * 1000003)) + modG x)) + 13)) 2147483647
theorem spec_Hash_loop (xs : List Int) (hx : xs.length ≤ 17592186044416) (d : Nat) : ∀ (i : Nat) (h : Int), i + d = xs.length → Ev (fun k => spec_Hash.l0 k xs h (i : Int)) ((xs.drop i).foldl stepG h) := by
  induction d with
  | zero =>
    intro i h hd
    apply ev_succ
    simp only [spec_Hash.l0]
    rw [List.drop_eq_nil_of_le (by omega)]
    exact ev_ifn (by omega) (Ev.now _)
  | succ d ih =>
    intro i h hd
    apply ev_succ
    simp only [spec_Hash.l0, spec_Mod_eq, Option.bind_some]
    refine ev_ifp (by omega) (ev_ifp (by omega) ?_)
    rw [w64 (x := (i : Int) + 1) (by omega) (by omega), drop_rd xs i (by omega)]
    simpa [stepG] using ih (i + 1) (stepG h (rd xs (i : Int))) (by omega)
theorem spec_Hash_ev (xs : List Int) (hx : xs.length ≤ 17592186044416) : Ev (fun k => spec_Hash.f k xs) (xs.foldl stepG 11) := by
  unfold spec_Hash.f
  simpa using spec_Hash_loop xs hx xs.length 0 11 (by omega)
def sealG (b x y z : Int) : Int := [b, x, y, z].foldl stepG 11
theorem spec_l27Seal_ev (b x y z u : Int) : Ev (fun k => spec_l27Seal.f k b x y z u) (sealG b x y z) := by
  unfold spec_l27Seal.f
  exact Ev.bind (spec_Hash_ev [b, x, y, z] (by simp)) (Ev.now _)
theorem impl_Mod_eq (a : Int) : impl_Mod.f a 2147483647 = some (modG a) := by
  have hb := tmod_bd a
  simp only [impl_Mod.f, impl_InRange_eq, Option.bind_some]
  have h1 : decide ((1 : Int) ≤ 2147483647 ∧ (2147483647 : Int) ≤ 1000000000000) = true := by decide
  rw [h1, if_pos rfl, if_neg (by omega)]
  unfold modG
  by_cases h : Int.tmod a 2147483647 < 0
  · rw [if_pos h, if_pos h, w64 (by omega) (by omega)]
  · rw [if_neg h, if_neg h]
theorem impl_fold_eq (h x : Int) : impl_fold.f h x = some (stepG h x) := by
  simp only [impl_fold.f, impl_Mod_eq, Option.bind_some, stepG]
theorem impl_Hash_loop (xs : List Int) (hx : xs.length ≤ 17592186044416) (d : Nat) : ∀ (i : Nat) (h : Int), i + d = xs.length → Ev (fun k => impl_Hash.l0 k h xs (xs.length : Int) (i : Int)) ((xs.drop i).foldl stepG h) := by
  induction d with
  | zero =>
    intro i h hd
    apply ev_succ
    simp only [impl_Hash.l0]
    rw [List.drop_eq_nil_of_le (by omega)]
    exact ev_ifn (by omega) (Ev.now _)
  | succ d ih =>
    intro i h hd
    apply ev_succ
    simp only [impl_Hash.l0, impl_fold_eq, Option.bind_some]
    refine ev_ifp (by omega) (ev_ifp (by omega) (ev_ifp (by omega) ?_))
    rw [w64 (x := (i : Int) + 1) (by omega) (by omega), drop_rd xs i (by omega)]
    simpa using ih (i + 1) (stepG h (rd xs (i : Int))) (by omega)
theorem impl_Hash_ev (xs : List Int) (hx : xs.length ≤ 17592186044416) : Ev (fun k => impl_Hash.f k xs) (xs.foldl stepG 11) := by
  unfold impl_Hash.f
  simpa using impl_Hash_loop xs hx xs.length 0 11 (by omega)
theorem impl_lineSeal_ev (b x y z u : Int) : Ev (fun k => impl_lineSeal.f k b x y z u) (sealG b x y z) := by
  unfold impl_lineSeal.f
  exact Ev.bind (impl_Hash_ev [b, x, y, z] (by simp)) (Ev.now _)
def lineOk (x : S41) (i s : Int) : Bool := decide (x.f0 = i + 1) && decide (1 ≤ x.f1 ∧ x.f1 ≤ 9) && decide (0 ≤ x.f2 ∧ x.f2 ≤ 99) && decide (x.f3 = sealG s x.f0 x.f1 x.f2)
def minG : List S41 → Int → Int → Bool
  | [], _, _ => true
  | x :: xs, i, s => lineOk x i s && minG xs (i + 1) x.f3
def minutesG (xs : List S41) : Bool := decide (xs.length ≤ 200) && minG xs 0 0
theorem spec_AreMinutes_loop (xs : List S41) (hx : xs.length ≤ 200) (d : Nat) : ∀ (i : Nat) (s : Int), i + d = xs.length → Ev (fun k => spec_AreMinutes.l0 k xs s (i : Int)) (minG (xs.drop i) i s) := by
  induction d with
  | zero =>
    intro i s hd
    apply ev_succ; apply ev_succ
    simp only [spec_AreMinutes.l0, spec_AreMinutes.j1]
    rw [List.drop_eq_nil_of_le (by omega)]
    refine ev_ifn (by omega) (ev_ifn (by simp) (ev_some ?_))
    simp only [minG, decide_eq_true_eq]
    omega
  | succ d ih =>
    intro i s hd
    apply ev_succ; apply ev_succ
    have e1 : wrap64 ((i : Int) + 1) = (i : Int) + 1 := w64 (by omega) (by omega)
    have e2 : decide ((xs.length : Int) ≤ 200) = true := by rw [decide_eq_true_eq]; omega
    have e3 : (((i + 1 : Nat) : Int)) = (i : Int) + 1 := by omega
    simp only [spec_AreMinutes.l0, spec_AreMinutes.j1, spec_l1In_eq, Option.bind_some, e1, e2, if_true]
    refine ev_ifp (by omega) (ev_ifp (by omega) (ev_ifp (by omega) ?_))
    rw [drop41 xs i (by omega)]
    generalize rd_T41 xs (i : Int) = x
    refine Ev.bind (spec_l27Seal_ev s x.f0 x.f1 x.f2 x.f3) ?_
    unfold minG lineOk
    by_cases h0 : x.f0 = (i : Int) + 1
    · refine ev_ifp h0 ?_
      by_cases h1 : 1 ≤ x.f1 ∧ x.f1 ≤ 9
      · refine ev_ifp (by simpa using h1) ?_
        by_cases h2 : 0 ≤ x.f2 ∧ x.f2 ≤ 99
        · refine ev_ifp (by simpa using h2) ?_
          by_cases h3 : x.f3 = sealG s x.f0 x.f1 x.f2
          · refine ev_ifp h3 ?_
            have := ih (i + 1) (sealG s x.f0 x.f1 x.f2) (by omega)
            rw [e3] at this
            rw [← h3] at this ⊢
            simpa [h0, h1, h2] using this
          · exact ev_ifn h3 (ev_some (by simp [h3]))
        · exact ev_ifn (by simpa using h2) (ev_some (by simp [h2]))
      · exact ev_ifn (by simpa using h1) (ev_some (by simp [h1]))
    · exact ev_ifn h0 (ev_some (by simp [h0]))
theorem spec_AreMinutes_ev (xs : List S41) : Ev (fun k => spec_AreMinutes.f k xs) (minutesG xs) := by
  unfold spec_AreMinutes.f minutesG
  by_cases hx : xs.length ≤ 200
  · simpa [hx] using spec_AreMinutes_loop xs hx xs.length 0 0 (by omega)
  · apply ev_succ; apply ev_succ
    have e2 : decide ((xs.length : Int) ≤ 200) = false := by rw [decide_eq_false_iff_not]; omega
    simp only [spec_AreMinutes.l0, spec_AreMinutes.j1, e2, Bool.false_eq_true, if_false]
    refine ev_ifp (by omega) (ev_some ?_)
    simp [hx]
theorem impl_AreMinutes_loop (xs : List S41) (hx : xs.length ≤ 200) (d : Nat) : ∀ (i : Nat) (s : Int), i + d = xs.length → Ev (fun k => impl_AreMinutes.l0 k s xs (xs.length : Int) (i : Int)) (minG (xs.drop i) i s) := by
  induction d with
  | zero =>
    intro i s hd
    apply ev_succ
    simp only [impl_AreMinutes.l0]
    rw [List.drop_eq_nil_of_le (by omega)]
    exact ev_ifn (by omega) (Ev.now _)
  | succ d ih =>
    intro i s hd
    apply ev_succ
    have e1 : wrap64 ((i : Int) + 1) = (i : Int) + 1 := w64 (by omega) (by omega)
    have e3 : (((i + 1 : Nat) : Int)) = (i : Int) + 1 := by omega
    simp only [impl_AreMinutes.l0, impl_InRange_eq, Option.bind_some, e1]
    refine ev_ifp (by omega) (ev_ifp (by omega) (ev_ifp (by omega) ?_))
    rw [drop41 xs i (by omega)]
    generalize rd_T41 xs (i : Int) = x
    unfold minG lineOk
    by_cases h0 : x.f0 = (i : Int) + 1
    · refine ev_ifp h0 ?_
      by_cases h1 : 1 ≤ x.f1 ∧ x.f1 ≤ 9
      · refine ev_ifp (by simpa using h1) ?_
        by_cases h2 : 0 ≤ x.f2 ∧ x.f2 ≤ 99
        · refine ev_ifp (by simpa using h2) (Ev.bind (impl_lineSeal_ev s x.f0 x.f1 x.f2 x.f3) ?_)
          by_cases h3 : x.f3 = sealG s x.f0 x.f1 x.f2
          · refine ev_ifp h3 ?_
            have := ih (i + 1) x.f3 (by omega)
            rw [e3] at this
            have hd3 : decide (x.f3 = sealG s ((i : Int) + 1) x.f1 x.f2) = true := decide_eq_true (by rw [← h0]; exact h3)
            simpa [h0, h1, h2, hd3] using this
          · exact ev_ifn h3 (ev_some (by simp [h3]))
        · exact ev_ifn (by simpa using h2) (ev_some (by simp [h2]))
      · exact ev_ifn (by simpa using h1) (ev_some (by simp [h1]))
    · exact ev_ifn h0 (ev_some (by simp [h0]))
theorem impl_AreMinutes_ev (xs : List S41) : Ev (fun k => impl_AreMinutes.f k xs) (minutesG xs) := by
  unfold impl_AreMinutes.f minutesG
  by_cases hx : xs.length ≤ 200
  · refine ev_ifn (by omega) ?_
    simpa [hx] using impl_AreMinutes_loop xs hx xs.length 0 0 (by omega)
  · exact ev_ifp (by omega) (ev_some (by simp [hx]))
def lastG (l : List S41) : Int := if l.length = 0 then 0 else (rd_T41 l ((l.length : Int) - 1)).f3
def newG (l : List S41) (what who : Int) : S41 := ⟨(l.length : Int) + 1, what, who, sealG (lastG l) ((l.length : Int) + 1) what who⟩
def writeG (l : List S41) (what who : Int) : List S41 × Bool := if minutesG (l ++ [newG l what who]) = true then (l ++ [newG l what who], true) else (l, false)
theorem writeG_len (l : List S41) (a b : Int) : (writeG l a b).1.length ≤ l.length + 1 := by
  unfold writeG
  split <;> simp
theorem spec_LastSeal_eq (l : List S41) (hl : l.length ≤ 1048576) : spec_LastSeal.f l = some (lastG l) := by
  unfold spec_LastSeal.f lastG
  by_cases h0 : l.length = 0
  · rw [if_pos (by omega), if_pos h0]
  · rw [if_neg (by omega), if_neg h0, w64 (by omega) (by omega), if_pos (by omega), if_pos (by omega)]
theorem spec_WriteLine_ev (l : List S41) (a b : Int) (hl : l.length ≤ 1048576) : Ev (fun k => spec_WriteLine.f k l a b) (writeG l a b) := by
  unfold spec_WriteLine.f
  rw [spec_LastSeal_eq l hl, w64 (by omega) (by omega)]
  simp only [Option.bind_some, List.nil_append, List.length_nil, List.length_singleton]
  refine Ev.bind (spec_l27Seal_ev _ _ _ _ _) (ev_ifp (by omega) (ev_ifp (by omega) (Ev.bind (spec_AreMinutes_ev _) ?_)))
  show Ev (fun n => if minutesG (l ++ [newG l a b]) = true then some (l ++ [newG l a b], true) else if 0 + l.length < 4398046511104 then some (l, false) else none) (writeG l a b)
  unfold writeG
  by_cases h : minutesG (l ++ [newG l a b]) = true
  · exact ev_ifp h (ev_some (if_pos h).symm)
  · exact ev_ifn h (ev_ifp (by omega) (ev_some (if_neg h).symm))
theorem impl_LastSeal_eq (l : List S41) (hl : l.length ≤ 1048576) : impl_LastSeal.f l = some (lastG l) := by
  unfold impl_LastSeal.f lastG
  by_cases h0 : l.length = 0
  · rw [if_pos (by omega), if_pos h0]
  · rw [if_neg (by omega), if_neg h0, w64 (by omega) (by omega), if_pos (by omega), if_pos (by omega)]
theorem impl_Line_eq (l : List S41) (hl : l.length ≤ 1048576) : impl_Line.f l = some l := by
  unfold impl_Line.f
  simp only [Option.bind_some, List.nil_append, List.length_nil]
  rw [if_pos (by omega)]
theorem impl_WriteLine_ev (l : List S41) (a b : Int) (hl : l.length ≤ 1048576) : Ev (fun k => impl_WriteLine.f k l a b) (writeG l a b) := by
  unfold impl_WriteLine.f
  rw [impl_LastSeal_eq l hl, w64 (by omega) (by omega), impl_Line_eq l hl]
  simp only [Option.bind_some, List.length_singleton]
  refine Ev.bind (impl_lineSeal_ev _ _ _ _ _) (ev_ifp (by omega) (Ev.bind (impl_AreMinutes_ev _) ?_))
  show Ev (fun n => if minutesG (l ++ [newG l a b]) = true then some (l ++ [newG l a b], true) else some (l, false)) (writeG l a b)
  unfold writeG
  by_cases h : minutesG (l ++ [newG l a b]) = true
  · exact ev_ifp h (ev_some (if_pos h).symm)
  · exact ev_ifn h (ev_some (if_neg h).symm)
def laws_FnExactWriteLine.Pure : Prop := ∀ (l0 : List (S68)) (a1 : Int) (a2 : Int), (l0.length ≤ maxLen ∧ ∀ y22 ∈ l0, ((Lit.int .i64 y22.f0).wf = true) ∧ ((Lit.int .i64 y22.f1).wf = true) ∧ ((Lit.int .i64 y22.f2).wf = true) ∧ ((Lit.int .i64 y22.f3).wf = true)) → ((Lit.int .i64 a1).wf = true) → ((Lit.int .i64 a2).wf = true) → ∃ k, laws_FnExactWriteLine.f k l0 a1 a2 = some true
theorem FnExactWriteLine : laws_FnExactWriteLine.Pure := by
  intro l a b hg _ _
  apply Ev.rounds
  unfold laws_FnExactWriteLine.f
  rw [szLine_eq l _ hg.1 (by omega) (by omega)]
  simp only [Option.bind_some]
  by_cases h : (l.length : Int) ≤ 1048576
  · rw [if_pos h]
    refine ev_ifn (by omega) ?_
    have ht := toLineS_ev l (by omega)
    have hlen : (l.map upLine).length = l.length := by simp
    have he := eqLineS_ev (l.map upLine) (by omega)
    have hs := spec_WriteLine_ev (l.map upLine) a b (by omega)
    have hi := impl_WriteLine_ev (l.map upLine) a b (by omega)
    have hgl := writeG_len (l.map upLine) a b
    generalize writeG (l.map upLine) a b = r at hs hi hgl
    have hq := eqLineS_ev r.1 (by omega)
    obtain ⟨m, ys, hm, hm0, hh⟩ := markLine_ev r.1 (by omega)
    obtain ⟨m2, ys2, hm2, hm20, _⟩ := markLine_ev (l.map upLine) (by omega)
    refine Ev.bind ht (Ev.bind hs (Ev.bind ht (Ev.bind hi (Ev.bind hq (ev_ifp rfl ?_)))))
    apply ev_succ
    simp only [laws_FnExactWriteLine.j0, bne_self_eq_false, Bool.false_eq_true, if_false]
    refine Ev.bind ht (Ev.bind he (ev_ifp rfl (Ev.bind hm2 (ev_ifn (by simpa using hm20) (Ev.bind hq (ev_ifp rfl ?_))))))
    apply ev_succ
    simp only [laws_FnExactWriteLine.j1, Bool.false_eq_true, if_false]
    refine Ev.bind hm (Ev.bind hh (ev_ifn (by omega) (ev_ifp rfl (Ev.bind ht (Ev.bind hi (Ev.bind hq (ev_ifp rfl ?_)))))))
    apply ev_succ
    simp only [laws_FnExactWriteLine.j2, bne_self_eq_false, Bool.false_eq_true, if_false]
    exact Ev.bind hh (ev_ifn (by omega) (ev_ifp rfl (Ev.now _)))
  · rw [if_neg h]
    exact ev_ifp (by omega) (Ev.now _)

end Go.Proofs.Ytaigbllahdjmlaa.Pure
