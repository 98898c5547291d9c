/- The program's Extends answers what the reference's answers, for all arguments.
No condition: for every input. -/
import Derived.Test.YtfdalcklgfdadaaPFnExactExtendsx5
set_option linter.unusedVariables false
set_option linter.unusedSimpArgs false
set_option maxHeartbeats 1000000
namespace Go.Proofs.Ytfdalcklgfdadaa.Pure
open Go.RowKit Go.Proofs.Ytfdalcklgfdadaa.PFnExactExtends Go.Proofs.YtfdalcklgfdadaaW.PrintWords Go.Proofs.YtfdalcklgfdadaaW.PrintLast

theorem w64 {x : Int} (h1 : -9223372036854775808 ≤ x) (h2 : x ≤ 9223372036854775807) : wrap64 x = x := by unfold wrap64; omega
theorem wf64 {x : Int} (h : (Lit.int .i64 x).wf = true) : -9223372036854775808 ≤ x ∧ x ≤ 9223372036854775807 := by
  simp only [Lit.wf, Bool.and_eq_true, decide_eq_true_eq] at h
  have e1 : IntKind.min .i64 = -9223372036854775808 := by decide
  have e2 : IntKind.max .i64 = 9223372036854775807 := by decide
  omega
theorem wfu8 {x : Int} (h : (Lit.int .u8 x).wf = true) : 0 ≤ x ∧ x ≤ 255 := by
  simp only [Lit.wf, Bool.and_eq_true, decide_eq_true_eq] at h
  have e1 : IntKind.min .u8 = 0 := by decide
  have e2 : IntKind.max .u8 = 255 := by decide
  omega
theorem ev_succ {α : Type} {g : Nat → Option α} {r : α} (h : Ev (fun k => g (k + 1)) r) : Ev g r := Ev.step (fun _ => rfl) h
theorem ev_some {α : Type} {r s : α} (h : r = s) : Ev (fun _ => some r) s := by subst h; exact Ev.now r
theorem ev_fix {α : Type} {o : Option α} {r : α} (h : o = some r) : Ev (fun _ => o) r := ⟨0, fun _ _ => h⟩
theorem ev_at {α : Type} {g : Nat → Option α} {r : α} (n : Nat) (h : ∀ k, g (k + n) = some r) : Ev g r :=
  ⟨n, fun k hk => by obtain ⟨m, rfl⟩ : ∃ m, k = m + n := ⟨k - n, by omega⟩; exact h m⟩
theorem ev_bindc {α β : Type} {o : Option α} {f : Nat → α → Option β} {a : α} {r : β} (h : o = some a) (k : Ev (fun n => f n a) r) : Ev (fun n => o.bind (f n)) r := by
  subst h; exact k
theorem ev_ifp {α : Type} {c : Prop} [Decidable c] {a b : Nat → Option α} {r : α} (h : c) (k : Ev a r) : Ev (fun n => if c then a n else b n) r := by
  simpa only [if_pos h] using k
theorem ev_ifn {α : Type} {c : Prop} [Decidable c] {a b : Nat → Option α} {r : α} (h : ¬ c) (k : Ev b r) : Ev (fun n => if c then a n else b n) r := by
  simpa only [if_neg h] using k
theorem drop_rd (xs : List Int) (i : Nat) (h : i < xs.length) : xs.drop i = rd xs (i : Int) :: xs.drop (i + 1) := by
  rw [List.drop_eq_getElem_cons h]
  simp [rd, List.getD_eq_getElem?_getD, h]
theorem spec_l1In_eq (a b c : Int) : spec_l1In.f a b c = some (decide (b ≤ a ∧ a ≤ c)) := by
  unfold spec_l1In.f
  by_cases h : a ≥ b
  · have h' : b ≤ a := h
    simp [h']
  · have h' : ¬ b ≤ a := h
    simp [h']
theorem impl_InRange_eq (a b c : Int) : impl_InRange.f a b c = some (decide (b ≤ a ∧ a ≤ c)) := by
  unfold impl_InRange.f
  by_cases h : b ≤ a <;> simp [h]
theorem rd80 (xs : List S80) (i : Nat) (h : i < xs.length) : rd_T80 xs (i : Int) = xs[i] := by simp [rd_T80, List.getD_eq_getElem?_getD, h]
theorem drop80 (xs : List S80) (i : Nat) (h : i < xs.length) : xs.drop i = rd_T80 xs (i : Int) :: xs.drop (i + 1) := by
  rw [List.drop_eq_getElem_cons h, rd80 xs i h]
def upLine (x : S82) : S80 := ⟨x.f0, x.f1, x.f2, x.f3⟩
theorem szLine_eq (l : List S82) (c : Int) (hm : l.length ≤ maxLen) (h0 : 0 ≤ c) (h1 : c ≤ 1048576) : laws_szLineS.f l c = some (if (l.length : Int) ≤ c then c - (l.length : Int) else (-1 : Int)) := by
  unfold maxLen at hm
  unfold laws_szLineS.f
  rw [w64 (by omega) (by omega)]
  by_cases h : (l.length : Int) ≤ c
  · rw [if_neg (by omega), if_pos h]
  · rw [if_pos (by omega), if_neg h]
theorem rd82 (xs : List S82) (i : Nat) (h : i < xs.length) : rd_T82 xs (i : Int) = xs[i] := by simp [rd_T82, List.getD_eq_getElem?_getD, h]
theorem toLineS_loop (xs : List S82) (hx : xs.length ≤ 1048576) (d : Nat) : ∀ (i : Nat) (ys : List S80), ys.length = xs.length → i + d = xs.length → ys.take i = (xs.map upLine).take i →
    Ev (fun k => laws_toLineS.l0 k xs ys (i : Int)) (xs.map upLine) := by
  induction d with
  | zero =>
    intro i ys hl hd ht
    apply ev_succ
    simp only [laws_toLineS.l0]
    refine ev_ifn (by omega) (ev_some ?_)
    have h1 : ys.take i = ys := List.take_of_length_le (by omega)
    have h2 : (xs.map upLine).take i = xs.map upLine := List.take_of_length_le (by simp; omega)
    rw [← h1, ht, h2]
  | succ d ih =>
    intro i ys hl hd ht
    apply ev_succ
    simp only [laws_toLineS.l0, laws_toLine.f, Option.bind_some]
    refine ev_ifp (by omega) (ev_ifp (by omega) (ev_ifp (by omega) ?_))
    rw [w64 (by omega) (by omega)]
    have hi : i < xs.length := by omega
    have := ih (i + 1) (ys.set i (upLine xs[i])) (by simpa using hl) (by omega) (by
      rw [List.take_succ_eq_append_getElem (l := xs.map upLine) (by simpa using hi), List.take_succ_eq_append_getElem (l := ys.set i (upLine xs[i])) (by simp; omega), List.getElem_set_self, List.take_set_of_le (by omega), ht]
      simp)
    simpa [rd82 xs i hi, upLine] using this
theorem toLineS_ev (xs : List S82) (hx : xs.length ≤ 1048576) : Ev (fun k => laws_toLineS.f k xs) (xs.map upLine) := by
  unfold laws_toLineS.f
  refine ev_ifp (by omega) (ev_ifp (by omega) ?_)
  exact toLineS_loop xs hx xs.length 0 _ (by simp) (by omega) (by simp)
theorem eqLineS_loop (xs : List S80) (hx : xs.length ≤ 17592186044416) (d : Nat) : ∀ (i : Nat), i + d = xs.length → Ev (fun k => laws_eqLineS.l0 k xs xs (i : Int)) true := by
  induction d with
  | zero =>
    intro i hd
    apply ev_succ
    simp only [laws_eqLineS.l0]
    exact ev_ifn (by omega) (Ev.now _)
  | succ d ih =>
    intro i hd
    apply ev_succ
    simp only [laws_eqLineS.l0]
    refine ev_ifp (by omega) (ev_ifp (by omega) (ev_ifp (by omega) ?_))
    rw [w64 (by omega) (by omega)]
    simpa [laws_eqLine.f] using ih (i + 1) (by omega)
theorem eqLineS_ev (xs : List S80) (hx : xs.length ≤ 17592186044416) : Ev (fun k => laws_eqLineS.f k xs xs) true := by
  unfold laws_eqLineS.f
  refine ev_ifp rfl ?_
  exact eqLineS_loop xs hx xs.length 0 (by omega)
def modG (a : Int) : Int := if Int.tmod a 2147483647 < 0 then Int.tmod a 2147483647 + 2147483647 else Int.tmod a 2147483647
theorem tmod_bd (a : Int) : -2147483647 < Int.tmod a 2147483647 ∧ Int.tmod a 2147483647 < 2147483647 := by
  have h1 := Int.tmod_lt_of_pos a (b := 2147483647) (by omega)
  have h2 := Int.tmod_lt_of_pos (-a) (b := 2147483647) (by omega)
  rw [Int.neg_tmod] at h2
  omega
theorem spec_Mod_eq (a : Int) : spec_Mod.f a 2147483647 = some (modG a) := by
  have hb := tmod_bd a
  simp only [spec_Mod.f, spec_l1In_eq, Option.bind_some]
  have h1 : decide ((1 : Int) ≤ 2147483647 ∧ (2147483647 : Int) ≤ 1000000000000) = true := by decide
  rw [h1, if_pos rfl, if_neg (by omega), w64 (by omega) (by omega)]
  congr 1
  unfold modG
  by_cases h : Int.tmod a 2147483647 < 0
  · rw [if_pos h, Int.tmod_eq_of_lt (by omega) (by omega)]
  · rw [if_neg h, Int.tmod_eq_emod_of_nonneg (by omega)]
    omega
def stepG (h x : Int) : Int := Int.tmod (wrap64 ((wrap64 ((wrap64 (h * 1000003)) + modG x)) + 13)) 2147483647
theorem spec_Hash_loop (xs : List Int) (hx : xs.length ≤ 17592186044416) (d : Nat) : ∀ (i : Nat) (h : Int), i + d = xs.length → Ev (fun k => spec_Hash.l0 k xs h (i : Int)) ((xs.drop i).foldl stepG h) := by
  induction d with
  | zero =>
    intro i h hd
    apply ev_succ
    simp only [spec_Hash.l0]
    rw [List.drop_eq_nil_of_le (by omega)]
    exact ev_ifn (by omega) (Ev.now _)
  | succ d ih =>
    intro i h hd
    apply ev_succ
    simp only [spec_Hash.l0, spec_Mod_eq, Option.bind_some]
    refine ev_ifp (by omega) (ev_ifp (by omega) ?_)
    rw [w64 (x := (i : Int) + 1) (by omega) (by omega), drop_rd xs i (by omega)]
    simpa [stepG] using ih (i + 1) (stepG h (rd xs (i : Int))) (by omega)
theorem spec_Hash_ev (xs : List Int) (hx : xs.length ≤ 17592186044416) : Ev (fun k => spec_Hash.f k xs) (xs.foldl stepG 11) := by
  unfold spec_Hash.f
  simpa using spec_Hash_loop xs hx xs.length 0 11 (by omega)
def sealG (b x y z : Int) : Int := [b, x, y, z].foldl stepG 11
theorem spec_l27Seal_ev (b x y z u : Int) : Ev (fun k => spec_l27Seal.f k b x y z u) (sealG b x y z) := by
  unfold spec_l27Seal.f
  exact Ev.bind (spec_Hash_ev [b, x, y, z] (by simp)) (Ev.now _)
theorem impl_Mod_eq (a : Int) : impl_Mod.f a 2147483647 = some (modG a) := by
  have hb := tmod_bd a
  simp only [impl_Mod.f, impl_InRange_eq, Option.bind_some]
  have h1 : decide ((1 : Int) ≤ 2147483647 ∧ (2147483647 : Int) ≤ 1000000000000) = true := by decide
  rw [h1, if_pos rfl, if_neg (by omega)]
  unfold modG
  by_cases h : Int.tmod a 2147483647 < 0
  · rw [if_pos h, if_pos h, w64 (by omega) (by omega)]
  · rw [if_neg h, if_neg h]
theorem impl_fold_eq (h x : Int) : impl_fold.f h x = some (stepG h x) := by
  simp only [impl_fold.f, impl_Mod_eq, Option.bind_some, stepG]
theorem impl_Hash_loop (xs : List Int) (hx : xs.length ≤ 17592186044416) (d : Nat) : ∀ (i : Nat) (h : Int), i + d = xs.length → Ev (fun k => impl_Hash.l0 k h xs (xs.length : Int) (i : Int)) ((xs.drop i).foldl stepG h) := by
  induction d with
  | zero =>
    intro i h hd
    apply ev_succ
    simp only [impl_Hash.l0]
    rw [List.drop_eq_nil_of_le (by omega)]
    exact ev_ifn (by omega) (Ev.now _)
  | succ d ih =>
    intro i h hd
    apply ev_succ
    simp only [impl_Hash.l0, impl_fold_eq, Option.bind_some]
    refine ev_ifp (by omega) (ev_ifp (by omega) (ev_ifp (by omega) ?_))
    rw [w64 (x := (i : Int) + 1) (by omega) (by omega), drop_rd xs i (by omega)]
    simpa using ih (i + 1) (stepG h (rd xs (i : Int))) (by omega)
theorem impl_Hash_ev (xs : List Int) (hx : xs.length ≤ 17592186044416) : Ev (fun k => impl_Hash.f k xs) (xs.foldl stepG 11) := by
  unfold impl_Hash.f
  simpa using impl_Hash_loop xs hx xs.length 0 11 (by omega)
theorem impl_lineSeal_ev (b x y z u : Int) : Ev (fun k => impl_lineSeal.f k b x y z u) (sealG b x y z) := by
  unfold impl_lineSeal.f
  exact Ev.bind (impl_Hash_ev [b, x, y, z] (by simp)) (Ev.now _)
def lineOk (x : S80) (i s : Int) : Bool := decide (x.f0 = i + 1) && decide (1 ≤ x.f1 ∧ x.f1 ≤ 9) && decide (0 ≤ x.f2 ∧ x.f2 ≤ 99) && decide (x.f3 = sealG s x.f0 x.f1 x.f2)
def minG : List S80 → Int → Int → Bool
  | [], _, _ => true
  | x :: xs, i, s => lineOk x i s && minG xs (i + 1) x.f3
def minutesG (xs : List S80) : Bool := decide (xs.length ≤ 200) && minG xs 0 0
theorem spec_AreMinutes_loop (xs : List S80) (hx : xs.length ≤ 200) (d : Nat) : ∀ (i : Nat) (s : Int), i + d = xs.length → Ev (fun k => spec_AreMinutes.l0 k xs s (i : Int)) (minG (xs.drop i) i s) := by
  induction d with
  | zero =>
    intro i s hd
    apply ev_succ; apply ev_succ
    simp only [spec_AreMinutes.l0, spec_AreMinutes.j1]
    rw [List.drop_eq_nil_of_le (by omega)]
    refine ev_ifn (by omega) (ev_ifn (by simp) (ev_some ?_))
    simp only [minG, decide_eq_true_eq]
    omega
  | succ d ih =>
    intro i s hd
    apply ev_succ; apply ev_succ
    have e1 : wrap64 ((i : Int) + 1) = (i : Int) + 1 := w64 (by omega) (by omega)
    have e2 : decide ((xs.length : Int) ≤ 200) = true := by rw [decide_eq_true_eq]; omega
    have e3 : (((i + 1 : Nat) : Int)) = (i : Int) + 1 := by omega
    simp only [spec_AreMinutes.l0, spec_AreMinutes.j1, spec_l1In_eq, Option.bind_some, e1, e2, if_true]
    refine ev_ifp (by omega) (ev_ifp (by omega) (ev_ifp (by omega) ?_))
    rw [drop80 xs i (by omega)]
    generalize rd_T80 xs (i : Int) = x
    refine Ev.bind (spec_l27Seal_ev s x.f0 x.f1 x.f2 x.f3) ?_
    unfold minG lineOk
    by_cases h0 : x.f0 = (i : Int) + 1
    · refine ev_ifp h0 ?_
      by_cases h1 : 1 ≤ x.f1 ∧ x.f1 ≤ 9
      · refine ev_ifp (by simpa using h1) ?_
        by_cases h2 : 0 ≤ x.f2 ∧ x.f2 ≤ 99
        · refine ev_ifp (by simpa using h2) ?_
          by_cases h3 : x.f3 = sealG s x.f0 x.f1 x.f2
          · refine ev_ifp h3 ?_
            have := ih (i + 1) (sealG s x.f0 x.f1 x.f2) (by omega)
            rw [e3] at this
            rw [← h3] at this ⊢
            simpa [h0, h1, h2] using this
          · exact ev_ifn h3 (ev_some (by simp [h3]))
        · exact ev_ifn (by simpa using h2) (ev_some (by simp [h2]))
      · exact ev_ifn (by simpa using h1) (ev_some (by simp [h1]))
    · exact ev_ifn h0 (ev_some (by simp [h0]))
theorem spec_AreMinutes_ev (xs : List S80) : Ev (fun k => spec_AreMinutes.f k xs) (minutesG xs) := by
  unfold spec_AreMinutes.f minutesG
  by_cases hx : xs.length ≤ 200
  · simpa [hx] using spec_AreMinutes_loop xs hx xs.length 0 0 (by omega)
  · apply ev_succ; apply ev_succ
    have e2 : decide ((xs.length : Int) ≤ 200) = false := by rw [decide_eq_false_iff_not]; omega
    simp only [spec_AreMinutes.l0, spec_AreMinutes.j1, e2, Bool.false_eq_true, if_false]
    refine ev_ifp (by omega) (ev_some ?_)
    simp [hx]
theorem impl_AreMinutes_loop (xs : List S80) (hx : xs.length ≤ 200) (d : Nat) : ∀ (i : Nat) (s : Int), i + d = xs.length → Ev (fun k => impl_AreMinutes.l0 k s xs (xs.length : Int) (i : Int)) (minG (xs.drop i) i s) := by
  induction d with
  | zero =>
    intro i s hd
    apply ev_succ
    simp only [impl_AreMinutes.l0]
    rw [List.drop_eq_nil_of_le (by omega)]
    exact ev_ifn (by omega) (Ev.now _)
  | succ d ih =>
    intro i s hd
    apply ev_succ
    have e1 : wrap64 ((i : Int) + 1) = (i : Int) + 1 := w64 (by omega) (by omega)
    have e3 : (((i + 1 : Nat) : Int)) = (i : Int) + 1 := by omega
    simp only [impl_AreMinutes.l0, impl_InRange_eq, Option.bind_some, e1]
    refine ev_ifp (by omega) (ev_ifp (by omega) (ev_ifp (by omega) ?_))
    rw [drop80 xs i (by omega)]
    generalize rd_T80 xs (i : Int) = x
    unfold minG lineOk
    by_cases h0 : x.f0 = (i : Int) + 1
    · refine ev_ifp h0 ?_
      by_cases h1 : 1 ≤ x.f1 ∧ x.f1 ≤ 9
      · refine ev_ifp (by simpa using h1) ?_
        by_cases h2 : 0 ≤ x.f2 ∧ x.f2 ≤ 99
        · refine ev_ifp (by simpa using h2) (Ev.bind (impl_lineSeal_ev s x.f0 x.f1 x.f2 x.f3) ?_)
          by_cases h3 : x.f3 = sealG s x.f0 x.f1 x.f2
          · refine ev_ifp h3 ?_
            have := ih (i + 1) x.f3 (by omega)
            rw [e3] at this
            have hd3 : decide (x.f3 = sealG s ((i : Int) + 1) x.f1 x.f2) = true := decide_eq_true (by rw [← h0]; exact h3)
            simpa [h0, h1, h2, hd3] using this
          · exact ev_ifn h3 (ev_some (by simp [h3]))
        · exact ev_ifn (by simpa using h2) (ev_some (by simp [h2]))
      · exact ev_ifn (by simpa using h1) (ev_some (by simp [h1]))
    · exact ev_ifn h0 (ev_some (by simp [h0]))
theorem impl_AreMinutes_ev (xs : List S80) : Ev (fun k => impl_AreMinutes.f k xs) (minutesG xs) := by
  unfold impl_AreMinutes.f minutesG
  by_cases hx : xs.length ≤ 200
  · refine ev_ifn (by omega) ?_
    simpa [hx] using impl_AreMinutes_loop xs hx xs.length 0 0 (by omega)
  · exact ev_ifp (by omega) (ev_some (by simp [hx]))
def laws_FnExactExtends.Pure : Prop := ∀ (l0 : List (S82)) (l1 : List (S82)), (l0.length ≤ maxLen ∧ ∀ y60 ∈ l0, ((Lit.int .i64 y60.f0).wf = true) ∧ ((Lit.int .i64 y60.f1).wf = true) ∧ ((Lit.int .i64 y60.f2).wf = true) ∧ ((Lit.int .i64 y60.f3).wf = true)) → (l1.length ≤ maxLen ∧ ∀ y60 ∈ l1, ((Lit.int .i64 y60.f0).wf = true) ∧ ((Lit.int .i64 y60.f1).wf = true) ∧ ((Lit.int .i64 y60.f2).wf = true) ∧ ((Lit.int .i64 y60.f3).wf = true)) → ∃ k, laws_FnExactExtends.f k l0 l1 = some true
def differ (x y : S80) : Bool := !(x.f0 == y.f0) || (!(x.f1 == y.f1) || (!(x.f2 == y.f2) || !(x.f3 == y.f3)))
theorem differ_comm (x y : S80) : differ x y = differ y x := by
  have e : ∀ a b : Int, (a == b) = (b == a) := fun a b => by rw [Bool.eq_iff_iff, beq_iff_eq, beq_iff_eq]; exact eq_comm
  unfold differ
  rw [e x.f0, e x.f1, e x.f2, e x.f3]
theorem rd_take (xs : List S80) (n i : Nat) (hi : i < n) (hn : n ≤ xs.length) : rd_T80 (xs.take n) (i : Int) = rd_T80 xs (i : Int) := by
  rw [rd80 _ _ (by simp; omega), rd80 _ _ (by omega)]
  simp
theorem ext_both (l o : List S80) (hl : l.length ≤ 1048576) (ho : o.length ≤ l.length) (d : Nat) : ∀ i : Nat, i + d = o.length →
    ∃ r, Ev (fun k => spec_Extends.l0 k l o (i : Int)) r ∧ Ev (fun k => impl_Line.l0 k (l.take o.length) o (o.length : Int) (i : Int)) r := by
  induction d with
  | zero =>
    intro i hd
    refine ⟨true, ?_, ?_⟩
    · apply ev_succ
      simp only [spec_Extends.l0]
      exact ev_ifn (by omega) (Ev.now _)
    · apply ev_succ
      simp only [impl_Line.l0]
      exact ev_ifn (by omega) (Ev.now _)
  | succ d ih =>
    intro i hd
    have e1 : wrap64 ((i : Int) + 1) = ((i + 1 : Nat) : Int) := by rw [w64 (by omega) (by omega)]; simp
    have e2 := rd_take l o.length i (by omega) ho
    have e3 : ((l.take o.length).length : Int) = o.length := by simp; omega
    by_cases h : differ (rd_T80 o (i : Int)) (rd_T80 l (i : Int)) = true
    · refine ⟨false, ?_, ?_⟩
      · apply ev_succ
        simp only [spec_Extends.l0]
        exact ev_ifp (by omega) (ev_ifp (by omega) (ev_ifp (by omega) (ev_ifp h (Ev.now _))))
      · apply ev_succ
        simp only [impl_Line.l0, e2, e3]
        rw [differ_comm] at h
        exact ev_ifp (by omega) (ev_ifp (by omega) (ev_ifp (by omega) (ev_ifp (by omega) (ev_ifp h (Ev.now _)))))
    · obtain ⟨r, hs, hi⟩ := ih (i + 1) (by omega)
      refine ⟨r, ?_, ?_⟩
      · apply ev_succ
        simp only [spec_Extends.l0]
        rw [e1]
        exact ev_ifp (by omega) (ev_ifp (by omega) (ev_ifp (by omega) (ev_ifn h hs)))
      · apply ev_succ
        simp only [impl_Line.l0, e2, e3]
        rw [e1]
        rw [differ_comm] at h
        exact ev_ifp (by omega) (ev_ifp (by omega) (ev_ifp (by omega) (ev_ifp (by omega) (ev_ifn h hi))))
theorem extends_both (l o : List S80) (hl : l.length ≤ 1048576) : ∃ r, Ev (fun k => spec_Extends.f k l o) r ∧ Ev (fun k => impl_Extends.f k l o) r := by
  have hno : ∀ b : Bool, b = true → Ev (fun k => spec_Extends.j0 k l o b) false := by
    intro b hb
    apply ev_succ
    simp only [spec_Extends.j0, hb, if_true]
    exact Ev.now _
  by_cases ho : o.length ≤ l.length
  · cases h1 : minutesG l
    · refine ⟨false, ?_, ?_⟩
      · unfold spec_Extends.f
        exact ev_ifn (by omega) (Ev.bind (spec_AreMinutes_ev l) (ev_ifn (by simp [h1]) (hno _ rfl)))
      · unfold impl_Extends.f
        exact Ev.bind (impl_AreMinutes_ev l) (ev_ifn (by simp [h1]) (Ev.now _))
    · cases h2 : minutesG o
      · refine ⟨false, ?_, ?_⟩
        · unfold spec_Extends.f
          exact ev_ifn (by omega) (Ev.bind (spec_AreMinutes_ev l) (ev_ifp h1 (Ev.bind (spec_AreMinutes_ev o) (hno _ (by simp [h2])))))
        · unfold impl_Extends.f
          exact Ev.bind (impl_AreMinutes_ev l) (ev_ifp h1 (Ev.bind (impl_AreMinutes_ev o) (ev_ifn (by simp [h2]) (Ev.now _))))
      · obtain ⟨r, hs, hi⟩ := ext_both l o hl ho o.length 0 (by omega)
        refine ⟨r, ?_, ?_⟩
        · unfold spec_Extends.f
          refine ev_ifn (by omega) (Ev.bind (spec_AreMinutes_ev l) (ev_ifp h1 (Ev.bind (spec_AreMinutes_ev o) ?_)))
          rw [h2]
          apply ev_succ
          simp only [spec_Extends.j0, Bool.not_true, Bool.false_eq_true, if_false]
          exact hs
        · unfold impl_Extends.f
          refine Ev.bind (impl_AreMinutes_ev l) (ev_ifp h1 (Ev.bind (impl_AreMinutes_ev o) (ev_ifp h2 (ev_ifp (by omega) (ev_ifp (by omega) (ev_ifp (by omega) (Ev.bind ?_ (Ev.now _))))))))
          unfold impl_Line.f
          have e3 : ((l.take o.length).length : Int) = o.length := by simp; omega
          rw [Int.toNat_natCast, e3]
          exact ev_ifp rfl hi
  · refine ⟨false, ?_, ?_⟩
    · unfold spec_Extends.f
      exact ev_ifp (by omega) (hno _ rfl)
    · unfold impl_Extends.f
      refine Ev.bind (impl_AreMinutes_ev l) ?_
      by_cases h1 : minutesG l = true
      · refine ev_ifp h1 (Ev.bind (impl_AreMinutes_ev o) ?_)
        by_cases h2 : minutesG o = true
        · exact ev_ifp h2 (ev_ifn (by omega) (Ev.now _))
        · exact ev_ifn h2 (Ev.now _)
      · exact ev_ifn h1 (Ev.now _)
theorem FnExactExtends : laws_FnExactExtends.Pure := by
  intro l o hg hg'
  apply Ev.rounds
  unfold laws_FnExactExtends.f
  rw [szLine_eq l _ hg.1 (by omega) (by omega)]
  simp only [Option.bind_some]
  by_cases h : (l.length : Int) ≤ 1048576
  · rw [if_pos h]
    refine ev_ifn (by omega) ?_
    rw [szLine_eq o _ hg'.1 (by omega) (by omega)]
    simp only [Option.bind_some]
    by_cases h' : (o.length : Int) ≤ 1048576 - (l.length : Int)
    · rw [if_pos h']
      refine ev_ifn (by omega) ?_
      have tl := toLineS_ev l (by omega)
      have tto := toLineS_ev o (by omega)
      have hll : (l.map upLine).length = l.length := by simp
      have hlo : (o.map upLine).length = o.length := by simp
      have el := eqLineS_ev (l.map upLine) (by omega)
      have eo := eqLineS_ev (o.map upLine) (by omega)
      obtain ⟨r, hs, hi⟩ := extends_both (l.map upLine) (o.map upLine) (by omega)
      exact Ev.bind tl (Ev.bind tto (Ev.bind hs (Ev.bind tl (Ev.bind tto (Ev.bind hi (ev_ifn (by simp) (Ev.bind tl (Ev.bind el (ev_ifp rfl (Ev.bind tto (Ev.bind eo (ev_ifp rfl (Ev.now _)))))))))))))
    · rw [if_neg h']
      exact ev_ifp (by omega) (Ev.now _)
  · rw [if_neg h]
    exact ev_ifp (by omega) (Ev.now _)

end Go.Proofs.Ytfdalcklgfdadaa.Pure
