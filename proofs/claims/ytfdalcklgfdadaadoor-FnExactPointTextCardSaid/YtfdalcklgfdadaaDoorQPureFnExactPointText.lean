/- The program's PointText answers what the reference's answers, for all arguments.
No condition: for every input. -/
import Derived.Test.YtfdalcklgfdadaaDoorQFnExactPointTextx2
import Derived.Lib.AppendIntMem
set_option linter.unusedVariables false
set_option linter.unusedSimpArgs false
set_option maxHeartbeats 1000000
namespace Go.Proofs.YtfdalcklgfdadaaDoor.Pure
open Go.RowKit Go.Proofs.YtfdalcklgfdadaaDoor.QFnExactPointText Go.Proofs.YtfdalcklgfdadaaDoorW.PrintWords Go.Proofs.YtfdalcklgfdadaaDoorW.PrintLast

theorem w64 {x : Int} (h1 : -9223372036854775808 ≤ x) (h2 : x ≤ 9223372036854775807) : wrap64 x = x := by unfold wrap64; omega
theorem wf64 {x : Int} (h : (Lit.int .i64 x).wf = true) : -9223372036854775808 ≤ x ∧ x ≤ 9223372036854775807 := by
  simp only [Lit.wf, Bool.and_eq_true, decide_eq_true_eq] at h
  have e1 : IntKind.min .i64 = -9223372036854775808 := by decide
  have e2 : IntKind.max .i64 = 9223372036854775807 := by decide
  omega
theorem wfu8 {x : Int} (h : (Lit.int .u8 x).wf = true) : 0 ≤ x ∧ x ≤ 255 := by
  simp only [Lit.wf, Bool.and_eq_true, decide_eq_true_eq] at h
  have e1 : IntKind.min .u8 = 0 := by decide
  have e2 : IntKind.max .u8 = 255 := by decide
  omega
theorem ev_succ {α : Type} {g : Nat → Option α} {r : α} (h : Ev (fun k => g (k + 1)) r) : Ev g r := Ev.step (fun _ => rfl) h
theorem ev_some {α : Type} {r s : α} (h : r = s) : Ev (fun _ => some r) s := by subst h; exact Ev.now r
theorem ev_fix {α : Type} {o : Option α} {r : α} (h : o = some r) : Ev (fun _ => o) r := ⟨0, fun _ _ => h⟩
theorem ev_at {α : Type} {g : Nat → Option α} {r : α} (n : Nat) (h : ∀ k, g (k + n) = some r) : Ev g r :=
  ⟨n, fun k hk => by obtain ⟨m, rfl⟩ : ∃ m, k = m + n := ⟨k - n, by omega⟩; exact h m⟩
theorem ev_bindc {α β : Type} {o : Option α} {f : Nat → α → Option β} {a : α} {r : β} (h : o = some a) (k : Ev (fun n => f n a) r) : Ev (fun n => o.bind (f n)) r := by
  subst h; exact k
theorem ev_ifp {α : Type} {c : Prop} [Decidable c] {a b : Nat → Option α} {r : α} (h : c) (k : Ev a r) : Ev (fun n => if c then a n else b n) r := by
  simpa only [if_pos h] using k
theorem ev_ifn {α : Type} {c : Prop} [Decidable c] {a b : Nat → Option α} {r : α} (h : ¬ c) (k : Ev b r) : Ev (fun n => if c then a n else b n) r := by
  simpa only [if_neg h] using k
theorem spec_l1In_eq (a b c : Int) : spec_l1In.f a b c = some (decide (b ≤ a ∧ a ≤ c)) := by
  unfold spec_l1In.f
  by_cases h : a ≥ b
  · have h' : b ≤ a := h
    simp [h']
  · have h' : ¬ b ≤ a := h
    simp [h']
theorem impl_InRange_eq (a b c : Int) : impl_InRange.f a b c = some (decide (b ≤ a ∧ a ≤ c)) := by
  unfold impl_InRange.f
  by_cases h : b ≤ a <;> simp [h]
def laws_FnExactPointText.Pure : Prop := ∀ (a0_0 : Int) (a0_1 : Int) (a0_2 : Int), ((Lit.int .i64 a0_0).wf = true) → ((Lit.int .i64 a0_1).wf = true) → ((Lit.int .i64 a0_2).wf = true) → ∃ k, laws_FnExactPointText.f k a0_0 a0_1 a0_2 = some true

theorem bytes_app (a b : List UInt8) : ((⟨a.toArray⟩ : ByteArray) ++ (⟨b.toArray⟩ : ByteArray)) = ⟨(a ++ b).toArray⟩ := by
  apply ByteArray.ext
  simp
theorem bytes_size (a : List UInt8) : (⟨a.toArray⟩ : ByteArray).size = a.length := by simp [ByteArray.size]
/-- The digits of a number, none of 0. -/
def digs (u : Nat) : List UInt8 := if u = 0 then [] else Lib.decDigits u
theorem digs_step (u : Nat) (h : u ≠ 0) : digs u = digs (u / 10) ++ [UInt8.ofNat (48 + u % 10)] := by
  unfold digs
  rw [if_neg h]
  by_cases h1 : u < 10
  · rw [if_pos (show u / 10 = 0 by omega), Lib.decDigits_one h1, Nat.mod_eq_of_lt h1]
    rfl
  · rw [if_neg (show ¬ u / 10 = 0 by omega), Lib.decDigits, dif_neg h1]
theorem nd_le (k : Nat) : ∀ u : Nat, u < 10 ^ (k + 1) → Lib.nDigits u ≤ k + 1 := by
  induction k with
  | zero =>
    intro u h
    rw [Lib.nDigits_small (by simpa using h)]
    exact Nat.le_refl _
  | succ k ih =>
    intro u h
    by_cases h1 : u < 10
    · rw [Lib.nDigits_small h1]
      omega
    · rw [Lib.nDigits_big h1]
      rw [Nat.pow_succ] at h
      have := ih (u / 10) (by omega)
      omega
theorem itoa_len (n : Int) (h0 : -9223372036854775808 ≤ n) (h1 : n ≤ 9223372036854775807) : (Lib.itoa n).length ≤ 20 := by
  have a := nd_le 18 n.natAbs (by simp only [Nat.reduceAdd, Nat.reducePow]; omega)
  have b := nd_le 18 n.toNat (by simp only [Nat.reduceAdd, Nat.reducePow]; omega)
  unfold Lib.itoa
  split
  · rw [List.length_cons, Lib.decDigits_length]
    omega
  · rw [Lib.decDigits_length]
    omega
theorem fmt_loop (x0 : Int) (k : Nat) : ∀ (x : Int) (l : List UInt8), x.natAbs < 10 ^ k → -9223372036854775808 ≤ x → x ≤ 9223372036854775807 → l.length + k ≤ 40 →
    Ev (fun f => spec_FormatInt.l0 f x0 ⟨l.toArray⟩ x) ⟨((if x0 < 0 then [45] else []) ++ (digs x.natAbs ++ l)).toArray⟩ := by
  have zero : ∀ l : List UInt8, l.length ≤ 40 → Ev (fun f => spec_FormatInt.l0 f x0 ⟨l.toArray⟩ 0) ⟨((if x0 < 0 then [45] else []) ++ (digs (0 : Int).natAbs ++ l)).toArray⟩ := fun l hl => by
    apply ev_succ
    simp only [spec_FormatInt.l0]
    refine ev_ifp (by first | trivial | rfl) ?_
    by_cases h : x0 < 0
    · refine ev_ifp h (ev_ifp (by rw [bytes_size]; omega) (ev_some ?_))
      rw [if_pos h]
      exact bytes_app [45] l
    · refine ev_ifn h (ev_some ?_)
      rw [if_neg h]
      rfl
  induction k with
  | zero =>
    intro x l hx h0 h1 hl
    have : x = 0 := by
      simp only [Nat.pow_zero] at hx
      omega
    subst this
    exact zero l (by omega)
  | succ k ih =>
    intro x l hx h0 h1 hl
    by_cases hz : x = 0
    · subst hz
      exact zero l (by omega)
    · have hu : x.natAbs ≠ 0 := by omega
      rw [Nat.pow_succ] at hx
      have hst : strOfNums [((48 + x.natAbs % 10 : Nat) : Int)] = ⟨[UInt8.ofNat (48 + x.natAbs % 10)].toArray⟩ := by
        show (⟨([((48 + x.natAbs % 10 : Nat) : Int)].map fun n => UInt8.ofNat n.toNat).toArray⟩ : ByteArray) = _
        rw [List.map_cons, List.map_nil, Int.toNat_natCast]
      have hrec : ∀ y : Int, y.natAbs = x.natAbs / 10 → Ev (fun f => spec_FormatInt.l0 f x0 (strOfNums [((48 + x.natAbs % 10 : Nat) : Int)] ++ ⟨l.toArray⟩) y) ⟨((if x0 < 0 then [45] else []) ++ (digs x.natAbs ++ l)).toArray⟩ := fun y hy => by
        have := ih y (UInt8.ofNat (48 + x.natAbs % 10) :: l) (by omega) (by omega) (by omega) (by simp; omega)
        rw [hst, bytes_app, digs_step _ hu]
        rw [hy] at this
        simpa using this
      have hsz : (strOfNums [((48 + x.natAbs % 10 : Nat) : Int)]).size + (⟨l.toArray⟩ : ByteArray).size ≤ 9223372036854775807 := by
        rw [hst, bytes_size, bytes_size]
        simp
        omega
      apply ev_succ
      simp only [spec_FormatInt.l0, Option.bind_some]
      refine ev_ifn hz ?_
      rcases Int.natAbs_eq x with e | e
      · have m : Int.tmod x 10 = ((x.natAbs % 10 : Nat) : Int) := by
          rw [Int.tmod_eq_emod_of_nonneg (by omega)]
          omega
        have q : Int.tdiv x 10 = ((x.natAbs / 10 : Nat) : Int) := by
          rw [Int.tdiv_eq_ediv_of_nonneg (by omega)]
          omega
        have v : (wrap64 (48 + Int.tmod x 10)) % 256 = ((48 + x.natAbs % 10 : Nat) : Int) := by
          rw [m, w64 (by omega) (by omega)]
          omega
        rw [v, q, w64 (x := ((x.natAbs / 10 : Nat) : Int)) (by omega) (by omega)]
        exact ev_ifn (by rw [m]; omega) (ev_ifp hsz (hrec _ (by omega)))
      · have m : Int.tmod x 10 = -((x.natAbs % 10 : Nat) : Int) := by
          conv => lhs; rw [e]
          rw [Int.neg_tmod, Int.tmod_eq_emod_of_nonneg (by omega)]
          omega
        have q : Int.tdiv x 10 = -((x.natAbs / 10 : Nat) : Int) := by
          conv => lhs; rw [e]
          rw [Int.neg_tdiv, Int.tdiv_eq_ediv_of_nonneg (by omega)]
          omega
        by_cases hd : Int.tmod x 10 < 0
        · have v : (wrap64 (48 + (wrap64 (-(Int.tmod x 10))))) % 256 = ((48 + x.natAbs % 10 : Nat) : Int) := by
            rw [m, w64 (x := -(-((x.natAbs % 10 : Nat) : Int))) (by omega) (by omega), w64 (by omega) (by omega)]
            omega
          rw [v, q, w64 (x := -((x.natAbs / 10 : Nat) : Int)) (by omega) (by omega)]
          exact ev_ifp hd (ev_ifp hsz (hrec _ (by omega)))
        · have v : (wrap64 (48 + Int.tmod x 10)) % 256 = ((48 + x.natAbs % 10 : Nat) : Int) := by
            have hd2 := hd
            rw [m] at hd2
            rw [m, w64 (by omega) (by omega)]
            omega
          rw [v, q, w64 (x := -((x.natAbs / 10 : Nat) : Int)) (by omega) (by omega)]
          exact ev_ifn hd (ev_ifp hsz (hrec _ (by omega)))
theorem fmt_ev (n : Int) (h0 : -9223372036854775808 ≤ n) (h1 : n ≤ 9223372036854775807) : Ev (fun k => spec_FormatInt.f k n) ⟨(Lib.itoa n).toArray⟩ := by
  unfold spec_FormatInt.f
  by_cases hz : n = 0
  · subst hz
    refine ev_ifp (by first | trivial | rfl) (ev_some ?_)
    unfold Lib.itoa
    rw [if_neg (by omega)]
    have : Lib.decDigits (0 : Int).toNat = [48] := Lib.decDigits_one (i := 0) (by omega)
    rw [this]
  · refine ev_ifn hz ?_
    have := fmt_loop n 19 n [] (by simp only [Nat.reducePow]; omega) h0 h1 (by simp)
    have hu : ¬ n.natAbs = 0 := by omega
    rw [List.append_nil] at this
    unfold digs at this
    rw [if_neg hu] at this
    unfold Lib.itoa
    by_cases h : n < 0
    · rw [if_pos h] at this ⊢
      exact this
    · rw [if_neg h] at this ⊢
      rw [show n.toNat = n.natAbs by omega]
      exact this
theorem impl_fmt_ev (n : Int) (h0 : -9223372036854775808 ≤ n) (h1 : n ≤ 9223372036854775807) : Ev (fun k => impl_FormatInt.f k n) ⟨(Lib.itoa n).toArray⟩ := by
  unfold impl_FormatInt.f
  exact ev_ifp ⟨h0, h1⟩ (Ev.now _)
theorem point_both (a b c : Int) (a0 : -9223372036854775808 ≤ a) (a1 : a ≤ 9223372036854775807) (b0 : -9223372036854775808 ≤ b) (b1 : b ≤ 9223372036854775807) (c0 : -9223372036854775808 ≤ c) (c1 : c ≤ 9223372036854775807) :
    ∃ v, Ev (fun k => spec_PointText.f k a b c) v ∧ Ev (fun k => impl_PointText.f k a b c) v := by
  have sNo : ∀ t : Bool, t = true → Ev (fun k => spec_PointText.j0 k t a b c) (⟨#[]⟩ : ByteArray) := fun t ht => by
    apply ev_succ
    simp only [spec_PointText.j0]
    exact ev_ifp ht (Ev.now _)
  have iNo : ∀ t : Bool, t = true → Ev (fun k => impl_PointText.j0 k t a b c) (⟨#[]⟩ : ByteArray) := fun t ht => by
    apply ev_succ
    simp only [impl_PointText.j0]
    exact ev_ifp ht (Ev.now _)
  by_cases h1 : 1 ≤ b ∧ b ≤ 2
  · by_cases h2 : 0 ≤ c ∧ c ≤ 4
    · have w : wrap64 (c + 1) = c + 1 := w64 (by omega) (by omega)
      have la := itoa_len a a0 a1
      have lb := itoa_len b b0 b1
      have sc : ((⟨#[63, 43, 45, 33, 46]⟩ : ByteArray).extract c.toNat (c + 1).toNat).size ≤ 5 := by
        rw [ByteArray.size_extract]
        have : (⟨#[63, 43, 45, 33, 46]⟩ : ByteArray).size = 5 := rfl
        omega
      have k1 : (⟨(Lib.itoa a).toArray⟩ : ByteArray).size + 1 ≤ 9223372036854775807 := by
        rw [bytes_size]
        omega
      have s1 : ((⟨(Lib.itoa a).toArray⟩ : ByteArray) ++ (⟨#[58]⟩ : ByteArray)).size ≤ 21 := by
        rw [show (⟨#[58]⟩ : ByteArray) = ⟨[58].toArray⟩ from rfl, bytes_app, bytes_size]
        simp
        omega
      have s2 : (((⟨(Lib.itoa a).toArray⟩ : ByteArray) ++ (⟨#[58]⟩ : ByteArray)) ++ (⟨(Lib.itoa b).toArray⟩ : ByteArray)).size ≤ 41 := by
        rw [ByteArray.size_append, bytes_size (Lib.itoa b)]
        omega
      have k2 : ((⟨(Lib.itoa a).toArray⟩ : ByteArray) ++ (⟨#[58]⟩ : ByteArray)).size + (⟨(Lib.itoa b).toArray⟩ : ByteArray).size ≤ 9223372036854775807 := by
        rw [bytes_size (Lib.itoa b)]
        omega
      refine ⟨((((⟨(Lib.itoa a).toArray⟩ : ByteArray) ++ (⟨#[58]⟩ : ByteArray)) ++ (⟨(Lib.itoa b).toArray⟩ : ByteArray)) ++ ((⟨#[63, 43, 45, 33, 46]⟩ : ByteArray).extract c.toNat (c + 1).toNat)), ?_, ?_⟩
      · unfold spec_PointText.f
        simp only [spec_l1In_eq, Option.bind_some, decide_eq_true h1, decide_eq_true h2]
        refine ev_ifp trivial ?_
        apply ev_succ
        simp only [spec_PointText.j0, w]
        exact ev_ifn (by simp) (Ev.bind (fmt_ev a a0 a1) (ev_ifp k1 (Ev.bind (fmt_ev b b0 b1) (ev_ifp k2 (ev_ifp h2.1 (ev_ifp (by omega) (ev_ifp (by omega) (ev_ifp (by omega) (Ev.now _)))))))))
      · unfold impl_PointText.f
        simp only [impl_InRange_eq, Option.bind_some, decide_eq_true h1, decide_eq_true h2]
        refine ev_ifp trivial ?_
        apply ev_succ
        simp only [impl_PointText.j0, w]
        exact ev_ifn (by simp) (Ev.bind (impl_fmt_ev a a0 a1) (ev_ifp k1 (Ev.bind (impl_fmt_ev b b0 b1) (ev_ifp k2 (ev_ifp h2.1 (ev_ifp (by omega) (ev_ifp (by omega) (ev_ifp (by omega) (Ev.now _)))))))))
    · refine ⟨⟨#[]⟩, ?_, ?_⟩
      · unfold spec_PointText.f
        simp only [spec_l1In_eq, Option.bind_some, decide_eq_true h1, decide_eq_false h2]
        exact ev_ifp trivial (sNo _ rfl)
      · unfold impl_PointText.f
        simp only [impl_InRange_eq, Option.bind_some, decide_eq_true h1, decide_eq_false h2]
        exact ev_ifp trivial (iNo _ rfl)
  · refine ⟨⟨#[]⟩, ?_, ?_⟩
    · unfold spec_PointText.f
      simp only [spec_l1In_eq, Option.bind_some, decide_eq_false h1]
      exact ev_ifn (by simp) (sNo _ rfl)
    · unfold impl_PointText.f
      simp only [impl_InRange_eq, Option.bind_some, decide_eq_false h1]
      exact ev_ifn (by simp) (iNo _ rfl)
theorem FnExactPointText : laws_FnExactPointText.Pure := by
  intro a b c ha hb hc
  have ha := wf64 ha
  have hb := wf64 hb
  have hc := wf64 hc
  apply Ev.rounds
  unfold laws_FnExactPointText.f
  obtain ⟨v, hs, hi⟩ := point_both a b c ha.1 ha.2 hb.1 hb.2 hc.1 hc.2
  simp only [laws_toPoint.f, Option.bind_some]
  exact Ev.bind hs (Ev.bind hi (ev_ifp rfl (Ev.now _)))

end Go.Proofs.YtfdalcklgfdadaaDoor.Pure
