/- The program's AmendAll answers what the reference's answers, for all arguments, and its list is its own.
No condition: for every input. -/
import Derived.Test.YtfdalcklgfdadaaQFnExactAmendAllx5
set_option linter.unusedVariables false
set_option linter.unusedSimpArgs false
set_option maxHeartbeats 1000000
namespace Go.Proofs.Ytfdalcklgfdadaa.Pure
open Go.RowKit Go.Proofs.Ytfdalcklgfdadaa.QFnExactAmendAll Go.Proofs.YtfdalcklgfdadaaW.PrintWords Go.Proofs.YtfdalcklgfdadaaW.PrintLast

theorem w64 {x : Int} (h1 : -9223372036854775808 ≤ x) (h2 : x ≤ 9223372036854775807) : wrap64 x = x := by unfold wrap64; omega
theorem wf64 {x : Int} (h : (Lit.int .i64 x).wf = true) : -9223372036854775808 ≤ x ∧ x ≤ 9223372036854775807 := by
  simp only [Lit.wf, Bool.and_eq_true, decide_eq_true_eq] at h
  have e1 : IntKind.min .i64 = -9223372036854775808 := by decide
  have e2 : IntKind.max .i64 = 9223372036854775807 := by decide
  omega
theorem wfu8 {x : Int} (h : (Lit.int .u8 x).wf = true) : 0 ≤ x ∧ x ≤ 255 := by
  simp only [Lit.wf, Bool.and_eq_true, decide_eq_true_eq] at h
  have e1 : IntKind.min .u8 = 0 := by decide
  have e2 : IntKind.max .u8 = 255 := by decide
  omega
theorem ev_succ {α : Type} {g : Nat → Option α} {r : α} (h : Ev (fun k => g (k + 1)) r) : Ev g r := Ev.step (fun _ => rfl) h
theorem ev_some {α : Type} {r s : α} (h : r = s) : Ev (fun _ => some r) s := by subst h; exact Ev.now r
theorem ev_fix {α : Type} {o : Option α} {r : α} (h : o = some r) : Ev (fun _ => o) r := ⟨0, fun _ _ => h⟩
theorem ev_at {α : Type} {g : Nat → Option α} {r : α} (n : Nat) (h : ∀ k, g (k + n) = some r) : Ev g r :=
  ⟨n, fun k hk => by obtain ⟨m, rfl⟩ : ∃ m, k = m + n := ⟨k - n, by omega⟩; exact h m⟩
theorem ev_bindc {α β : Type} {o : Option α} {f : Nat → α → Option β} {a : α} {r : β} (h : o = some a) (k : Ev (fun n => f n a) r) : Ev (fun n => o.bind (f n)) r := by
  subst h; exact k
theorem ev_ifp {α : Type} {c : Prop} [Decidable c] {a b : Nat → Option α} {r : α} (h : c) (k : Ev a r) : Ev (fun n => if c then a n else b n) r := by
  simpa only [if_pos h] using k
theorem ev_ifn {α : Type} {c : Prop} [Decidable c] {a b : Nat → Option α} {r : α} (h : ¬ c) (k : Ev b r) : Ev (fun n => if c then a n else b n) r := by
  simpa only [if_neg h] using k
theorem spec_l1In_eq (a b c : Int) : spec_l1In.f a b c = some (decide (b ≤ a ∧ a ≤ c)) := by
  unfold spec_l1In.f
  by_cases h : a ≥ b
  · have h' : b ≤ a := h
    simp [h']
  · have h' : ¬ b ≤ a := h
    simp [h']
theorem impl_InRange_eq (a b c : Int) : impl_InRange.f a b c = some (decide (b ≤ a ∧ a ≤ c)) := by
  unfold impl_InRange.f
  by_cases h : b ≤ a <;> simp [h]
theorem rd_nat (xs : List Int) (i : Nat) (h : i < xs.length) : rd xs (i : Int) = xs[i] := by
  unfold rd
  simp [List.getD_eq_getElem?_getD, h]
theorem toIntS_loop (xs : List Int) (hx : xs.length ≤ 17592186044416) (d : Nat) : ∀ (i : Nat) (ys : List Int), ys.length = xs.length → i + d = xs.length → ys.take i = xs.take i →
    Ev (fun k => laws_toIntS.l0 k xs ys (i : Int)) xs := by
  induction d with
  | zero =>
    intro i ys hl hd ht
    apply ev_succ
    simp only [laws_toIntS.l0]
    refine ev_ifn (by omega) ?_
    have e : ys = xs := by rw [← List.take_length (l := xs), ← show i = xs.length by omega, ← ht, List.take_of_length_le (by omega)]
    rw [e]
    exact Ev.now _
  | succ d ih =>
    intro i ys hl hd ht
    apply ev_succ
    simp only [laws_toIntS.l0]
    refine ev_ifp (by omega) (ev_ifp (by omega) (ev_ifp (by omega) ?_))
    rw [w64 (by omega) (by omega)]
    have hi : i < xs.length := by omega
    have := ih (i + 1) (ys.set i (rd xs (i : Int))) (by simpa using hl) (by omega) (by
      rw [List.take_succ_eq_append_getElem hi, List.take_succ_eq_append_getElem (by simpa using (by omega : i < ys.length)), List.getElem_set_self, rd_nat xs i hi, List.take_set_of_le (by omega), ht])
    simpa using this
theorem toIntS_ev (xs : List Int) (hx : xs.length ≤ 17592186044416) : Ev (fun k => laws_toIntS.f k xs) xs := by
  unfold laws_toIntS.f
  refine ev_ifp (by omega) (ev_ifp (by omega) ?_)
  exact toIntS_loop xs hx xs.length 0 _ (by simp) (by omega) (by simp)
theorem eqIntS_loop (xs : List Int) (hx : xs.length ≤ 17592186044416) (d : Nat) : ∀ (i : Nat), i + d = xs.length → Ev (fun k => laws_eqIntS.l0 k xs xs (i : Int)) true := by
  induction d with
  | zero =>
    intro i hd
    apply ev_succ
    simp only [laws_eqIntS.l0]
    refine ev_ifn (by omega) ?_
    exact Ev.now _
  | succ d ih =>
    intro i hd
    apply ev_succ
    simp only [laws_eqIntS.l0]
    refine ev_ifp (by omega) (ev_ifp (by omega) (ev_ifp (by omega) ?_))
    rw [w64 (by omega) (by omega)]
    simpa using ih (i + 1) (by omega)
theorem eqIntS_ev (xs : List Int) (hx : xs.length ≤ 17592186044416) : Ev (fun k => laws_eqIntS.f k xs xs) true := by
  unfold laws_eqIntS.f
  refine ev_ifp rfl ?_
  exact eqIntS_loop xs hx xs.length 0 (by omega)
theorem markInt_loop (n : Nat) (hn : n ≤ 1100000) (a : Int) (h0 : 0 ≤ a) (h1 : a ≤ 1000000000000) (d : Nat) : ∀ (i : Nat) (xs : List Int), xs.length = n → i + d = n → ∃ ys : List Int, Ev (fun k => laws_markIntS.l0 k xs (a + (i : Int)) (i : Int)) (a + (n : Int), ys) ∧ ys.length = n ∧ (∀ j : Nat, i ≤ j → j < n → ys[j]? = some (a + (j : Int))) ∧ (∀ j : Nat, j < i → ys[j]? = xs[j]?) := by
  induction d with
  | zero =>
    intro i xs hl hd
    refine ⟨xs, ?_, hl, fun j h1 h2 => by omega, fun j _ => rfl⟩
    apply ev_succ
    simp only [laws_markIntS.l0]
    refine ev_ifn (by omega) (ev_some ?_)
    rw [show (i : Int) = n by omega]
  | succ d ih =>
    intro i xs hl hd
    obtain ⟨ys, he, hy, h2, h3⟩ := ih (i + 1) (xs.set i (a + (i : Int))) (by simpa using hl) (by omega)
    refine ⟨ys, ?_, hy, fun j hj hn' => ?_, fun j hj => ?_⟩
    · apply ev_succ
      have w0 : wrap64 (a + (i : Int) + 1) = a + ((i + 1 : Nat) : Int) := by rw [w64 (by omega) (by omega)]; omega
      have w' : wrap64 ((i : Int) + 1) = ((i + 1 : Nat) : Int) := by rw [w64 (by omega) (by omega)]; simp
      simp only [laws_markIntS.l0, Int.toNat_natCast, w0, w']
      exact ev_ifp (by omega) (ev_ifp (by omega) he)
    · by_cases hji : j = i
      · subst hji
        rw [h3 j (by omega)]
        simp [show j < xs.length by omega]
      · exact h2 j (by omega) hn'
    · rw [h3 j (by omega), List.getElem?_set_ne (by omega)]
theorem markInt_at (xs : List Int) (hx : xs.length ≤ 1100000) (a : Int) (h0 : 0 ≤ a) (h1 : a ≤ 1000000000000) : ∃ ys, Ev (fun k => laws_markIntS.f k xs a) (a + (xs.length : Int), ys) ∧ ys.length = xs.length ∧ ∀ j : Nat, j < xs.length → ys[j]? = some (a + (j : Int)) := by
  obtain ⟨ys, he, hy, h2, h3⟩ := markInt_loop xs.length hx a h0 h1 xs.length 0 xs rfl (by omega)
  refine ⟨ys, ?_, hy, fun j hj => h2 j (by omega) hj⟩
  unfold laws_markIntS.f
  simpa using he
theorem heldInt_loop (ys : List Int) (n : Nat) (hn : n ≤ 1100000) (a : Int) (h0 : 0 ≤ a) (h1 : a ≤ 1000000000000) (hl : ys.length = n) (h : ∀ j : Nat, j < n → ys[j]? = some (a + (j : Int))) (d : Nat) : ∀ i : Nat, i + d = n → Ev (fun k => laws_heldIntS.l0 k ys (a + (i : Int)) (i : Int)) (a + (n : Int)) := by
  induction d with
  | zero =>
    intro i hd
    apply ev_succ
    simp only [laws_heldIntS.l0]
    refine ev_ifn (by omega) (ev_some ?_)
    rw [show (i : Int) = n by omega]
  | succ d ih =>
    intro i hd
    apply ev_succ
    have hr : rd ys (i : Int) = a + (i : Int) := by
      have := h i (by omega)
      simp [rd, List.getD_eq_getElem?_getD, this]
    have w0 : wrap64 (a + (i : Int) + 1) = a + ((i + 1 : Nat) : Int) := by rw [w64 (by omega) (by omega)]; omega
    have w' : wrap64 ((i : Int) + 1) = ((i + 1 : Nat) : Int) := by rw [w64 (by omega) (by omega)]; simp
    simp only [laws_heldIntS.l0, w0, w']
    exact ev_ifp (by omega) (ev_ifp (by omega) (ev_ifp hr (ih (i + 1) (by omega))))
theorem markInt_ev (xs : List Int) (hx : xs.length ≤ 1100000) : ∃ m ys, Ev (fun k => laws_markIntS.f k xs 1) (m, ys) ∧ 0 ≤ m ∧ Ev (fun k => laws_heldIntS.f k ys 1) m := by
  obtain ⟨ys, he, hy, h2⟩ := markInt_at xs hx 1 (by omega) (by omega)
  refine ⟨1 + (xs.length : Int), ys, he, by omega, ?_⟩
  unfold laws_heldIntS.f
  simpa using heldInt_loop ys xs.length hx 1 (by omega) (by omega) hy h2 xs.length 0 (by omega)
theorem szAmend_eq (a b : Int) (l : List Int) (c : Int) (hm : l.length ≤ maxLen) (h0 : 0 ≤ c) (h1 : c ≤ 1048576) : laws_szAmend.f a b l c = some (if (l.length : Int) ≤ c then c - (l.length : Int) else (-1 : Int)) := by
  unfold maxLen at hm
  unfold laws_szAmend.f laws_szIntS.f
  rw [w64 (by omega) (by omega)]
  by_cases h : (l.length : Int) ≤ c
  · rw [if_neg (by omega), if_pos h]
    simp only [Option.bind_some]
    rw [if_neg (by omega)]
  · rw [if_pos (by omega), if_neg h]
    simp
theorem toAmend_ev (a b : Int) (l : List Int) (h : l.length ≤ 1048576) : Ev (fun k => laws_toAmend.f k a b l) (a, b, l) := by
  unfold laws_toAmend.f
  exact Ev.bind (toIntS_ev l (by omega)) (Ev.now _)
theorem eqAmend_ev (a b : Int) (l : List Int) (h : l.length ≤ 1048576) : Ev (fun k => laws_eqAmend.f k a b l a b l) true := by
  unfold laws_eqAmend.f
  exact ev_ifp rfl (ev_ifp rfl (Ev.bind (eqIntS_ev l (by omega)) (ev_ifp rfl (Ev.now _))))
theorem Clone_eq (l : List Int) (hl : l.length ≤ 1100000) : slices_Clone_int_int.f l = some l := by
  unfold slices_Clone_int_int.f
  simp only [Option.bind_some, List.nil_append, List.length_nil]
  rw [if_pos (by omega)]
def mayG (l : List Int) (a b : Int) (m : List Int) : Bool := decide (0 ≤ a ∧ a ≤ (l.length : Int)) && (decide (0 ≤ b ∧ b ≤ (l.length : Int) - a) && decide ((l.length : Int) - b + (m.length : Int) ≤ 60))
def amendG (l : List Int) (a b : Int) (m : List Int) : List Int × Bool := if mayG l a b m = true then (l.take a.toNat ++ m ++ l.drop (a + b).toNat, true) else (l, false)
theorem mayG_iff (l : List Int) (a b : Int) (m : List Int) : mayG l a b m = true ↔ (0 ≤ a ∧ a ≤ (l.length : Int)) ∧ (0 ≤ b ∧ b ≤ (l.length : Int) - a) ∧ (l.length : Int) - b + (m.length : Int) ≤ 60 := by
  simp [mayG]
theorem amendG_len (l : List Int) (a b : Int) (m : List Int) : (amendG l a b m).1.length ≤ l.length + 60 := by
  unfold amendG
  by_cases h : mayG l a b m = true
  · rw [if_pos h]
    rw [mayG_iff] at h
    simp only [List.length_append, List.length_take, List.length_drop]
    omega
  · rw [if_neg h]
    show l.length ≤ l.length + 60
    omega
theorem amendG_short (l : List Int) (a b : Int) (m : List Int) (h : l.length ≤ 1048576) : (amendG l a b m).1.length ≤ 1048576 := by
  unfold amendG
  by_cases h2 : mayG l a b m = true
  · rw [if_pos h2]
    rw [mayG_iff] at h2
    simp only [List.length_append, List.length_take, List.length_drop]
    omega
  · rw [if_neg h2]
    exact h
theorem spec_May (l : List Int) (a b : Int) (m : List Int) (hl : l.length ≤ 1100000) (hm : m.length ≤ 1100000) : spec_MayAmend.f l a b m = some (mayG l a b m) := by
  simp only [spec_MayAmend.f, spec_l1In_eq, Option.bind_some]
  by_cases h1 : 0 ≤ a ∧ a ≤ (l.length : Int)
  · rw [w64 (x := (l.length : Int) - a) (by omega) (by omega), decide_eq_true h1, if_pos rfl]
    by_cases h2 : 0 ≤ b ∧ b ≤ (l.length : Int) - a
    · rw [decide_eq_true h2, if_pos rfl, w64 (x := (l.length : Int) - b) (by omega) (by omega), w64 (by omega) (by omega)]
      simp [mayG, h1, h2]
    · rw [decide_eq_false h2, if_neg (by simp)]
      simp [mayG, h2]
  · rw [decide_eq_false h1, if_neg (by simp)]
    simp [mayG, h1]
theorem spec_Amended_eq (l : List Int) (a b : Int) (m : List Int) (hl : l.length ≤ 1100000) (hm : m.length ≤ 1100000) : spec_Amended.f l a b m = some (amendG l a b m) := by
  unfold spec_Amended.f amendG
  rw [spec_May l a b m hl hm]
  simp only [Option.bind_some]
  by_cases h : mayG l a b m = true
  · rw [if_pos h, if_pos h]
    have h' := (mayG_iff l a b m).mp h
    have w2 : wrap64 (a + b) = a + b := w64 (by omega) (by omega)
    simp only [Option.bind_some, w2, List.nil_append, List.length_nil, List.length_append, List.length_take, List.length_drop]
    rw [if_pos (by omega), if_pos (by omega), if_pos (by omega), if_pos (by omega), if_pos (by omega), if_pos (by omega), if_pos (by omega)]
  · rw [if_neg h, if_neg h]
    simp only [Option.bind_some, List.nil_append, List.length_nil]
    rw [if_pos (by omega)]
theorem impl_May (l : List Int) (a b : Int) (m : List Int) (hl : l.length ≤ 1100000) (hm : m.length ≤ 1100000) : impl_MayAmend.f l a b m = some (mayG l a b m) := by
  simp only [impl_MayAmend.f, impl_InRange_eq, Option.bind_some]
  by_cases h1 : 0 ≤ a ∧ a ≤ (l.length : Int)
  · rw [w64 (x := (l.length : Int) - a) (by omega) (by omega), decide_eq_true h1, if_pos rfl]
    by_cases h2 : 0 ≤ b ∧ b ≤ (l.length : Int) - a
    · rw [decide_eq_true h2, if_pos rfl, w64 (x := (l.length : Int) - b) (by omega) (by omega), w64 (by omega) (by omega)]
      simp [mayG, h1, h2]
    · rw [decide_eq_false h2, if_neg (by simp)]
      simp [mayG, h2]
  · rw [decide_eq_false h1, if_neg (by simp)]
    simp [mayG, h1]
theorem concat3_ev (x y z : List Int) (h : x.length + y.length + z.length ≤ 5000000) : Ev (fun k => slices_Concat_int_int.f k [x, y, z]) (x ++ y ++ z) := by
  unfold slices_Concat_int_int.f
  have w0 : wrap64 (0 + 1) = 1 := w64 (by omega) (by omega)
  have w1 : wrap64 (1 + 1) = 2 := w64 (by omega) (by omega)
  have w2 : wrap64 (2 + 1) = 3 := w64 (by omega) (by omega)
  have r0 : rd_L1 [x, y, z] 0 = x := rfl
  have r1 : rd_L1 [x, y, z] 1 = y := rfl
  have r2 : rd_L1 [x, y, z] 2 = z := rfl
  have l0 : (([x, y, z] : List (List Int)).length : Int) = 3 := rfl
  rw [l0]
  apply ev_succ
  simp only [slices_Concat_int_int.l0, w0, r0, l0, List.nil_append]
  refine ev_ifp (by omega) (ev_ifp (by omega) (ev_ifp (by omega) (ev_ifp (by simp; omega) ?_)))
  apply ev_succ
  simp only [slices_Concat_int_int.l0, w1, r1, l0]
  refine ev_ifp (by omega) (ev_ifp (by omega) (ev_ifp (by omega) (ev_ifp (by omega) ?_)))
  apply ev_succ
  simp only [slices_Concat_int_int.l0, w2, r2, l0]
  refine ev_ifp (by omega) (ev_ifp (by omega) (ev_ifp (by omega) (ev_ifp (by rw [List.length_append]; omega) ?_)))
  apply ev_succ
  simp only [slices_Concat_int_int.l0]
  exact ev_ifn (by omega) (Ev.now _)
theorem impl_Amended_ev (l : List Int) (a b : Int) (m : List Int) (hl : l.length ≤ 1100000) (hm : m.length ≤ 1100000) : Ev (fun k => impl_Amended.f k l a b m) (amendG l a b m) := by
  unfold impl_Amended.f amendG
  rw [impl_May l a b m hl hm]
  simp only [Option.bind_some]
  by_cases h : mayG l a b m = true
  · have h' := (mayG_iff l a b m).mp h
    have w2 : wrap64 (a + b) = a + b := w64 (by omega) (by omega)
    rw [w2, if_pos h]
    refine ev_ifp h (ev_ifp (by omega) (ev_ifp (by omega) (ev_ifp (by omega) (ev_ifp (by omega) (Ev.bind (concat3_ev _ _ _ ?_) (Ev.now _))))))
    simp only [List.length_take, List.length_drop]
    omega
  · rw [if_neg h, Clone_eq l (by omega)]
    exact ev_ifn h (Ev.now _)
def laws_FnExactAmendAll.Pure : Prop := ∀ (l0 : List (Int)) (l1 : List (S24)), (l0.length ≤ maxLen ∧ ∀ y22 ∈ l0, (Lit.int .i64 y22).wf = true) → (l1.length ≤ maxLen ∧ ∀ y41 ∈ l1, ((Lit.int .i64 y41.f0).wf = true) ∧ ((Lit.int .i64 y41.f1).wf = true) ∧ (y41.f2.length ≤ maxLen ∧ ∀ y22 ∈ y41.f2, (Lit.int .i64 y22).wf = true)) → ∃ k, laws_FnExactAmendAll.f k l0 l1 = some true

def upA (x : S24) : S28 := ⟨x.f0, x.f1, x.f2⟩
theorem rd24 (xs : List S24) (i : Nat) (h : i < xs.length) : rd_T24 xs (i : Int) = xs[i] := by simp [rd_T24, List.getD_eq_getElem?_getD, h]
theorem rd28 (xs : List S28) (i : Nat) (h : i < xs.length) : rd_T28 xs (i : Int) = xs[i] := by simp [rd_T28, List.getD_eq_getElem?_getD, h]
def totA (xs : List S28) : Nat := (xs.map fun x => x.f2.length).sum
theorem totA_drop (xs : List S28) (i : Nat) (h : i < xs.length) : totA (xs.drop i) = (xs[i]).f2.length + totA (xs.drop (i + 1)) := by
  unfold totA
  rw [List.drop_eq_getElem_cons h, List.map_cons, List.sum_cons]
theorem totA_mem {xs : List S28} {x : S28} (h : x ∈ xs) : x.f2.length ≤ totA xs := by
  induction xs with
  | nil => cases h
  | cons y ys ih =>
    unfold totA at *
    rw [List.map_cons, List.sum_cons]
    rcases List.mem_cons.mp h with rfl | h
    · omega
    · have := ih h; omega
theorem szA_loop (xs : List S24) (hl : xs.length ≤ 1048576) (hm : ∀ x, x ∈ xs → x.f2.length ≤ maxLen) (d : Nat) : ∀ (i : Nat) (c : Int), 0 ≤ c → c ≤ 1048576 → i + d = xs.length →
    ∃ v, Ev (fun k => laws_szAmendS.l0 k xs c (i : Int)) v ∧ (v < 0 ∨ (0 ≤ v ∧ v + (totA ((xs.map upA).drop i) : Int) = c)) := by
  induction d with
  | zero =>
    intro i c h0 h1 hd
    refine ⟨c, ?_, .inr ⟨h0, ?_⟩⟩
    · apply ev_succ
      simp only [laws_szAmendS.l0]
      exact ev_ifn (by omega) (Ev.now _)
    · rw [List.drop_eq_nil_of_le (by simp; omega)]
      simp [totA]
  | succ d ih =>
    intro i c h0 h1 hd
    have hi : i < xs.length := by omega
    have e1 : wrap64 ((i : Int) + 1) = ((i + 1 : Nat) : Int) := by rw [w64 (by omega) (by omega)]; simp
    have hs := szAmend_eq (xs[i]).f0 (xs[i]).f1 (xs[i]).f2 c (hm _ (List.getElem_mem hi)) h0 h1
    rw [totA_drop (xs.map upA) i (by simpa using hi), List.getElem_map]
    by_cases h : ((xs[i]).f2.length : Int) ≤ c
    · rw [if_pos h] at hs
      obtain ⟨v, hv, hv2⟩ := ih (i + 1) (c - ((xs[i]).f2.length : Int)) (by omega) (by omega) (by omega)
      refine ⟨v, ev_succ ?_, ?_⟩
      · simp only [laws_szAmendS.l0, e1]
        rw [rd24 xs i hi, hs]
        exact ev_ifp (by omega) (ev_ifp (by omega) (ev_bindc rfl (ev_ifn (by omega) hv)))
      · rcases hv2 with hv2 | hv2
        · exact .inl hv2
        · exact .inr ⟨hv2.1, by show v + (((xs[i]).f2.length + _ : Nat) : Int) = c; omega⟩
    · rw [if_neg h] at hs
      refine ⟨-1, ev_succ ?_, .inl (by omega)⟩
      simp only [laws_szAmendS.l0, e1]
      rw [rd24 xs i hi, hs]
      exact ev_ifp (by omega) (ev_ifp (by omega) (ev_bindc rfl (ev_ifp (by omega) (Ev.now _))))
def OkA (xs : List S28) : Prop := xs.length ≤ 1048576 ∧ totA xs ≤ 1048576
theorem szA_ev (xs : List S24) (hg : xs.length ≤ maxLen) (hm : ∀ x, x ∈ xs → x.f2.length ≤ maxLen) : ∃ v, Ev (fun k => laws_szAmendS.f k xs 1048576) v ∧ (v < 0 ∨ (0 ≤ v ∧ OkA (xs.map upA))) := by
  unfold maxLen at hg
  unfold laws_szAmendS.f
  rw [w64 (by omega) (by omega)]
  by_cases h : 1048576 - (xs.length : Int) < 0
  · exact ⟨-1, ev_ifp h (Ev.now _), .inl (by omega)⟩
  · obtain ⟨v, hv, hv2⟩ := szA_loop xs (by omega) hm xs.length 0 (1048576 - (xs.length : Int)) (by omega) (by omega) (by omega)
    rw [List.drop_zero] at hv2
    refine ⟨v, ev_ifn h hv, ?_⟩
    rcases hv2 with hv2 | hv2
    · exact .inl hv2
    · exact .inr ⟨hv2.1, by rw [List.length_map]; omega, by omega⟩
theorem toA_loop (xs : List S24) (ho : OkA (xs.map upA)) (d : Nat) : ∀ (i : Nat) (ys : List S28), ys.length = xs.length → i + d = xs.length → ys.take i = (xs.map upA).take i → Ev (fun k => laws_toAmendS.l0 k xs ys (i : Int)) (xs.map upA) := by
  have hx := ho.1
  rw [List.length_map] at hx
  induction d with
  | zero =>
    intro i ys hl hd ht
    apply ev_succ
    simp only [laws_toAmendS.l0]
    refine ev_ifn (by omega) ?_
    have e : ys = xs.map upA := by
      have h1 : ys.take i = ys := List.take_of_length_le (by omega)
      have h2 : (xs.map upA).take i = xs.map upA := List.take_of_length_le (by simp; omega)
      rw [← h1, ht, h2]
    rw [e]
    exact Ev.now _
  | succ d ih =>
    intro i ys hl hd ht
    have hi : i < xs.length := by omega
    have hb : (xs[i]).f2.length ≤ totA (xs.map upA) := totA_mem (x := upA xs[i]) (List.mem_map.mpr ⟨_, List.getElem_mem hi, rfl⟩)
    have hb2 := ho.2
    have e1 : wrap64 ((i : Int) + 1) = ((i + 1 : Nat) : Int) := by rw [w64 (by omega) (by omega)]; simp
    have := ih (i + 1) (ys.set i (upA xs[i])) (by simpa using hl) (by omega) (by
      rw [List.take_succ_eq_append_getElem (by simpa using (by omega : i < ys.length)), List.take_succ_eq_append_getElem (by simpa using hi), List.getElem_set_self, List.take_set_of_le (by omega), ht, List.getElem_map])
    apply ev_succ
    simp only [laws_toAmendS.l0, e1]
    rw [rd24 xs i hi]
    exact ev_ifp (by omega) (ev_ifp (by omega) (Ev.bind (toAmend_ev (xs[i]).f0 (xs[i]).f1 (xs[i]).f2 (by omega)) (ev_ifp (by omega) (by simpa [upA] using this))))
theorem toA_ev (xs : List S24) (ho : OkA (xs.map upA)) : Ev (fun k => laws_toAmendS.f k xs) (xs.map upA) := by
  have hx := ho.1
  rw [List.length_map] at hx
  unfold laws_toAmendS.f
  refine ev_ifp (by omega) (ev_ifp (by omega) ?_)
  exact toA_loop xs ho xs.length 0 _ (by simp) (by omega) (by simp)
theorem eqA_loop (xs : List S28) (ho : OkA xs) (d : Nat) : ∀ i : Nat, i + d = xs.length → Ev (fun k => laws_eqAmendS.l0 k xs xs (i : Int)) true := by
  have hx := ho.1
  induction d with
  | zero =>
    intro i hd
    apply ev_succ
    simp only [laws_eqAmendS.l0]
    exact ev_ifn (by omega) (Ev.now _)
  | succ d ih =>
    intro i hd
    have hi : i < xs.length := by omega
    have hb := totA_mem (List.getElem_mem hi)
    have hb2 := ho.2
    have e1 : wrap64 ((i : Int) + 1) = ((i + 1 : Nat) : Int) := by rw [w64 (by omega) (by omega)]; simp
    apply ev_succ
    simp only [laws_eqAmendS.l0, e1]
    rw [rd28 xs i hi]
    exact ev_ifp (by omega) (ev_ifp (by omega) (ev_ifp (by omega) (Ev.bind (eqAmend_ev _ _ _ (by omega)) (ev_ifp rfl (ih (i + 1) (by omega))))))
theorem eqA_ev (xs : List S28) (ho : OkA xs) : Ev (fun k => laws_eqAmendS.f k xs xs) true := by
  unfold laws_eqAmendS.f
  exact ev_ifp rfl (eqA_loop xs ho xs.length 0 (by omega))
theorem markA_loop (n : Nat) (hn : n ≤ 1048576) (d : Nat) : ∀ (i : Nat) (xs : List S28) (a : Int), xs.length = n → i + d = n → 0 ≤ a → totA (xs.drop i) ≤ 1048576 → a + 2 * (d : Int) + (totA (xs.drop i) : Int) ≤ 100000000 →
    ∃ m ys, Ev (fun k => laws_markAmendS.l0 k xs a (i : Int)) (m, ys) ∧ 0 ≤ m := by
  induction d with
  | zero =>
    intro i xs a hl hd h0 _ _
    refine ⟨a, xs, ev_succ ?_, h0⟩
    simp only [laws_markAmendS.l0]
    exact ev_ifn (by omega) (Ev.now _)
  | succ d ih =>
    intro i xs a hl hd h0 ht hs
    have hi : i < xs.length := by omega
    have e1 : wrap64 ((i : Int) + 1) = ((i + 1 : Nat) : Int) := by rw [w64 (by omega) (by omega)]; simp
    have e2 : wrap64 (a + 1) = a + 1 := w64 (by omega) (by omega)
    have e3 : wrap64 (a + 1 + 1) = a + 1 + 1 := w64 (by omega) (by omega)
    rw [totA_drop xs i hi] at ht hs
    obtain ⟨y, hy, hyl, _⟩ := markInt_at (xs[i]).f2 (by omega) (a + 1 + 1) (by omega) (by omega)
    have hdr : (xs.set i ⟨a, a + 1, y⟩).drop (i + 1) = xs.drop (i + 1) := by rw [List.drop_set_of_lt (by omega)]
    obtain ⟨m, ys, h1, h2⟩ := ih (i + 1) (xs.set i ⟨a, a + 1, y⟩) (a + 1 + 1 + ((xs[i]).f2.length : Int)) (by simpa using hl) (by omega) (by omega) (by rw [hdr]; omega) (by rw [hdr]; omega)
    refine ⟨m, ys, ev_succ ?_, h2⟩
    simp only [laws_markAmendS.l0, e1, e2, e3]
    rw [rd28 xs i hi]
    exact ev_ifp (by omega) (ev_ifp (by omega) (Ev.bind hy (by simpa using h1)))
theorem both_loop (l : List S28) (ho : OkA l) (d : Nat) : ∀ (i : Nat) (out : List Int) (n : Int), i + d = l.length → out.length ≤ 1048576 → 0 ≤ n → n ≤ (i : Int) →
    ∃ r m, Ev (fun k => spec_AmendAll.l0 k l out n (i : Int)) (r, m) ∧ Ev (fun k => impl_AmendAll.l0 k out n l (l.length : Int) (i : Int)) (r, m) ∧ r.length ≤ 1048576 := by
  have hx := ho.1
  induction d with
  | zero =>
    intro i out n hd hl h0 h1
    refine ⟨out, n, ev_succ ?_, ev_succ ?_, hl⟩
    · simp only [spec_AmendAll.l0]
      exact ev_ifn (by omega) (Ev.now _)
    · simp only [impl_AmendAll.l0]
      exact ev_ifn (by omega) (Ev.now _)
  | succ d ih =>
    intro i out n hd hl h0 h1
    have hi : i < l.length := by omega
    have hb := totA_mem (List.getElem_mem hi)
    have hb2 := ho.2
    have e1 : wrap64 ((i : Int) + 1) = ((i + 1 : Nat) : Int) := by rw [w64 (by omega) (by omega)]; simp
    have e2 : wrap64 (n + 1) = n + 1 := w64 (by omega) (by omega)
    have hS := spec_Amended_eq out (l[i]).f0 (l[i]).f1 (l[i]).f2 (by omega) (by omega)
    have hI := impl_Amended_ev out (l[i]).f0 (l[i]).f1 (l[i]).f2 (by omega) (by omega)
    have hs := amendG_short out (l[i]).f0 (l[i]).f1 (l[i]).f2 hl
    generalize amendG out (l[i]).f0 (l[i]).f1 (l[i]).f2 = g at hS hI hs
    obtain ⟨x, ok⟩ := g
    cases ok with
    | true =>
      obtain ⟨r, m, a, b, c⟩ := ih (i + 1) x (n + 1) (by omega) hs (by omega) (by omega)
      refine ⟨r, m, ev_succ ?_, ev_succ ?_, c⟩
      · simp only [spec_AmendAll.l0, e1, e2]
        rw [rd28 l i hi]
        exact ev_ifp (by omega) (ev_ifp (by omega) (ev_bindc hS (ev_ifp rfl a)))
      · simp only [impl_AmendAll.l0, e1, e2]
        rw [rd28 l i hi]
        exact ev_ifp (by omega) (ev_ifp (by omega) (ev_ifp (by omega) (Ev.bind hI (ev_ifp rfl b))))
    | false =>
      obtain ⟨r, m, a, b, c⟩ := ih (i + 1) x n (by omega) hs (by omega) (by omega)
      refine ⟨r, m, ev_succ ?_, ev_succ ?_, c⟩
      · simp only [spec_AmendAll.l0, e1, e2]
        rw [rd28 l i hi]
        exact ev_ifp (by omega) (ev_ifp (by omega) (ev_bindc hS (ev_ifn (by simp) a)))
      · simp only [impl_AmendAll.l0, e1, e2]
        rw [rd28 l i hi]
        exact ev_ifp (by omega) (ev_ifp (by omega) (ev_ifp (by omega) (Ev.bind hI (ev_ifn (by simp) b))))
theorem both_ev (t : List Int) (l : List S28) (ht : t.length ≤ 1048576) (ho : OkA l) : ∃ r m, Ev (fun k => spec_AmendAll.f k t l) (r, m) ∧ Ev (fun k => impl_AmendAll.f k t l) (r, m) ∧ r.length ≤ 1048576 := by
  obtain ⟨r, m, a, b, c⟩ := both_loop l ho l.length 0 t 0 (by omega) ht (by omega) (by omega)
  refine ⟨r, m, ?_, ?_, c⟩
  · unfold spec_AmendAll.f
    simp only [Option.bind_some, List.nil_append, List.length_nil]
    exact ev_ifp (by omega) a
  · unfold impl_AmendAll.f
    rw [Clone_eq t (by omega)]
    exact b
theorem FnExactAmendAll : laws_FnExactAmendAll.Pure := by
  intro l rs hl hrs
  apply Ev.rounds
  unfold laws_FnExactAmendAll.f
  by_cases h : (l.length : Int) > 1048576
  · exact ev_ifp h (Ev.now _)
  refine ev_ifn h ?_
  obtain ⟨v, hv, hv2⟩ := szA_ev rs hrs.1 (fun x hx => (hrs.2 x hx).2.2.1)
  refine Ev.bind hv ?_
  by_cases h' : v < 0
  · exact ev_ifp h' (Ev.now _)
  refine ev_ifn h' ?_
  obtain ⟨_, ho⟩ := hv2.resolve_left h'
  have ts := toA_ev rs ho
  generalize rs.map upA = ss at ho ts
  have h1 := ho.1
  have h2 := ho.2
  obtain ⟨res, m, hs, hi, hlen⟩ := both_ev l ss (by omega) ho
  have tl := toIntS_ev l (by omega)
  have el := eqIntS_ev l (by omega)
  have es := eqA_ev ss ho
  have er := eqIntS_ev res (by omega)
  obtain ⟨ys, hm1, _, _⟩ := markInt_at l (by omega) 1 (by omega) (by omega)
  obtain ⟨mm, zs, hm2, hm0⟩ := markA_loop ss.length (by omega) ss.length 0 ss (1 + (l.length : Int)) rfl (by omega) (by omega) (by rw [List.drop_zero]; omega) (by rw [List.drop_zero]; omega)
  have hm2' : Ev (fun k => laws_markAmendS.f k ss (1 + (l.length : Int))) (mm, zs) := hm2
  obtain ⟨q, us, hu, hu0, hh⟩ := markInt_ev res (by omega)
  refine Ev.bind tl (Ev.bind ts (Ev.bind hs (Ev.bind tl (Ev.bind ts (Ev.bind hi (Ev.bind er (ev_ifp rfl (ev_ifp rfl ?_))))))))
  refine Ev.bind tl (Ev.bind el (ev_ifp rfl (Ev.bind ts (Ev.bind es (ev_ifp rfl (Ev.bind hm1 (Ev.bind hm2' (Ev.bind er (ev_ifn ?_ (ev_ifp rfl (ev_ifp rfl ?_)))))))))))
  · show ¬ mm < 0
    omega
  exact Ev.bind hu (Ev.bind hh (ev_ifn (by omega) (ev_ifp rfl (Ev.bind tl (Ev.bind ts (Ev.bind hi (Ev.bind er (ev_ifp rfl (ev_ifp rfl (Ev.bind hh (ev_ifn (by omega) (ev_ifp rfl (Ev.now _)))))))))))))

end Go.Proofs.Ytfdalcklgfdadaa.Pure
