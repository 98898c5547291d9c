/- The program's RestOf answers what the reference's answers, for all arguments, and its list is its own.
No condition: for every input. -/
import Derived.Test.YtfcidjlnokhkjaaQFnExactRestOfx4
set_option linter.unusedVariables false
set_option linter.unusedSimpArgs false
set_option maxHeartbeats 1000000
namespace Go.Proofs.Ytfcidjlnokhkjaa.Pure
open Go.RowKit Go.Proofs.Ytfcidjlnokhkjaa.QFnExactRestOf Go.Proofs.YtfcidjlnokhkjaaW.PrintWords Go.Proofs.YtfcidjlnokhkjaaW.PrintLast

theorem w64 {x : Int} (h1 : -9223372036854775808 ≤ x) (h2 : x ≤ 9223372036854775807) : wrap64 x = x := by unfold wrap64; omega
theorem wf64 {x : Int} (h : (Lit.int .i64 x).wf = true) : -9223372036854775808 ≤ x ∧ x ≤ 9223372036854775807 := by
  simp only [Lit.wf, Bool.and_eq_true, decide_eq_true_eq] at h
  have e1 : IntKind.min .i64 = -9223372036854775808 := by decide
  have e2 : IntKind.max .i64 = 9223372036854775807 := by decide
  omega
theorem wfu8 {x : Int} (h : (Lit.int .u8 x).wf = true) : 0 ≤ x ∧ x ≤ 255 := by
  simp only [Lit.wf, Bool.and_eq_true, decide_eq_true_eq] at h
  have e1 : IntKind.min .u8 = 0 := by decide
  have e2 : IntKind.max .u8 = 255 := by decide
  omega
theorem ev_succ {α : Type} {g : Nat → Option α} {r : α} (h : Ev (fun k => g (k + 1)) r) : Ev g r := Ev.step (fun _ => rfl) h
theorem ev_some {α : Type} {r s : α} (h : r = s) : Ev (fun _ => some r) s := by subst h; exact Ev.now r
theorem ev_fix {α : Type} {o : Option α} {r : α} (h : o = some r) : Ev (fun _ => o) r := ⟨0, fun _ _ => h⟩
theorem ev_at {α : Type} {g : Nat → Option α} {r : α} (n : Nat) (h : ∀ k, g (k + n) = some r) : Ev g r :=
  ⟨n, fun k hk => by obtain ⟨m, rfl⟩ : ∃ m, k = m + n := ⟨k - n, by omega⟩; exact h m⟩
theorem ev_bindc {α β : Type} {o : Option α} {f : Nat → α → Option β} {a : α} {r : β} (h : o = some a) (k : Ev (fun n => f n a) r) : Ev (fun n => o.bind (f n)) r := by
  subst h; exact k
theorem ev_ifp {α : Type} {c : Prop} [Decidable c] {a b : Nat → Option α} {r : α} (h : c) (k : Ev a r) : Ev (fun n => if c then a n else b n) r := by
  simpa only [if_pos h] using k
theorem ev_ifn {α : Type} {c : Prop} [Decidable c] {a b : Nat → Option α} {r : α} (h : ¬ c) (k : Ev b r) : Ev (fun n => if c then a n else b n) r := by
  simpa only [if_neg h] using k
theorem drop_rd (xs : List Int) (i : Nat) (h : i < xs.length) : xs.drop i = rd xs (i : Int) :: xs.drop (i + 1) := by
  rw [List.drop_eq_getElem_cons h]
  simp [rd, List.getD_eq_getElem?_getD, h]
theorem spec_l1In_eq (a b c : Int) : spec_l1In.f a b c = some (decide (b ≤ a ∧ a ≤ c)) := by
  unfold spec_l1In.f
  by_cases h : a ≥ b
  · have h' : b ≤ a := h
    simp [h']
  · have h' : ¬ b ≤ a := h
    simp [h']
theorem impl_InRange_eq (a b c : Int) : impl_InRange.f a b c = some (decide (b ≤ a ∧ a ≤ c)) := by
  unfold impl_InRange.f
  by_cases h : b ≤ a <;> simp [h]
theorem rd_nat (xs : List Int) (i : Nat) (h : i < xs.length) : rd xs (i : Int) = xs[i] := by
  unfold rd
  simp [List.getD_eq_getElem?_getD, h]
theorem toIntS_loop (xs : List Int) (hx : xs.length ≤ 17592186044416) (d : Nat) : ∀ (i : Nat) (ys : List Int), ys.length = xs.length → i + d = xs.length → ys.take i = xs.take i →
    Ev (fun k => laws_toIntS.l0 k xs ys (i : Int)) xs := by
  induction d with
  | zero =>
    intro i ys hl hd ht
    apply ev_succ
    simp only [laws_toIntS.l0]
    refine ev_ifn (by omega) ?_
    have e : ys = xs := by rw [← List.take_length (l := xs), ← show i = xs.length by omega, ← ht, List.take_of_length_le (by omega)]
    rw [e]
    exact Ev.now _
  | succ d ih =>
    intro i ys hl hd ht
    apply ev_succ
    simp only [laws_toIntS.l0]
    refine ev_ifp (by omega) (ev_ifp (by omega) (ev_ifp (by omega) ?_))
    rw [w64 (by omega) (by omega)]
    have hi : i < xs.length := by omega
    have := ih (i + 1) (ys.set i (rd xs (i : Int))) (by simpa using hl) (by omega) (by
      rw [List.take_succ_eq_append_getElem hi, List.take_succ_eq_append_getElem (by simpa using (by omega : i < ys.length)), List.getElem_set_self, rd_nat xs i hi, List.take_set_of_le (by omega), ht])
    simpa using this
theorem toIntS_ev (xs : List Int) (hx : xs.length ≤ 17592186044416) : Ev (fun k => laws_toIntS.f k xs) xs := by
  unfold laws_toIntS.f
  refine ev_ifp (by omega) (ev_ifp (by omega) ?_)
  exact toIntS_loop xs hx xs.length 0 _ (by simp) (by omega) (by simp)
theorem eqIntS_loop (xs : List Int) (hx : xs.length ≤ 17592186044416) (d : Nat) : ∀ (i : Nat), i + d = xs.length → Ev (fun k => laws_eqIntS.l0 k xs xs (i : Int)) true := by
  induction d with
  | zero =>
    intro i hd
    apply ev_succ
    simp only [laws_eqIntS.l0]
    refine ev_ifn (by omega) ?_
    exact Ev.now _
  | succ d ih =>
    intro i hd
    apply ev_succ
    simp only [laws_eqIntS.l0]
    refine ev_ifp (by omega) (ev_ifp (by omega) (ev_ifp (by omega) ?_))
    rw [w64 (by omega) (by omega)]
    simpa using ih (i + 1) (by omega)
theorem eqIntS_ev (xs : List Int) (hx : xs.length ≤ 17592186044416) : Ev (fun k => laws_eqIntS.f k xs xs) true := by
  unfold laws_eqIntS.f
  refine ev_ifp rfl ?_
  exact eqIntS_loop xs hx xs.length 0 (by omega)
theorem markInt_loop (n : Nat) (hn : n ≤ 1100000) (a : Int) (h0 : 0 ≤ a) (h1 : a ≤ 1000000000000) (d : Nat) : ∀ (i : Nat) (xs : List Int), xs.length = n → i + d = n → ∃ ys : List Int, Ev (fun k => laws_markIntS.l0 k xs (a + (i : Int)) (i : Int)) (a + (n : Int), ys) ∧ ys.length = n ∧ (∀ j : Nat, i ≤ j → j < n → ys[j]? = some (a + (j : Int))) ∧ (∀ j : Nat, j < i → ys[j]? = xs[j]?) := by
  induction d with
  | zero =>
    intro i xs hl hd
    refine ⟨xs, ?_, hl, fun j h1 h2 => by omega, fun j _ => rfl⟩
    apply ev_succ
    simp only [laws_markIntS.l0]
    refine ev_ifn (by omega) (ev_some ?_)
    rw [show (i : Int) = n by omega]
  | succ d ih =>
    intro i xs hl hd
    obtain ⟨ys, he, hy, h2, h3⟩ := ih (i + 1) (xs.set i (a + (i : Int))) (by simpa using hl) (by omega)
    refine ⟨ys, ?_, hy, fun j hj hn' => ?_, fun j hj => ?_⟩
    · apply ev_succ
      have w0 : wrap64 (a + (i : Int) + 1) = a + ((i + 1 : Nat) : Int) := by rw [w64 (by omega) (by omega)]; omega
      have w' : wrap64 ((i : Int) + 1) = ((i + 1 : Nat) : Int) := by rw [w64 (by omega) (by omega)]; simp
      simp only [laws_markIntS.l0, Int.toNat_natCast, w0, w']
      exact ev_ifp (by omega) (ev_ifp (by omega) he)
    · by_cases hji : j = i
      · subst hji
        rw [h3 j (by omega)]
        simp [show j < xs.length by omega]
      · exact h2 j (by omega) hn'
    · rw [h3 j (by omega), List.getElem?_set_ne (by omega)]
theorem markInt_at (xs : List Int) (hx : xs.length ≤ 1100000) (a : Int) (h0 : 0 ≤ a) (h1 : a ≤ 1000000000000) : ∃ ys, Ev (fun k => laws_markIntS.f k xs a) (a + (xs.length : Int), ys) ∧ ys.length = xs.length ∧ ∀ j : Nat, j < xs.length → ys[j]? = some (a + (j : Int)) := by
  obtain ⟨ys, he, hy, h2, h3⟩ := markInt_loop xs.length hx a h0 h1 xs.length 0 xs rfl (by omega)
  refine ⟨ys, ?_, hy, fun j hj => h2 j (by omega) hj⟩
  unfold laws_markIntS.f
  simpa using he
theorem heldInt_loop (ys : List Int) (n : Nat) (hn : n ≤ 1100000) (a : Int) (h0 : 0 ≤ a) (h1 : a ≤ 1000000000000) (hl : ys.length = n) (h : ∀ j : Nat, j < n → ys[j]? = some (a + (j : Int))) (d : Nat) : ∀ i : Nat, i + d = n → Ev (fun k => laws_heldIntS.l0 k ys (a + (i : Int)) (i : Int)) (a + (n : Int)) := by
  induction d with
  | zero =>
    intro i hd
    apply ev_succ
    simp only [laws_heldIntS.l0]
    refine ev_ifn (by omega) (ev_some ?_)
    rw [show (i : Int) = n by omega]
  | succ d ih =>
    intro i hd
    apply ev_succ
    have hr : rd ys (i : Int) = a + (i : Int) := by
      have := h i (by omega)
      simp [rd, List.getD_eq_getElem?_getD, this]
    have w0 : wrap64 (a + (i : Int) + 1) = a + ((i + 1 : Nat) : Int) := by rw [w64 (by omega) (by omega)]; omega
    have w' : wrap64 ((i : Int) + 1) = ((i + 1 : Nat) : Int) := by rw [w64 (by omega) (by omega)]; simp
    simp only [laws_heldIntS.l0, w0, w']
    exact ev_ifp (by omega) (ev_ifp (by omega) (ev_ifp hr (ih (i + 1) (by omega))))
theorem markInt_ev (xs : List Int) (hx : xs.length ≤ 1100000) : ∃ m ys, Ev (fun k => laws_markIntS.f k xs 1) (m, ys) ∧ 0 ≤ m ∧ Ev (fun k => laws_heldIntS.f k ys 1) m := by
  obtain ⟨ys, he, hy, h2⟩ := markInt_at xs hx 1 (by omega) (by omega)
  refine ⟨1 + (xs.length : Int), ys, he, by omega, ?_⟩
  unfold laws_heldIntS.f
  simpa using heldInt_loop ys xs.length hx 1 (by omega) (by omega) hy h2 xs.length 0 (by omega)
theorem drop_L1 (xs : List (List Int)) (i : Nat) (h : i < xs.length) : xs.drop i = rd_L1 xs (i : Int) :: xs.drop (i + 1) := by
  rw [List.drop_eq_getElem_cons h]
  simp [rd_L1, List.getD_eq_getElem?_getD, h]
def tot (xs : List (List Int)) : Nat := (xs.map List.length).sum
theorem tot_drop (xs : List (List Int)) (i : Nat) (h : i < xs.length) : tot (xs.drop i) = (rd_L1 xs (i : Int)).length + tot (xs.drop (i + 1)) := by
  rw [drop_L1 xs i h]
  simp [tot]
theorem eqSS_loop (xs : List (List Int)) (hx : xs.length ≤ 1100000) (d : Nat) : ∀ i : Nat, i + d = xs.length → tot (xs.drop i) ≤ 1100000 → Ev (fun k => laws_eqIntSS.l0 k xs xs (i : Int)) true := by
  induction d with
  | zero =>
    intro i hd _
    apply ev_succ
    simp only [laws_eqIntSS.l0]
    exact ev_ifn (by omega) (Ev.now _)
  | succ d ih =>
    intro i hd ht
    have e1 : wrap64 ((i : Int) + 1) = ((i + 1 : Nat) : Int) := by rw [w64 (by omega) (by omega)]; simp
    rw [tot_drop xs i (by omega)] at ht
    apply ev_succ
    simp only [laws_eqIntSS.l0, e1]
    exact ev_ifp (by omega) (ev_ifp (by omega) (ev_ifp (by omega) (Ev.bind (eqIntS_ev (rd_L1 xs (i : Int)) (by omega)) (ev_ifp rfl (ih (i + 1) (by omega) (by omega))))))
theorem eqSS_ev (xs : List (List Int)) (hx : xs.length ≤ 1100000) (ht : tot xs ≤ 1100000) : Ev (fun k => laws_eqIntSS.f k xs xs) true := by
  unfold laws_eqIntSS.f
  exact ev_ifp rfl (eqSS_loop xs hx xs.length 0 (by omega) ht)
/-- Each row is marked on from where the one before it ended. -/
def Marked : List (List Int) → Int → Int → Prop
  | [], a, b => a = b
  | y :: ys, a, b => (∀ j : Nat, j < y.length → y[j]? = some (a + (j : Int))) ∧ y.length ≤ 1100000 ∧ 0 ≤ a ∧ a ≤ 1000000000000 ∧ Marked ys (a + (y.length : Int)) b
theorem markSS_loop (n : Nat) (hn : n ≤ 1100000) (d : Nat) : ∀ (i : Nat) (xs : List (List Int)) (a : Int), xs.length = n → i + d = n → 1 ≤ a → tot (xs.drop i) ≤ 1100000 → a + (tot (xs.drop i) : Int) ≤ 4000000 →
    ∃ ys, Ev (fun k => laws_markIntSS.l0 k xs a (i : Int)) (a + (tot (xs.drop i) : Int), ys) ∧ ys.length = n ∧ ys.take i = xs.take i ∧ Marked (ys.drop i) a (a + (tot (xs.drop i) : Int)) := by
  induction d with
  | zero =>
    intro i xs a hl hd h0 ht0 ht
    have e : xs.drop i = [] := List.drop_eq_nil_of_le (by omega)
    rw [e]
    refine ⟨xs, ?_, hl, rfl, ?_⟩
    · apply ev_succ
      simp only [laws_markIntSS.l0]
      exact ev_ifn (by omega) (ev_some (by simp [tot]))
    · rw [e]
      simp [Marked, tot]
  | succ d ih =>
    intro i xs a hl hd h0 ht0 ht
    have hi : i < xs.length := by omega
    have e1 : wrap64 ((i : Int) + 1) = ((i + 1 : Nat) : Int) := by rw [w64 (by omega) (by omega)]; simp
    rw [tot_drop xs i hi] at ht0 ht ⊢
    obtain ⟨y, hy, hyl, hyc⟩ := markInt_at (rd_L1 xs (i : Int)) (by omega) a (by omega) (by omega)
    have hdr : (xs.set i y).drop (i + 1) = xs.drop (i + 1) := by rw [List.drop_set_of_lt (by omega)]
    obtain ⟨ys, h1, h2, h3, h4⟩ := ih (i + 1) (xs.set i y) (a + ((rd_L1 xs (i : Int)).length : Int)) (by simpa using hl) (by omega) (by omega) (by rw [hdr]; omega) (by rw [hdr]; omega)
    rw [hdr] at h1 h4
    have ea : a + ((rd_L1 xs (i : Int)).length : Int) + (tot (xs.drop (i + 1)) : Int) = a + (((rd_L1 xs (i : Int)).length + tot (xs.drop (i + 1)) : Nat) : Int) := by omega
    rw [ea] at h1 h4
    refine ⟨ys, ?_, h2, ?_, ?_⟩
    · apply ev_succ
      simp only [laws_markIntSS.l0, e1, Int.toNat_natCast]
      exact ev_ifp (by omega) (ev_ifp (by omega) (Ev.bind hy h1))
    · have := congrArg (List.take i) h3
      rw [List.take_take, List.take_take, Nat.min_eq_left (by omega), List.take_set_of_le (by omega)] at this
      exact this
    · have hyi : ys.drop i = y :: ys.drop (i + 1) := by
        have hil : i < ys.length := by omega
        rw [List.drop_eq_getElem_cons hil]
        have h5 := congrArg (fun l => l[i]?) h3
        simp only [List.getElem?_take] at h5
        rw [if_pos (by omega), if_pos (by omega), List.getElem?_set_self hi, List.getElem?_eq_getElem hil] at h5
        rw [Option.some.inj h5]
      rw [hyi]
      unfold Marked
      refine ⟨fun j hj => hyc j (by omega), by omega, by omega, by omega, ?_⟩
      rw [hyl]
      exact h4
theorem rdL1 (xs : List (List Int)) (i : Nat) (h : i < xs.length) : rd_L1 xs (i : Int) = xs[i] := by simp [rd_L1, List.getD_eq_getElem?_getD, h]
theorem szS_eq (l : List Int) (c : Int) (hm : l.length ≤ maxLen) (h0 : 0 ≤ c) (h1 : c ≤ 1048576) : laws_szIntS.f l c = some (if (l.length : Int) ≤ c then c - (l.length : Int) else (-1 : Int)) := by
  unfold maxLen at hm
  unfold laws_szIntS.f
  rw [w64 (by omega) (by omega)]
  by_cases h : (l.length : Int) ≤ c
  · rw [if_neg (by omega), if_pos h]
  · rw [if_pos (by omega), if_neg h]
def OkSS (xs : List (List Int)) : Prop := xs.length ≤ 1048576 ∧ ∀ x, x ∈ xs → x.length ≤ 1048576
theorem tot_mem {xs : List (List Int)} {x : List Int} (h : x ∈ xs) : x.length ≤ tot xs := by
  induction xs with
  | nil => cases h
  | cons y ys ih =>
    unfold tot at *
    rw [List.map_cons, List.sum_cons]
    rcases List.mem_cons.mp h with rfl | h
    · omega
    · have := ih h; omega
theorem szSS_loop (xs : List (List Int)) (hl : xs.length ≤ 1048576) (hm : ∀ x, x ∈ xs → x.length ≤ maxLen) (d : Nat) : ∀ (i : Nat) (c : Int), 0 ≤ c → c ≤ 1048576 → i + d = xs.length →
    ∃ v, Ev (fun k => laws_szIntSS.l0 k xs c (i : Int)) v ∧ (v < 0 ∨ (0 ≤ v ∧ v + (tot (xs.drop i) : Int) = c)) := by
  induction d with
  | zero =>
    intro i c h0 h1 hd
    refine ⟨c, ?_, .inr ⟨h0, ?_⟩⟩
    · apply ev_succ
      simp only [laws_szIntSS.l0]
      exact ev_ifn (by omega) (Ev.now _)
    · rw [List.drop_eq_nil_of_le (by omega)]
      simp [tot]
  | succ d ih =>
    intro i c h0 h1 hd
    have hi : i < xs.length := by omega
    have e1 : wrap64 ((i : Int) + 1) = ((i + 1 : Nat) : Int) := by rw [w64 (by omega) (by omega)]; simp
    have hs := szS_eq xs[i] c (hm _ (List.getElem_mem hi)) h0 h1
    rw [tot_drop xs i hi, rdL1 xs i hi]
    by_cases h : ((xs[i]).length : Int) ≤ c
    · rw [if_pos h] at hs
      obtain ⟨v, hv, hv2⟩ := ih (i + 1) (c - ((xs[i]).length : Int)) (by omega) (by omega) (by omega)
      refine ⟨v, ev_succ ?_, ?_⟩
      · simp only [laws_szIntSS.l0, e1]
        rw [rdL1 xs i hi, hs]
        exact ev_ifp (by omega) (ev_ifp (by omega) (ev_ifn (by omega) hv))
      · rcases hv2 with hv2 | hv2
        · exact .inl hv2
        · exact .inr ⟨hv2.1, by omega⟩
    · rw [if_neg h] at hs
      refine ⟨-1, ev_succ ?_, .inl (by omega)⟩
      simp only [laws_szIntSS.l0, e1]
      rw [rdL1 xs i hi, hs]
      exact ev_ifp (by omega) (ev_ifp (by omega) (ev_bindc rfl (ev_ifp (by omega) (Ev.now _))))
theorem szSS_ev (xs : List (List Int)) (hg : xs.length ≤ maxLen) (hm : ∀ x, x ∈ xs → x.length ≤ maxLen) : ∃ v, Ev (fun k => laws_szIntSS.f k xs 1048576) v ∧ (v < 0 ∨ (0 ≤ v ∧ OkSS xs ∧ tot xs ≤ 1048576)) := by
  unfold maxLen at hg
  unfold laws_szIntSS.f
  rw [w64 (by omega) (by omega)]
  by_cases h : 1048576 - (xs.length : Int) < 0
  · exact ⟨-1, ev_ifp h (Ev.now _), .inl (by omega)⟩
  · obtain ⟨v, hv, hv2⟩ := szSS_loop xs (by omega) hm xs.length 0 (1048576 - (xs.length : Int)) (by omega) (by omega) (by omega)
    rw [List.drop_zero] at hv2
    refine ⟨v, ev_ifn h hv, ?_⟩
    rcases hv2 with hv2 | hv2
    · exact .inl hv2
    · have ht : tot xs ≤ 1048576 := by omega
      exact .inr ⟨hv2.1, ⟨by omega, fun x hx => by have := tot_mem hx; omega⟩, ht⟩
theorem toSS_loop (xs : List (List Int)) (ho : OkSS xs) (d : Nat) : ∀ (i : Nat) (ys : List (List Int)), ys.length = xs.length → i + d = xs.length → ys.take i = xs.take i → Ev (fun k => laws_toIntSS.l0 k xs ys (i : Int)) xs := by
  obtain ⟨hx, hin⟩ := ho
  induction d with
  | zero =>
    intro i ys hl hd ht
    apply ev_succ
    simp only [laws_toIntSS.l0]
    refine ev_ifn (by omega) ?_
    have e : ys = xs := by rw [← List.take_length (l := xs), ← show i = xs.length by omega, ← ht, List.take_of_length_le (by omega)]
    rw [e]
    exact Ev.now _
  | succ d ih =>
    intro i ys hl hd ht
    have hi : i < xs.length := by omega
    have hb := hin _ (List.getElem_mem hi)
    have e1 : wrap64 ((i : Int) + 1) = ((i + 1 : Nat) : Int) := by rw [w64 (by omega) (by omega)]; simp
    have := ih (i + 1) (ys.set i xs[i]) (by simpa using hl) (by omega) (by
      rw [List.take_succ_eq_append_getElem hi, List.take_succ_eq_append_getElem (by simpa using (by omega : i < ys.length)), List.getElem_set_self, List.take_set_of_le (by omega), ht])
    apply ev_succ
    simp only [laws_toIntSS.l0, e1]
    rw [rdL1 xs i hi]
    exact ev_ifp (by omega) (ev_ifp (by omega) (Ev.bind (toIntS_ev xs[i] (by omega)) (ev_ifp (by omega) (by simpa using this))))
theorem toSS_ev (xs : List (List Int)) (ho : OkSS xs) : Ev (fun k => laws_toIntSS.f k xs) xs := by
  have hx := ho.1
  unfold laws_toIntSS.f
  refine ev_ifp (by omega) (ev_ifp (by omega) ?_)
  exact toSS_loop xs ho xs.length 0 _ (by simp) (by omega) (by simp)
theorem l4Has_loop (xs : List Int) (n : Int) (hx : xs.length ≤ 17592186044416) (d : Nat) : ∀ i : Nat, i + d = xs.length → Ev (fun k => spec_l4Has.l0 k xs n (i : Int)) (decide (n ∈ xs.drop i)) := by
  induction d with
  | zero =>
    intro i hd
    apply ev_succ
    simp only [spec_l4Has.l0]
    refine ev_ifn (by omega) (ev_some ?_)
    rw [List.drop_eq_nil_of_le (by omega)]
    simp
  | succ d ih =>
    intro i hd
    apply ev_succ
    simp only [spec_l4Has.l0]
    refine ev_ifp (by omega) (ev_ifp (by omega) ?_)
    rw [w64 (by omega) (by omega), drop_rd xs i (by omega)]
    by_cases h : rd xs (i : Int) = n
    · exact ev_ifp h (ev_some (by simp [h]))
    · refine ev_ifn h ?_
      have := ih (i + 1) (by omega)
      have h' : ¬ n = rd xs (i : Int) := fun e => h e.symm
      simpa [h'] using this
theorem l4Has_ev (xs : List Int) (n : Int) (hx : xs.length ≤ 17592186044416) : Ev (fun k => spec_l4Has.f k xs n) (decide (n ∈ xs)) := by
  unfold spec_l4Has.f
  simpa using l4Has_loop xs n hx xs.length 0 (by omega)
def idxG : List Int → Int → Int
  | [], _ => -1
  | x :: xs, v => if v = x then 0 else if idxG xs v < 0 then -1 else idxG xs v + 1
theorem idxG_range (xs : List Int) (v : Int) : -1 ≤ idxG xs v ∧ idxG xs v < xs.length := by
  induction xs with
  | nil => simp [idxG]
  | cons x xs ih =>
    unfold idxG
    simp only [List.length_cons]
    split
    · omega
    · split <;> omega
theorem idxG_neg (xs : List Int) (v : Int) : idxG xs v < 0 ↔ v ∉ xs := by
  induction xs with
  | nil => simp [idxG]
  | cons x xs ih =>
    unfold idxG
    by_cases h : v = x
    · simp [h]
    · rw [if_neg h]
      by_cases h2 : idxG xs v < 0
      · rw [if_pos h2]
        simp [h, ih.1 h2]
      · rw [if_neg h2]
        have h3 : v ∈ xs := by
          rcases Decidable.em (v ∈ xs) with h4 | h4
          · exact h4
          · exact absurd (ih.2 h4) h2
        simp [h, h3]
        omega
theorem idxG_at (xs : List Int) (v : Int) (h : 0 ≤ idxG xs v) : rd xs (idxG xs v) = v ∧ v ∉ xs.take (idxG xs v).toNat := by
  induction xs with
  | nil => simp [idxG] at h
  | cons x xs ih =>
    unfold idxG at h ⊢
    by_cases h1 : v = x
    · subst h1
      simp [rd]
    · rw [if_neg h1] at h ⊢
      by_cases h2 : idxG xs v < 0
      · rw [if_pos h2] at h
        omega
      · rw [if_neg h2] at h ⊢
        obtain ⟨m, hm⟩ : ∃ m : Nat, idxG xs v = m := ⟨(idxG xs v).toNat, by omega⟩
        obtain ⟨e1, e2⟩ := ih (by omega)
        rw [hm] at e1 e2 ⊢
        have e3 : ((m : Int) + 1).toNat = m + 1 := by omega
        rw [rd, e3]
        rw [rd, Int.toNat_natCast] at e1
        rw [Int.toNat_natCast] at e2
        exact ⟨by simpa using e1, by simpa [h1] using e2⟩
theorem Index_loop (xs : List Int) (v : Int) (hx : xs.length ≤ 17592186044416) (d : Nat) : ∀ i : Nat, i + d = xs.length →
    Ev (fun k => slices_Index_int_int.l0 k xs v (xs.length : Int) (i : Int)) (if idxG (xs.drop i) v < 0 then -1 else idxG (xs.drop i) v + i) := by
  induction d with
  | zero =>
    intro i hd
    apply ev_succ
    simp only [slices_Index_int_int.l0]
    refine ev_ifn (by omega) (ev_some ?_)
    rw [List.drop_eq_nil_of_le (by omega)]
    simp [idxG]
  | succ d ih =>
    intro i hd
    apply ev_succ
    simp only [slices_Index_int_int.l0]
    refine ev_ifp (by omega) (ev_ifp (by omega) (ev_ifp (by omega) ?_))
    rw [w64 (by omega) (by omega), drop_rd xs i (by omega)]
    unfold idxG
    by_cases h : v = rd xs (i : Int)
    · refine ev_ifp h (ev_some ?_)
      rw [if_pos h]
      simp
    · refine ev_ifn h ?_
      have := ih (i + 1) (by omega)
      rw [if_neg h]
      have hr := idxG_range (xs.drop (i + 1)) v
      have e : (if (if idxG (xs.drop (i + 1)) v < 0 then -1 else idxG (xs.drop (i + 1)) v + 1) < 0 then (-1 : Int) else (if idxG (xs.drop (i + 1)) v < 0 then -1 else idxG (xs.drop (i + 1)) v + 1) + (i : Int)) = if idxG (xs.drop (i + 1)) v < 0 then -1 else idxG (xs.drop (i + 1)) v + ((i + 1 : Nat) : Int) := by
        split
        · simp
        · rw [if_neg (by omega)]
          omega
      rw [e]
      simpa using this
theorem Index_ev (xs : List Int) (v : Int) (hx : xs.length ≤ 17592186044416) : Ev (fun k => slices_Index_int_int.f k xs v) (idxG xs v) := by
  unfold slices_Index_int_int.f
  have := Index_loop xs v hx xs.length 0 (by omega)
  have hr := idxG_range xs v
  simp only [List.drop_zero] at this
  have e : (if idxG xs v < 0 then -1 else idxG xs v + ((0 : Nat) : Int)) = idxG xs v := by split <;> omega
  rw [e] at this
  exact this
theorem Contains_ev (xs : List Int) (v : Int) (hx : xs.length ≤ 17592186044416) : Ev (fun k => slices_Contains_int_int.f k xs v) (decide (v ∈ xs)) := by
  unfold slices_Contains_int_int.f
  refine Ev.bind (Index_ev xs v hx) (ev_some ?_)
  have := idxG_neg xs v
  by_cases h : v ∈ xs
  · have h2 : ¬ idxG xs v < 0 := fun h3 => this.1 h3 h
    simp [h]
    omega
  · have h2 := this.2 h
    simp [h]
    omega
def hitG (a : Int) (rs : List (List Int)) : Bool := rs.any fun p => decide (a ∈ p)
theorem hit_cons (a : Int) (p : List Int) (r : List (List Int)) : hitG a (p :: r) = (decide (a ∈ p) || hitG a r) := List.any_cons
theorem IndexFunc_loop (rs : List (List Int)) (ho : OkSS rs) (a : Int) (d : Nat) : ∀ i : Nat, i + d = rs.length → ∃ v : Int, Ev (fun k => slices_IndexFunc_int_int.l0 k rs a (rs.length : Int) (i : Int)) v ∧ decide (v ≥ 0) = hitG a (rs.drop i) := by
  have hl := ho.1
  induction d with
  | zero =>
    intro i hd
    refine ⟨-1, ev_succ ?_, ?_⟩
    · simp only [slices_IndexFunc_int_int.l0]
      exact ev_ifn (by omega) (Ev.now _)
    · rw [List.drop_eq_nil_of_le (by omega)]
      rfl
  | succ d ih =>
    intro i hd
    have hi : i < rs.length := by omega
    have hx := ho.2 _ (List.getElem_mem hi)
    have e1 : wrap64 ((i : Int) + 1) = ((i + 1 : Nat) : Int) := by rw [w64 (by omega) (by omega)]; simp
    have hc := Contains_ev rs[i] a (by omega)
    rw [List.drop_eq_getElem_cons hi]
    by_cases h : a ∈ rs[i]
    · rw [decide_eq_true h] at hc
      refine ⟨(i : Int), ev_succ ?_, ?_⟩
      · simp only [slices_IndexFunc_int_int.l0]
        rw [rdL1 rs i hi]
        exact ev_ifp (by omega) (ev_ifp (by omega) (ev_ifp (by omega) (Ev.bind hc (ev_ifp rfl (Ev.now _)))))
      · rw [hit_cons, decide_eq_true h, Bool.true_or]
        exact decide_eq_true (by omega)
    · rw [decide_eq_false h] at hc
      obtain ⟨v, hv, hv2⟩ := ih (i + 1) (by omega)
      refine ⟨v, ev_succ ?_, ?_⟩
      · simp only [slices_IndexFunc_int_int.l0, e1]
        rw [rdL1 rs i hi]
        exact ev_ifp (by omega) (ev_ifp (by omega) (ev_ifp (by omega) (Ev.bind hc (ev_ifn (by simp) hv))))
      · rw [hv2, hit_cons, decide_eq_false h, Bool.false_or]
theorem ContainsFunc_ev (rs : List (List Int)) (ho : OkSS rs) (a : Int) : Ev (fun k => slices_ContainsFunc_int_int.f k rs a) (hitG a rs) := by
  obtain ⟨v, hv, hv2⟩ := IndexFunc_loop rs ho a rs.length 0 (by omega)
  rw [List.drop_zero] at hv2
  unfold slices_ContainsFunc_int_int.f slices_IndexFunc_int_int.f
  exact Ev.bind hv (ev_some hv2)
def restG (rs : List (List Int)) : Nat → Int → List Int → List Int
  | 0, _, out => out
  | d + 1, j, out => restG rs d (j + 1) (if hitG j rs = true then out else out ++ [j])
theorem impl_rest_loop (rs : List (List Int)) (ho : OkSS rs) (n : Int) (hn : n ≤ 20) (d : Nat) : ∀ (j : Nat) (out : List Int), (j : Int) + d = n → out.length ≤ j → Ev (fun k => impl_RestOf.l0 k rs out n (j : Int)) (restG rs d j out) := by
  induction d with
  | zero =>
    intro j out hd _
    apply ev_succ
    simp only [impl_RestOf.l0]
    exact ev_ifn (by omega) (Ev.now _)
  | succ d ih =>
    intro j out hd hl
    have e1 : wrap64 ((j : Int) + 1) = ((j + 1 : Nat) : Int) := by rw [w64 (by omega) (by omega)]; simp
    have hc := ContainsFunc_ev rs ho (j : Int)
    apply ev_succ
    simp only [impl_RestOf.l0, e1]
    unfold restG
    by_cases h : hitG (j : Int) rs = true
    · rw [h] at hc
      rw [if_pos h]
      exact ev_ifp (by omega) (Ev.bind hc (ev_ifp rfl (by simpa using ih (j + 1) out (by omega) (by omega))))
    · rw [Bool.eq_false_iff.mpr h] at hc
      rw [if_neg h]
      exact ev_ifp (by omega) (Ev.bind hc (ev_ifn (by simp) (ev_ifp (by omega) (by simpa using ih (j + 1) (out ++ [(j : Int)]) (by omega) (by simp; omega)))))
theorem restG_len (rs : List (List Int)) (d : Nat) : ∀ (j : Int) (out : List Int), (restG rs d j out).length ≤ out.length + d := by
  induction d with
  | zero => intro j out; exact Nat.le_refl _
  | succ d ih =>
    intro j out
    unfold restG
    have := ih (j + 1) (if hitG j rs = true then out else out ++ [j])
    split at this
    · rename_i h; rw [if_pos h]; omega
    · rename_i h; rw [if_neg h]; simp at this; omega
def laws_FnExactRestOf.Pure : Prop := ∀ (l0 : List (List (Int))) (a1 : Int), (l0.length ≤ maxLen ∧ ∀ y49 ∈ l0, y49.length ≤ maxLen ∧ ∀ y45 ∈ y49, (Lit.int .i64 y45).wf = true) → ((Lit.int .i64 a1).wf = true) → ∃ k, laws_FnExactRestOf.f k l0 a1 = some true

theorem spec_row_true (rs : List (List Int)) (hl : rs.length ≤ 1048576) (n a : Int) (out : List Int) (v : List Int) (R : Ev (fun k => spec_RestOf.l0 k rs n out (wrap64 (a + 1))) v) (d : Nat) : ∀ i : Nat, i + d = rs.length → Ev (fun k => spec_RestOf.l1 k rs n out a true (i : Int)) v := by
  induction d with
  | zero =>
    intro i hd
    apply ev_succ
    simp only [spec_RestOf.l1]
    exact ev_ifn (by omega) (ev_ifp trivial R)
  | succ d ih =>
    intro i hd
    have e1 : wrap64 ((i : Int) + 1) = ((i + 1 : Nat) : Int) := by rw [w64 (by omega) (by omega)]; simp
    apply ev_succ
    simp only [spec_RestOf.l1, e1]
    exact ev_ifp (by omega) (ev_ifp trivial (ih (i + 1) (by omega)))
theorem spec_row (rs : List (List Int)) (ho : OkSS rs) (n a : Int) (out : List Int) (hout : out.length ≤ 100) (v1 v2 : List Int) (R1 : Ev (fun k => spec_RestOf.l0 k rs n out (wrap64 (a + 1))) v1) (R2 : Ev (fun k => spec_RestOf.l0 k rs n (out ++ [a]) (wrap64 (a + 1))) v2) (d : Nat) :
    ∀ i : Nat, i + d = rs.length → Ev (fun k => spec_RestOf.l1 k rs n out a false (i : Int)) (if hitG a (rs.drop i) = true then v1 else v2) := by
  have hl := ho.1
  induction d with
  | zero =>
    intro i hd
    apply ev_succ
    simp only [spec_RestOf.l1]
    rw [List.drop_eq_nil_of_le (by omega), if_neg (by simp [hitG])]
    exact ev_ifn (by omega) (ev_ifn (by simp) (ev_ifp (by omega) R2))
  | succ d ih =>
    intro i hd
    have hi : i < rs.length := by omega
    have hx := ho.2 _ (List.getElem_mem hi)
    have e1 : wrap64 ((i : Int) + 1) = ((i + 1 : Nat) : Int) := by rw [w64 (by omega) (by omega)]; simp
    have hc := l4Has_ev rs[i] a (by omega)
    rw [List.drop_eq_getElem_cons hi]
    apply ev_succ
    simp only [spec_RestOf.l1, e1]
    rw [rdL1 rs i hi]
    refine ev_ifp (by omega) (ev_ifn (by simp) (ev_ifp (by omega) (Ev.bind hc ?_)))
    by_cases h : a ∈ rs[i]
    · rw [hit_cons, decide_eq_true h, Bool.true_or, if_pos rfl]
      exact spec_row_true rs hl n a out v1 R1 d (i + 1) (by omega)
    · rw [hit_cons, decide_eq_false h, Bool.false_or]
      exact ih (i + 1) (by omega)
theorem spec_rest_loop (rs : List (List Int)) (ho : OkSS rs) (n : Int) (hn : 0 ≤ n ∧ n ≤ 20) (d : Nat) : ∀ (j : Nat) (out : List Int), (j : Int) + d = n → out.length ≤ j → Ev (fun k => spec_RestOf.l0 k rs n out (j : Int)) (restG rs d j out) := by
  induction d with
  | zero =>
    intro j out hd _
    apply ev_succ
    simp only [spec_RestOf.l0]
    refine ev_ifn (by omega) ?_
    apply ev_succ
    simp only [spec_RestOf.j1]
    exact ev_ifn (by simp) (Ev.now _)
  | succ d ih =>
    intro j out hd hl
    have e1 : wrap64 ((j : Int) + 1) = ((j + 1 : Nat) : Int) := by rw [w64 (by omega) (by omega)]; simp
    have R1 := ih (j + 1) out (by omega) (by omega)
    have R2 := ih (j + 1) (out ++ [(j : Int)]) (by omega) (by simp; omega)
    rw [← e1] at R1 R2
    have := spec_row rs ho n (j : Int) out (by omega) _ _ R1 R2 rs.length 0 (by omega)
    apply ev_succ
    simp only [spec_RestOf.l0, spec_l1In_eq, Option.bind_some, decide_eq_true hn]
    refine ev_ifp (by omega) ?_
    apply ev_succ
    simp only [spec_RestOf.j1]
    refine ev_ifp trivial ?_
    unfold restG
    rw [List.drop_zero] at this
    have e2 : (if hitG (j : Int) rs = true then restG rs d ((j + 1 : Nat) : Int) out else restG rs d ((j + 1 : Nat) : Int) (out ++ [(j : Int)])) = restG rs d ((j : Int) + 1) (if hitG (j : Int) rs = true then out else out ++ [(j : Int)]) := by
      rw [show ((j + 1 : Nat) : Int) = (j : Int) + 1 by omega]
      split <;> rfl
    rw [← e2, ← e1]
    exact this
theorem rest_both (rs : List (List Int)) (ho : OkSS rs) (n : Int) : ∃ res, Ev (fun k => spec_RestOf.f k rs n) res ∧ Ev (fun k => impl_RestOf.f k rs n) res ∧ res.length ≤ 1000 := by
  by_cases hn : 0 ≤ n ∧ n ≤ 20
  · have hg := restG_len rs n.toNat 0 []
    refine ⟨restG rs n.toNat 0 [], ?_, ?_, by simp at hg; omega⟩
    · unfold spec_RestOf.f
      exact spec_rest_loop rs ho n hn n.toNat 0 [] (by omega) (by simp)
    · unfold impl_RestOf.f
      simp only [impl_InRange_eq, Option.bind_some, decide_eq_true hn]
      exact ev_ifp trivial (impl_rest_loop rs ho n hn.2 n.toNat 0 [] (by omega) (by simp))
  · refine ⟨[], ?_, ?_, by simp⟩
    · unfold spec_RestOf.f
      apply ev_succ
      simp only [spec_RestOf.l0, spec_l1In_eq, Option.bind_some, decide_eq_false hn]
      have J : Ev (fun k => spec_RestOf.j1 k rs n [] 0 false) [] := by
        apply ev_succ
        simp only [spec_RestOf.j1]
        exact ev_ifn (by simp) (Ev.now _)
      by_cases h0 : (0 : Int) < n
      · exact ev_ifp h0 J
      · exact ev_ifn h0 J
    · unfold impl_RestOf.f
      simp only [impl_InRange_eq, Option.bind_some, decide_eq_false hn]
      exact ev_ifn (by simp) (Ev.now _)
theorem FnExactRestOf : laws_FnExactRestOf.Pure := by
  intro rs n hrs _
  apply Ev.rounds
  unfold laws_FnExactRestOf.f
  obtain ⟨v, hv, hv2⟩ := szSS_ev rs hrs.1 (fun x hx => (hrs.2 x hx).1)
  refine Ev.bind hv ?_
  by_cases h' : v < 0
  · exact ev_ifp h' (Ev.now _)
  refine ev_ifn h' ?_
  obtain ⟨_, ho, ht⟩ := hv2.resolve_left h'
  have hlr := ho.1
  obtain ⟨res, hs, hi, hlen⟩ := rest_both rs ho n
  have ts := toSS_ev rs ho
  have es := eqSS_ev rs (by omega) (by omega)
  have er := eqIntS_ev res (by omega)
  obtain ⟨zs, hm2, _, _, _⟩ := markSS_loop rs.length (by omega) rs.length 0 rs 1 rfl (by omega) (by omega) (by rw [List.drop_zero]; omega) (by rw [List.drop_zero]; omega)
  have hm2' : Ev (fun k => laws_markIntSS.f k rs 1) _ := hm2
  obtain ⟨mm, us, hu, hu0, hh⟩ := markInt_ev res (by omega)
  refine Ev.bind ts (Ev.bind hs (Ev.bind ts (Ev.bind hi (Ev.bind er (ev_ifp rfl ?_)))))
  refine Ev.bind ts (Ev.bind es (ev_ifp rfl (Ev.bind hm2' (Ev.bind er (ev_ifn ?_ (ev_ifp rfl ?_))))))
  · simp only
    omega
  exact Ev.bind hu (Ev.bind hh (ev_ifn (by omega) (ev_ifp rfl (Ev.bind ts (Ev.bind hi (Ev.bind er (ev_ifp rfl (Ev.bind hh (ev_ifn (by omega) (ev_ifp rfl (Ev.now _)))))))))))

end Go.Proofs.Ytfcidjlnokhkjaa.Pure
