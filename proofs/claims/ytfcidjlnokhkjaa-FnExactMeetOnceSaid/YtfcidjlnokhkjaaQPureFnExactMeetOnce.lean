/- The program's MeetOnce answers what the reference's answers, for all arguments.
No condition: for every input. -/
import Derived.Test.YtfcidjlnokhkjaaQFnExactMeetOncex6
set_option linter.unusedVariables false
set_option linter.unusedSimpArgs false
set_option maxHeartbeats 1000000
namespace Go.Proofs.Ytfcidjlnokhkjaa.Pure
open Go.RowKit Go.Proofs.Ytfcidjlnokhkjaa.QFnExactMeetOnce Go.Proofs.YtfcidjlnokhkjaaW.PrintWords Go.Proofs.YtfcidjlnokhkjaaW.PrintLast

theorem w64 {x : Int} (h1 : -9223372036854775808 ≤ x) (h2 : x ≤ 9223372036854775807) : wrap64 x = x := by unfold wrap64; omega
theorem wf64 {x : Int} (h : (Lit.int .i64 x).wf = true) : -9223372036854775808 ≤ x ∧ x ≤ 9223372036854775807 := by
  simp only [Lit.wf, Bool.and_eq_true, decide_eq_true_eq] at h
  have e1 : IntKind.min .i64 = -9223372036854775808 := by decide
  have e2 : IntKind.max .i64 = 9223372036854775807 := by decide
  omega
theorem wfu8 {x : Int} (h : (Lit.int .u8 x).wf = true) : 0 ≤ x ∧ x ≤ 255 := by
  simp only [Lit.wf, Bool.and_eq_true, decide_eq_true_eq] at h
  have e1 : IntKind.min .u8 = 0 := by decide
  have e2 : IntKind.max .u8 = 255 := by decide
  omega
theorem ev_succ {α : Type} {g : Nat → Option α} {r : α} (h : Ev (fun k => g (k + 1)) r) : Ev g r := Ev.step (fun _ => rfl) h
theorem ev_some {α : Type} {r s : α} (h : r = s) : Ev (fun _ => some r) s := by subst h; exact Ev.now r
theorem ev_fix {α : Type} {o : Option α} {r : α} (h : o = some r) : Ev (fun _ => o) r := ⟨0, fun _ _ => h⟩
theorem ev_at {α : Type} {g : Nat → Option α} {r : α} (n : Nat) (h : ∀ k, g (k + n) = some r) : Ev g r :=
  ⟨n, fun k hk => by obtain ⟨m, rfl⟩ : ∃ m, k = m + n := ⟨k - n, by omega⟩; exact h m⟩
theorem ev_bindc {α β : Type} {o : Option α} {f : Nat → α → Option β} {a : α} {r : β} (h : o = some a) (k : Ev (fun n => f n a) r) : Ev (fun n => o.bind (f n)) r := by
  subst h; exact k
theorem ev_ifp {α : Type} {c : Prop} [Decidable c] {a b : Nat → Option α} {r : α} (h : c) (k : Ev a r) : Ev (fun n => if c then a n else b n) r := by
  simpa only [if_pos h] using k
theorem ev_ifn {α : Type} {c : Prop} [Decidable c] {a b : Nat → Option α} {r : α} (h : ¬ c) (k : Ev b r) : Ev (fun n => if c then a n else b n) r := by
  simpa only [if_neg h] using k
theorem drop_rd (xs : List Int) (i : Nat) (h : i < xs.length) : xs.drop i = rd xs (i : Int) :: xs.drop (i + 1) := by
  rw [List.drop_eq_getElem_cons h]
  simp [rd, List.getD_eq_getElem?_getD, h]
theorem rd_nat (xs : List Int) (i : Nat) (h : i < xs.length) : rd xs (i : Int) = xs[i] := by
  unfold rd
  simp [List.getD_eq_getElem?_getD, h]
theorem toIntS_loop (xs : List Int) (hx : xs.length ≤ 17592186044416) (d : Nat) : ∀ (i : Nat) (ys : List Int), ys.length = xs.length → i + d = xs.length → ys.take i = xs.take i →
    Ev (fun k => laws_toIntS.l0 k xs ys (i : Int)) xs := by
  induction d with
  | zero =>
    intro i ys hl hd ht
    apply ev_succ
    simp only [laws_toIntS.l0]
    refine ev_ifn (by omega) ?_
    have e : ys = xs := by rw [← List.take_length (l := xs), ← show i = xs.length by omega, ← ht, List.take_of_length_le (by omega)]
    rw [e]
    exact Ev.now _
  | succ d ih =>
    intro i ys hl hd ht
    apply ev_succ
    simp only [laws_toIntS.l0]
    refine ev_ifp (by omega) (ev_ifp (by omega) (ev_ifp (by omega) ?_))
    rw [w64 (by omega) (by omega)]
    have hi : i < xs.length := by omega
    have := ih (i + 1) (ys.set i (rd xs (i : Int))) (by simpa using hl) (by omega) (by
      rw [List.take_succ_eq_append_getElem hi, List.take_succ_eq_append_getElem (by simpa using (by omega : i < ys.length)), List.getElem_set_self, rd_nat xs i hi, List.take_set_of_le (by omega), ht])
    simpa using this
theorem toIntS_ev (xs : List Int) (hx : xs.length ≤ 17592186044416) : Ev (fun k => laws_toIntS.f k xs) xs := by
  unfold laws_toIntS.f
  refine ev_ifp (by omega) (ev_ifp (by omega) ?_)
  exact toIntS_loop xs hx xs.length 0 _ (by simp) (by omega) (by simp)
theorem eqIntS_loop (xs : List Int) (hx : xs.length ≤ 17592186044416) (d : Nat) : ∀ (i : Nat), i + d = xs.length → Ev (fun k => laws_eqIntS.l0 k xs xs (i : Int)) true := by
  induction d with
  | zero =>
    intro i hd
    apply ev_succ
    simp only [laws_eqIntS.l0]
    refine ev_ifn (by omega) ?_
    exact Ev.now _
  | succ d ih =>
    intro i hd
    apply ev_succ
    simp only [laws_eqIntS.l0]
    refine ev_ifp (by omega) (ev_ifp (by omega) (ev_ifp (by omega) ?_))
    rw [w64 (by omega) (by omega)]
    simpa using ih (i + 1) (by omega)
theorem eqIntS_ev (xs : List Int) (hx : xs.length ≤ 17592186044416) : Ev (fun k => laws_eqIntS.f k xs xs) true := by
  unfold laws_eqIntS.f
  refine ev_ifp rfl ?_
  exact eqIntS_loop xs hx xs.length 0 (by omega)
theorem spec_l1In_eq (a b c : Int) : spec_l1In.f a b c = some (decide (b ≤ a ∧ a ≤ c)) := by
  unfold spec_l1In.f
  by_cases h : a ≥ b
  · have h' : b ≤ a := h
    simp [h']
  · have h' : ¬ b ≤ a := h
    simp [h']
theorem impl_InRange_eq (a b c : Int) : impl_InRange.f a b c = some (decide (b ≤ a ∧ a ≤ c)) := by
  unfold impl_InRange.f
  by_cases h : b ≤ a <;> simp [h]
theorem l4Has_loop (xs : List Int) (n : Int) (hx : xs.length ≤ 17592186044416) (d : Nat) : ∀ i : Nat, i + d = xs.length → Ev (fun k => spec_l4Has.l0 k xs n (i : Int)) (decide (n ∈ xs.drop i)) := by
  induction d with
  | zero =>
    intro i hd
    apply ev_succ
    simp only [spec_l4Has.l0]
    refine ev_ifn (by omega) (ev_some ?_)
    rw [List.drop_eq_nil_of_le (by omega)]
    simp
  | succ d ih =>
    intro i hd
    apply ev_succ
    simp only [spec_l4Has.l0]
    refine ev_ifp (by omega) (ev_ifp (by omega) ?_)
    rw [w64 (by omega) (by omega), drop_rd xs i (by omega)]
    by_cases h : rd xs (i : Int) = n
    · exact ev_ifp h (ev_some (by simp [h]))
    · refine ev_ifn h ?_
      have := ih (i + 1) (by omega)
      have h' : ¬ n = rd xs (i : Int) := fun e => h e.symm
      simpa [h'] using this
theorem l4Has_ev (xs : List Int) (n : Int) (hx : xs.length ≤ 17592186044416) : Ev (fun k => spec_l4Has.f k xs n) (decide (n ∈ xs)) := by
  unfold spec_l4Has.f
  simpa using l4Has_loop xs n hx xs.length 0 (by omega)
theorem mx_eq (a b : Int) : mx a b = max a b := by unfold mx; omega
theorem mn_eq (a b : Int) : mn a b = min a b := by unfold mn; omega
theorem spec_Max_eq (a b : Int) : spec_Max.f a b = some (max a b) := by
  unfold spec_Max.f
  split <;> congr 1 <;> omega
theorem spec_Min_eq (a b : Int) : spec_Min.f a b = some (min a b) := by
  unfold spec_Min.f
  split <;> congr 1 <;> omega
def laws_FnExactMeetOnce.Pure : Prop := ∀ (l0 : List (List (List (Int)))) (a1 : Int), (l0.length ≤ maxLen ∧ ∀ y61 ∈ l0, y61.length ≤ maxLen ∧ ∀ y49 ∈ y61, y49.length ≤ maxLen ∧ ∀ y45 ∈ y49, (Lit.int .i64 y45).wf = true) → ((Lit.int .i64 a1).wf = true) → ∃ k, laws_FnExactMeetOnce.f k l0 a1 = some true
theorem rdL1 (xs : List (List Int)) (i : Nat) (h : i < xs.length) : rd_L1 xs (i : Int) = xs[i] := by simp [rd_L1, List.getD_eq_getElem?_getD, h]
theorem rdL2 (xs : List (List (List Int))) (i : Nat) (h : i < xs.length) : rd_L2 xs (i : Int) = xs[i] := by simp [rd_L2, List.getD_eq_getElem?_getD, h]
theorem szS_eq (l : List Int) (c : Int) (hm : l.length ≤ maxLen) (h0 : 0 ≤ c) (h1 : c ≤ 1048576) : laws_szIntS.f l c = some (if (l.length : Int) ≤ c then c - (l.length : Int) else (-1 : Int)) := by
  unfold maxLen at hm
  unfold laws_szIntS.f
  rw [w64 (by omega) (by omega)]
  by_cases h : (l.length : Int) ≤ c
  · rw [if_neg (by omega), if_pos h]
  · rw [if_pos (by omega), if_neg h]
/-- what the measure says of a list of lists: either it is too long, or each part is short -/
def OkSS (xs : List (List Int)) : Prop := xs.length ≤ 1048576 ∧ ∀ x, x ∈ xs → x.length ≤ 1048576
theorem szSS_loop (xs : List (List Int)) (hl : xs.length ≤ 1048576) (hm : ∀ x, x ∈ xs → x.length ≤ maxLen) (d : Nat) : ∀ (i : Nat) (c : Int), 0 ≤ c → c ≤ 1048576 → i + d = xs.length → (∀ j : Nat, j < i → (hj : j < xs.length) → (xs[j]).length ≤ 1048576) →
    ∃ v, Ev (fun k => laws_szIntSS.l0 k xs c (i : Int)) v ∧ (v < 0 ∨ (0 ≤ v ∧ v ≤ 1048576 ∧ OkSS xs)) := by
  induction d with
  | zero =>
    intro i c h0 h1 hd hb
    refine ⟨c, ?_, .inr ⟨h0, h1, hl, fun x hx => ?_⟩⟩
    · apply ev_succ
      simp only [laws_szIntSS.l0]
      exact ev_ifn (by omega) (Ev.now _)
    · obtain ⟨j, hj, rfl⟩ := List.mem_iff_getElem.mp hx
      exact hb j (by omega) hj
  | succ d ih =>
    intro i c h0 h1 hd hb
    have hi : i < xs.length := by omega
    have e1 : wrap64 ((i : Int) + 1) = ((i + 1 : Nat) : Int) := by rw [w64 (by omega) (by omega)]; simp
    have hs := szS_eq xs[i] c (hm _ (List.getElem_mem hi)) h0 h1
    by_cases h : ((xs[i]).length : Int) ≤ c
    · rw [if_pos h] at hs
      obtain ⟨v, hv, hv2⟩ := ih (i + 1) (c - ((xs[i]).length : Int)) (by omega) (by omega) (by omega) (fun j hj hj2 => by
        by_cases e : j = i
        · subst e; omega
        · exact hb j (by omega) hj2)
      refine ⟨v, ev_succ ?_, hv2⟩
      simp only [laws_szIntSS.l0, e1]
      rw [rdL1 xs i hi, hs]
      exact ev_ifp (by omega) (ev_ifp (by omega) (ev_ifn (by omega) hv))
    · rw [if_neg h] at hs
      refine ⟨-1, ev_succ ?_, .inl (by omega)⟩
      simp only [laws_szIntSS.l0, e1]
      rw [rdL1 xs i hi, hs]
      exact ev_ifp (by omega) (ev_ifp (by omega) (ev_bindc rfl (ev_ifp (by omega) (Ev.now _))))
theorem szSS_ev (xs : List (List Int)) (c : Int) (h0 : 0 ≤ c) (h1 : c ≤ 1048576) (hg : xs.length ≤ maxLen) (hm : ∀ x, x ∈ xs → x.length ≤ maxLen) : ∃ v, Ev (fun k => laws_szIntSS.f k xs c) v ∧ (v < 0 ∨ (0 ≤ v ∧ v ≤ 1048576 ∧ OkSS xs)) := by
  unfold maxLen at hg
  unfold laws_szIntSS.f
  rw [w64 (by omega) (by omega)]
  by_cases h : c - (xs.length : Int) < 0
  · exact ⟨-1, ev_ifp h (Ev.now _), .inl (by omega)⟩
  · obtain ⟨v, hv, hv2⟩ := szSS_loop xs (by omega) hm xs.length 0 (c - (xs.length : Int)) (by omega) (by omega) (by omega) (fun j hj => by omega)
    exact ⟨v, ev_ifn h hv, hv2⟩
def OkSSS (xs : List (List (List Int))) : Prop := xs.length ≤ 1048576 ∧ ∀ x, x ∈ xs → OkSS x
theorem szSSS_loop (xs : List (List (List Int))) (hl : xs.length ≤ 1048576) (hm : ∀ x, x ∈ xs → x.length ≤ maxLen ∧ ∀ y, y ∈ x → y.length ≤ maxLen) (d : Nat) : ∀ (i : Nat) (c : Int), 0 ≤ c → c ≤ 1048576 → i + d = xs.length → (∀ j : Nat, j < i → (hj : j < xs.length) → OkSS xs[j]) →
    ∃ v, Ev (fun k => laws_szIntSSS.l0 k xs c (i : Int)) v ∧ (v < 0 ∨ OkSSS xs) := by
  induction d with
  | zero =>
    intro i c h0 h1 hd hb
    refine ⟨c, ?_, .inr ⟨hl, fun x hx => ?_⟩⟩
    · apply ev_succ
      simp only [laws_szIntSSS.l0]
      exact ev_ifn (by omega) (Ev.now _)
    · obtain ⟨j, hj, rfl⟩ := List.mem_iff_getElem.mp hx
      exact hb j (by omega) hj
  | succ d ih =>
    intro i c h0 h1 hd hb
    have hi : i < xs.length := by omega
    have e1 : wrap64 ((i : Int) + 1) = ((i + 1 : Nat) : Int) := by rw [w64 (by omega) (by omega)]; simp
    have hmi := hm _ (List.getElem_mem hi)
    obtain ⟨v, hv, hv2⟩ := szSS_ev xs[i] c h0 h1 hmi.1 hmi.2
    by_cases h : v < 0
    · refine ⟨-1, ev_succ ?_, .inl (by omega)⟩
      simp only [laws_szIntSSS.l0, e1]
      rw [rdL2 xs i hi]
      exact ev_ifp (by omega) (ev_ifp (by omega) (Ev.bind hv (ev_ifp h (Ev.now _))))
    · obtain ⟨g0, g1, g2⟩ := hv2.resolve_left h
      obtain ⟨u, hu, hu2⟩ := ih (i + 1) v g0 g1 (by omega) (fun j hj hj2 => by
        by_cases e : j = i
        · subst e; exact g2
        · exact hb j (by omega) hj2)
      refine ⟨u, ev_succ ?_, hu2⟩
      simp only [laws_szIntSSS.l0, e1]
      rw [rdL2 xs i hi]
      exact ev_ifp (by omega) (ev_ifp (by omega) (Ev.bind hv (ev_ifn h hu)))
theorem szSSS_ev (xs : List (List (List Int))) (hg : xs.length ≤ maxLen) (hm : ∀ x, x ∈ xs → x.length ≤ maxLen ∧ ∀ y, y ∈ x → y.length ≤ maxLen) : ∃ v, Ev (fun k => laws_szIntSSS.f k xs 1048576) v ∧ (v < 0 ∨ OkSSS xs) := by
  unfold maxLen at hg
  unfold laws_szIntSSS.f
  rw [w64 (by omega) (by omega)]
  by_cases h : (1048576 : Int) - (xs.length : Int) < 0
  · exact ⟨-1, ev_ifp h (Ev.now _), .inl (by omega)⟩
  · obtain ⟨v, hv, hv2⟩ := szSSS_loop xs (by omega) hm xs.length 0 (1048576 - (xs.length : Int)) (by omega) (by omega) (by omega) (fun j hj => by omega)
    exact ⟨v, ev_ifn h hv, hv2⟩
theorem toSS_loop (xs : List (List Int)) (ho : OkSS xs) (d : Nat) : ∀ (i : Nat) (ys : List (List Int)), ys.length = xs.length → i + d = xs.length → ys.take i = xs.take i → Ev (fun k => laws_toIntSS.l0 k xs ys (i : Int)) xs := by
  obtain ⟨hx, hin⟩ := ho
  induction d with
  | zero =>
    intro i ys hl hd ht
    apply ev_succ
    simp only [laws_toIntSS.l0]
    refine ev_ifn (by omega) ?_
    have e : ys = xs := by rw [← List.take_length (l := xs), ← show i = xs.length by omega, ← ht, List.take_of_length_le (by omega)]
    rw [e]
    exact Ev.now _
  | succ d ih =>
    intro i ys hl hd ht
    have hi : i < xs.length := by omega
    have hb := hin _ (List.getElem_mem hi)
    have e1 : wrap64 ((i : Int) + 1) = ((i + 1 : Nat) : Int) := by rw [w64 (by omega) (by omega)]; simp
    have := ih (i + 1) (ys.set i xs[i]) (by simpa using hl) (by omega) (by
      rw [List.take_succ_eq_append_getElem hi, List.take_succ_eq_append_getElem (by simpa using (by omega : i < ys.length)), List.getElem_set_self, List.take_set_of_le (by omega), ht])
    apply ev_succ
    simp only [laws_toIntSS.l0, e1]
    rw [rdL1 xs i hi]
    exact ev_ifp (by omega) (ev_ifp (by omega) (Ev.bind (toIntS_ev xs[i] (by omega)) (ev_ifp (by omega) (by simpa using this))))
theorem toSS_ev (xs : List (List Int)) (ho : OkSS xs) : Ev (fun k => laws_toIntSS.f k xs) xs := by
  have hx := ho.1
  unfold laws_toIntSS.f
  refine ev_ifp (by omega) (ev_ifp (by omega) ?_)
  exact toSS_loop xs ho xs.length 0 _ (by simp) (by omega) (by simp)
theorem toSSS_loop (xs : List (List (List Int))) (ho : OkSSS xs) (d : Nat) : ∀ (i : Nat) (ys : List (List (List Int))), ys.length = xs.length → i + d = xs.length → ys.take i = xs.take i → Ev (fun k => laws_toIntSSS.l0 k xs ys (i : Int)) xs := by
  obtain ⟨hx, hin⟩ := ho
  induction d with
  | zero =>
    intro i ys hl hd ht
    apply ev_succ
    simp only [laws_toIntSSS.l0]
    refine ev_ifn (by omega) ?_
    have e : ys = xs := by rw [← List.take_length (l := xs), ← show i = xs.length by omega, ← ht, List.take_of_length_le (by omega)]
    rw [e]
    exact Ev.now _
  | succ d ih =>
    intro i ys hl hd ht
    have hi : i < xs.length := by omega
    have hb := hin _ (List.getElem_mem hi)
    have e1 : wrap64 ((i : Int) + 1) = ((i + 1 : Nat) : Int) := by rw [w64 (by omega) (by omega)]; simp
    have := ih (i + 1) (ys.set i xs[i]) (by simpa using hl) (by omega) (by
      rw [List.take_succ_eq_append_getElem hi, List.take_succ_eq_append_getElem (by simpa using (by omega : i < ys.length)), List.getElem_set_self, List.take_set_of_le (by omega), ht])
    apply ev_succ
    simp only [laws_toIntSSS.l0, e1]
    rw [rdL2 xs i hi]
    exact ev_ifp (by omega) (ev_ifp (by omega) (Ev.bind (toSS_ev xs[i] hb) (ev_ifp (by omega) (by simpa using this))))
theorem toSSS_ev (xs : List (List (List Int))) (ho : OkSSS xs) : Ev (fun k => laws_toIntSSS.f k xs) xs := by
  have hx := ho.1
  unfold laws_toIntSSS.f
  refine ev_ifp (by omega) (ev_ifp (by omega) ?_)
  exact toSSS_loop xs ho xs.length 0 _ (by simp) (by omega) (by simp)
theorem eqSS_loop (xs : List (List Int)) (ho : OkSS xs) (d : Nat) : ∀ i : Nat, i + d = xs.length → Ev (fun k => laws_eqIntSS.l0 k xs xs (i : Int)) true := by
  obtain ⟨hx, hin⟩ := ho
  induction d with
  | zero =>
    intro i hd
    apply ev_succ
    simp only [laws_eqIntSS.l0]
    exact ev_ifn (by omega) (Ev.now _)
  | succ d ih =>
    intro i hd
    have hi : i < xs.length := by omega
    have hb := hin _ (List.getElem_mem hi)
    have e1 : wrap64 ((i : Int) + 1) = ((i + 1 : Nat) : Int) := by rw [w64 (by omega) (by omega)]; simp
    apply ev_succ
    simp only [laws_eqIntSS.l0, e1]
    rw [rdL1 xs i hi]
    exact ev_ifp (by omega) (ev_ifp (by omega) (ev_ifp (by omega) (Ev.bind (eqIntS_ev xs[i] (by omega)) (ev_ifp rfl (ih (i + 1) (by omega))))))
theorem eqSS_ev (xs : List (List Int)) (ho : OkSS xs) : Ev (fun k => laws_eqIntSS.f k xs xs) true := by
  unfold laws_eqIntSS.f
  exact ev_ifp rfl (eqSS_loop xs ho xs.length 0 (by omega))
theorem eqSSS_loop (xs : List (List (List Int))) (ho : OkSSS xs) (d : Nat) : ∀ i : Nat, i + d = xs.length → Ev (fun k => laws_eqIntSSS.l0 k xs xs (i : Int)) true := by
  obtain ⟨hx, hin⟩ := ho
  induction d with
  | zero =>
    intro i hd
    apply ev_succ
    simp only [laws_eqIntSSS.l0]
    exact ev_ifn (by omega) (Ev.now _)
  | succ d ih =>
    intro i hd
    have hi : i < xs.length := by omega
    have hb := hin _ (List.getElem_mem hi)
    have e1 : wrap64 ((i : Int) + 1) = ((i + 1 : Nat) : Int) := by rw [w64 (by omega) (by omega)]; simp
    apply ev_succ
    simp only [laws_eqIntSSS.l0, e1]
    rw [rdL2 xs i hi]
    exact ev_ifp (by omega) (ev_ifp (by omega) (ev_ifp (by omega) (Ev.bind (eqSS_ev xs[i] hb) (ev_ifp rfl (ih (i + 1) (by omega))))))
theorem eqSSS_ev (xs : List (List (List Int))) (ho : OkSSS xs) : Ev (fun k => laws_eqIntSSS.f k xs xs) true := by
  unfold laws_eqIntSSS.f
  exact ev_ifp rfl (eqSSS_loop xs ho xs.length 0 (by omega))
/-- the two bodies' memory of who sits already: a list of numbers, a row of Bools -/
def Rel (n : Int) (s : List Int) (b : List Bool) : Prop := (b.length : Int) = n ∧ ∀ v : Int, 0 ≤ v → v < n → (rdOf false b v = true ↔ v ∈ s)
theorem rdOf_set (b : List Bool) (p v : Int) (hp : 0 ≤ p) (hp2 : p < b.length) (hv : 0 ≤ v) (hv2 : v < b.length) : rdOf false (b.set p.toNat true) v = true ↔ (v = p ∨ rdOf false b v = true) := by
  unfold rdOf
  by_cases h : v = p
  · subst h
    have : v.toNat < b.length := by omega
    simp [List.getD_eq_getElem?_getD, this]
  · have : p.toNat ≠ v.toNat := by omega
    simp [List.getD_eq_getElem?_getD, List.getElem?_set_ne this, h]
theorem rel_new (n : Int) (h : 0 ≤ n) : Rel n [] (List.replicate n.toNat false) := by
  refine ⟨by simp; omega, fun v h0 h1 => ?_⟩
  have : v.toNat < n.toNat := by omega
  simp [rdOf, List.getD_eq_getElem?_getD, this]
theorem rel_step (n : Int) (s : List Int) (b : List Bool) (p q : Int) (h : Rel n s b) (hp : 0 ≤ p ∧ p < n) (hq : 0 ≤ q ∧ q < n) : Rel n (s ++ [p, q]) ((b.set p.toNat true).set q.toNat true) := by
  obtain ⟨h1, h2⟩ := h
  refine ⟨by simpa using h1, fun v h0 h3 => ?_⟩
  rw [rdOf_set _ q v hq.1 (by rw [List.length_set]; omega) h0 (by rw [List.length_set]; omega), rdOf_set b p v hp.1 (by omega) h0 (by omega), h2 v h0 h3]
  simp only [List.mem_append, List.mem_cons, List.not_mem_nil, or_false]
  constructor
  · rintro (h | h | h)
    · exact .inr (.inr h)
    · exact .inr (.inl h)
    · exact .inl h
  · rintro (h | h | h)
    · exact .inr (.inr h)
    · exact .inr (.inl h)
    · exact .inl h
theorem sq_bound (n : Int) (h : 2 ≤ n ∧ n ≤ 20) : n * n ≤ 400 ∧ 4 ≤ n * n := by
  have h1 : n * n ≤ 20 * 20 := Int.mul_le_mul h.2 h.2 (by omega) (by omega)
  have h2 : 2 * 2 ≤ n * n := Int.mul_le_mul h.1 h.1 (by omega) (by omega)
  omega
theorem at_bound (n a b : Int) (h : 2 ≤ n ∧ n ≤ 20) (ha : 0 ≤ a ∧ a < n) (hb : 0 ≤ b ∧ b < n) : 0 ≤ a * n ∧ a * n ≤ 400 ∧ a * n + b < n * n := by
  have h1 : a * n ≤ (n - 1) * n := Int.mul_le_mul_of_nonneg_right (by omega) (by omega)
  have h2 : (n - 1) * n = n * n - n := by rw [Int.sub_mul, Int.one_mul]
  have h3 : 0 ≤ a * n := Int.mul_nonneg ha.1 (by omega)
  have := sq_bound n h
  omega
theorem pairs_l3 (n : Int) (h : 2 ≤ n ∧ n ≤ 20) (m : List Int) (hm : (m.length : Int) = n * n) (a : Nat) (ha : (a : Int) < n) (R : ∃ r, Ev (fun k => spec_MeetOnce.l2 k n m ((a + 1 : Nat) : Int)) r ∧ Ev (fun k => impl_MeetOnce.l2 k n m n ((a + 1 : Nat) : Int)) r) (d : Nat) :
    ∀ b : Nat, (b : Int) + d = n → ∃ r, Ev (fun k => spec_MeetOnce.l3 k n m (a : Int) (b : Int)) r ∧ Ev (fun k => impl_MeetOnce.l3 k n m (a : Int) (b : Int) n (a : Int)) r := by
  have e1 : wrap64 ((a : Int) + 1) = ((a + 1 : Nat) : Int) := by rw [w64 (by omega) (by omega)]; simp
  induction d with
  | zero =>
    intro b hb
    obtain ⟨r, h1, h2⟩ := R
    refine ⟨r, ev_succ ?_, ev_succ ?_⟩
    · simp only [spec_MeetOnce.l3, e1]
      exact ev_ifn (by omega) h1
    · simp only [impl_MeetOnce.l3, e1]
      exact ev_ifn (by omega) h2
  | succ d ih =>
    intro b hb
    have e2 : wrap64 ((b : Int) + 1) = ((b + 1 : Nat) : Int) := by rw [w64 (by omega) (by omega)]; simp
    have hab := at_bound n a b h (by omega) (by omega)
    have w1 : wrap64 ((a : Int) * n) = (a : Int) * n := w64 (by omega) (by omega)
    have w2 : wrap64 ((a : Int) * n + (b : Int)) = (a : Int) * n + (b : Int) := w64 (by omega) (by omega)
    by_cases hr : rd m ((a : Int) * n + (b : Int)) = 1
    · obtain ⟨r, h1, h2⟩ := ih (b + 1) (by omega)
      refine ⟨r, ev_succ ?_, ev_succ ?_⟩
      · simp only [spec_MeetOnce.l3, e2, w1, w2]
        exact ev_ifp (by omega) (ev_ifp (by omega) (ev_ifp (by omega) (ev_ifp hr h1)))
      · simp only [impl_MeetOnce.l3, e2, w1, w2]
        exact ev_ifp (by omega) (ev_ifp (by omega) (ev_ifp (by omega) (ev_ifp hr h2)))
    · refine ⟨false, ev_succ ?_, ev_succ ?_⟩
      · simp only [spec_MeetOnce.l3, e2, w1, w2]
        exact ev_ifp (by omega) (ev_ifp (by omega) (ev_ifp (by omega) (ev_ifn hr (Ev.now _))))
      · simp only [impl_MeetOnce.l3, e2, w1, w2]
        exact ev_ifp (by omega) (ev_ifp (by omega) (ev_ifp (by omega) (ev_ifn hr (Ev.now _))))
theorem pairs_l2 (n : Int) (h : 2 ≤ n ∧ n ≤ 20) (m : List Int) (hm : (m.length : Int) = n * n) (d : Nat) :
    ∀ a : Nat, (a : Int) + d = n → ∃ r, Ev (fun k => spec_MeetOnce.l2 k n m (a : Int)) r ∧ Ev (fun k => impl_MeetOnce.l2 k n m n (a : Int)) r := by
  induction d with
  | zero =>
    intro a ha
    refine ⟨true, ev_succ ?_, ev_succ ?_⟩
    · simp only [spec_MeetOnce.l2]
      exact ev_ifn (by omega) (Ev.now _)
    · simp only [impl_MeetOnce.l2]
      exact ev_ifn (by omega) (Ev.now _)
  | succ d ih =>
    intro a ha
    have e1 : wrap64 ((a : Int) + 1) = ((a + 1 : Nat) : Int) := by rw [w64 (by omega) (by omega)]; simp
    obtain ⟨r, h1, h2⟩ := pairs_l3 n h m hm a (by omega) (ih (a + 1) (by omega)) (n - ((a + 1 : Nat) : Int)).toNat (a + 1) (by omega)
    refine ⟨r, ev_succ ?_, ev_succ ?_⟩
    · simp only [spec_MeetOnce.l2, e1]
      exact ev_ifp (by omega) h1
    · simp only [impl_MeetOnce.l2, e1]
      exact ev_ifp (by omega) h2
theorem meet_l1 (R : List (List (List Int))) (hR : OkSSS R) (n : Int) (h : 2 ≤ n ∧ n ≤ 20) (i : Nat) (hi : i < R.length) (NX : ∀ m : List Int, (m.length : Int) = n * n → ∃ r, Ev (fun k => spec_MeetOnce.l0 k R n m ((i + 1 : Nat) : Int)) r ∧ Ev (fun k => impl_MeetOnce.l0 k n m R (R.length : Int) ((i + 1 : Nat) : Int)) r) (d : Nat) :
    ∀ (j : Nat) (m s : List Int) (b : List Bool), j + d = (rd_L2 R (i : Int)).length → (m.length : Int) = n * n → Rel n s b → s.length ≤ 2 * j →
      ∃ r, Ev (fun k => spec_MeetOnce.l1 k R n m (i : Int) s (j : Int)) r ∧ Ev (fun k => impl_MeetOnce.l1 k n m b R (R.length : Int) (i : Int) (rd_L2 R (i : Int)) ((rd_L2 R (i : Int)).length : Int) (j : Int)) r := by
  have hlen := hR.1
  have hRi := hR.2 _ (List.getElem_mem hi)
  rw [← rdL2 R i hi] at hRi
  have hli := hRi.1
  have ei : wrap64 ((i : Int) + 1) = ((i + 1 : Nat) : Int) := by rw [w64 (by omega) (by omega)]; simp
  induction d with
  | zero =>
    intro j m s b hj hm hr hs
    obtain ⟨r, h1, h2⟩ := NX m hm
    refine ⟨r, ev_succ ?_, ev_succ ?_⟩
    · simp only [spec_MeetOnce.l1, ei]
      exact ev_ifp (by omega) (ev_ifp (by omega) (ev_ifn (by omega) h1))
    · simp only [impl_MeetOnce.l1, ei]
      exact ev_ifn (by omega) h2
  | succ d ih =>
    intro j m s b hj hm hr hs
    have ej : wrap64 ((j : Int) + 1) = ((j + 1 : Nat) : Int) := by rw [w64 (by omega) (by omega)]; simp
    have en : wrap64 (n - 1) = n - 1 := w64 (by omega) (by omega)
    have bad : ∀ (m s p : List Int) (v : Bool), v = true → Ev (fun k => spec_MeetOnce.j2 k R n m (i : Int) s (j : Int) p v) false := by
      intro m s p v hv
      apply ev_succ
      simp only [spec_MeetOnce.j2, hv, if_true]
      exact Ev.now _
    have good := fun (m' s' : List Int) (b' : List Bool) (h1 : (m'.length : Int) = n * n) (h2 : Rel n s' b') (h3 : s'.length ≤ 2 * (j + 1)) => ih (j + 1) m' s' b' (by omega) h1 h2 h3
    have key : ∃ r, Ev (fun k => spec_MeetOnce.l1 (k + 1) R n m (i : Int) s (j : Int)) r ∧ Ev (fun k => impl_MeetOnce.l1 (k + 1) n m b R (R.length : Int) (i : Int) (rd_L2 R (i : Int)) ((rd_L2 R (i : Int)).length : Int) (j : Int)) r := by
      simp only [spec_MeetOnce.l1, impl_MeetOnce.l1, spec_l1In_eq, impl_InRange_eq, Option.bind_some, ej, en]
      generalize hp : rd_L1 (rd_L2 R (i : Int)) (j : Int) = p
      generalize rd_L2 R (i : Int) = Ri at hj good hli ⊢
      by_cases c1 : (p.length : Int) = 2
      · by_cases c2 : 0 ≤ rd p 0 ∧ rd p 0 ≤ n - 1
        · by_cases c3 : 0 ≤ rd p 1 ∧ rd p 1 ≤ n - 1
          · by_cases c4 : rd p 0 = rd p 1
            · refine ⟨false, ?_, ?_⟩
              · exact ev_ifp (by omega) (ev_ifp (by omega) (ev_ifp (by omega) (ev_ifp (by omega) (ev_ifp c1 (ev_ifp (by omega) (ev_ifp (decide_eq_true c2) (ev_ifp (by omega) (ev_ifp (decide_eq_true c3) (ev_ifp c4 (bad _ _ _ _ rfl))))))))))
              · exact ev_ifp (by omega) (ev_ifp (by omega) (ev_ifp (by omega) (ev_ifp c1 (ev_ifp (by omega) (ev_ifp (decide_eq_true c2) (ev_ifp (by omega) (ev_ifp (decide_eq_true c3) (ev_ifp c4 (Ev.now _)))))))))
            · have hs0 := l4Has_ev s (rd p 0) (by omega)
              have hs1 := l4Has_ev s (rd p 1) (by omega)
              have r0 := hr.2 (rd p 0) (by omega) (by omega)
              have r1 := hr.2 (rd p 1) (by omega) (by omega)
              have hbl := hr.1
              by_cases c5 : rd p 0 ∈ s
              · refine ⟨false, ?_, ?_⟩
                · exact ev_ifp (by omega) (ev_ifp (by omega) (ev_ifp (by omega) (ev_ifp (by omega) (ev_ifp c1 (ev_ifp (by omega) (ev_ifp (decide_eq_true c2) (ev_ifp (by omega) (ev_ifp (decide_eq_true c3) (ev_ifn c4 (Ev.bind hs0 (ev_ifp (decide_eq_true c5) (bad _ _ _ _ rfl))))))))))))
                · exact ev_ifp (by omega) (ev_ifp (by omega) (ev_ifp (by omega) (ev_ifp c1 (ev_ifp (by omega) (ev_ifp (decide_eq_true c2) (ev_ifp (by omega) (ev_ifp (decide_eq_true c3) (ev_ifn c4 (ev_ifp (by omega) (ev_ifp (by omega) (ev_ifp (r0.mpr c5) (Ev.now _))))))))))))
              · by_cases c6 : rd p 1 ∈ s
                · refine ⟨false, ?_, ?_⟩
                  · exact ev_ifp (by omega) (ev_ifp (by omega) (ev_ifp (by omega) (ev_ifp (by omega) (ev_ifp c1 (ev_ifp (by omega) (ev_ifp (decide_eq_true c2) (ev_ifp (by omega) (ev_ifp (decide_eq_true c3) (ev_ifn c4 (Ev.bind hs0 (ev_ifn (by simpa using c5) (Ev.bind hs1 (bad _ _ _ _ (decide_eq_true c6))))))))))))))
                  · exact ev_ifp (by omega) (ev_ifp (by omega) (ev_ifp (by omega) (ev_ifp c1 (ev_ifp (by omega) (ev_ifp (decide_eq_true c2) (ev_ifp (by omega) (ev_ifp (decide_eq_true c3) (ev_ifn c4 (ev_ifp (by omega) (ev_ifp (by omega) (ev_ifn (fun e => c5 (r0.mp e)) (ev_ifp (by omega) (ev_ifp (by omega) (ev_ifp (r1.mpr c6) (Ev.now _)))))))))))))))
                · have hmn : 0 ≤ min (rd p 0) (rd p 1) ∧ min (rd p 0) (rd p 1) < n := by omega
                  have hmx : 0 ≤ max (rd p 0) (rd p 1) ∧ max (rd p 0) (rd p 1) < n := by omega
                  have hab := at_bound n _ _ h hmn hmx
                  have hsq := sq_bound n h
                  have w1 : wrap64 (min (rd p 0) (rd p 1) * n) = min (rd p 0) (rd p 1) * n := w64 (by omega) (by omega)
                  have w2 : wrap64 (min (rd p 0) (rd p 1) * n + max (rd p 0) (rd p 1)) = min (rd p 0) (rd p 1) * n + max (rd p 0) (rd p 1) := w64 (by omega) (by omega)
                  obtain ⟨r, g1, g2⟩ := good (m.set (min (rd p 0) (rd p 1) * n + max (rd p 0) (rd p 1)).toNat (wrap64 (rd m (min (rd p 0) (rd p 1) * n + max (rd p 0) (rd p 1)) + 1))) (s ++ [rd p 0, rd p 1]) ((b.set (rd p 0).toNat true).set (rd p 1).toNat true) (by rw [List.length_set]; exact hm) (rel_step n s b _ _ hr (by omega) (by omega)) (by simp; omega)
                  refine ⟨r, ?_, ?_⟩
                  · refine ev_ifp (by omega) (ev_ifp (by omega) (ev_ifp (by omega) (ev_ifp (by omega) (ev_ifp c1 (ev_ifp (by omega) (ev_ifp (decide_eq_true c2) (ev_ifp (by omega) (ev_ifp (decide_eq_true c3) (ev_ifn c4 (Ev.bind hs0 (ev_ifn (by simpa using c5) (Ev.bind hs1 ?_))))))))))))
                    apply ev_succ
                    simp only [spec_MeetOnce.j2, spec_Min_eq, spec_Max_eq, Option.bind_some, ej, w1, w2]
                    exact ev_ifn (by simpa using c6) (ev_ifp (by omega) (ev_ifp (by omega) (ev_ifp (by simp; omega) (ev_ifp (by omega) (ev_ifp (by omega) g1)))))
                  · rw [mn_eq, mx_eq]
                    simp only [w1, w2]
                    exact ev_ifp (by omega) (ev_ifp (by omega) (ev_ifp (by omega) (ev_ifp c1 (ev_ifp (by omega) (ev_ifp (decide_eq_true c2) (ev_ifp (by omega) (ev_ifp (decide_eq_true c3) (ev_ifn c4 (ev_ifp (by omega) (ev_ifp (by omega) (ev_ifn (fun e => c5 (r0.mp e)) (ev_ifp (by omega) (ev_ifp (by omega) (ev_ifn (fun e => c6 (r1.mp e)) (ev_ifp (by omega) (ev_ifp (by omega) g2))))))))))))))))
          · refine ⟨false, ?_, ?_⟩
            · exact ev_ifp (by omega) (ev_ifp (by omega) (ev_ifp (by omega) (ev_ifp (by omega) (ev_ifp c1 (ev_ifp (by omega) (ev_ifp (decide_eq_true c2) (ev_ifp (by omega) (ev_ifn (by simpa using c3) (bad _ _ _ _ rfl)))))))))
            · exact ev_ifp (by omega) (ev_ifp (by omega) (ev_ifp (by omega) (ev_ifp c1 (ev_ifp (by omega) (ev_ifp (decide_eq_true c2) (ev_ifp (by omega) (ev_ifn (by simpa using c3) (Ev.now _))))))))
        · refine ⟨false, ?_, ?_⟩
          · exact ev_ifp (by omega) (ev_ifp (by omega) (ev_ifp (by omega) (ev_ifp (by omega) (ev_ifp c1 (ev_ifp (by omega) (ev_ifn (by simpa using c2) (bad _ _ _ _ rfl)))))))
          · exact ev_ifp (by omega) (ev_ifp (by omega) (ev_ifp (by omega) (ev_ifp c1 (ev_ifp (by omega) (ev_ifn (by simpa using c2) (Ev.now _))))))
      · refine ⟨false, ?_, ?_⟩
        · exact ev_ifp (by omega) (ev_ifp (by omega) (ev_ifp (by omega) (ev_ifp (by omega) (ev_ifn c1 (bad _ _ _ _ rfl)))))
        · exact ev_ifp (by omega) (ev_ifp (by omega) (ev_ifp (by omega) (ev_ifn c1 (Ev.now _))))
    obtain ⟨r, h1, h2⟩ := key
    exact ⟨r, ev_succ h1, ev_succ h2⟩
theorem meet_l0 (R : List (List (List Int))) (hR : OkSSS R) (n : Int) (h : 2 ≤ n ∧ n ≤ 20) (d : Nat) :
    ∀ (i : Nat) (m : List Int), i + d = R.length → (m.length : Int) = n * n → ∃ r, Ev (fun k => spec_MeetOnce.l0 k R n m (i : Int)) r ∧ Ev (fun k => impl_MeetOnce.l0 k n m R (R.length : Int) (i : Int)) r := by
  have hlen := hR.1
  induction d with
  | zero =>
    intro i m hi hm
    obtain ⟨r, h1, h2⟩ := pairs_l2 n h m hm n.toNat 0 (by omega)
    refine ⟨r, ev_succ ?_, ev_succ ?_⟩
    · simp only [spec_MeetOnce.l0]
      exact ev_ifn (by omega) h1
    · simp only [impl_MeetOnce.l0]
      exact ev_ifn (by omega) h2
  | succ d ih =>
    intro i m hi hm
    obtain ⟨r, h1, h2⟩ := meet_l1 R hR n h i (by omega) (fun m' hm' => ih (i + 1) m' (by omega) hm') (rd_L2 R (i : Int)).length 0 m [] (List.replicate n.toNat false) (by omega) hm (rel_new n (by omega)) (by simp)
    refine ⟨r, ev_succ ?_, ev_succ ?_⟩
    · simp only [spec_MeetOnce.l0]
      exact ev_ifp (by omega) h1
    · simp only [impl_MeetOnce.l0]
      exact ev_ifp (by omega) (ev_ifp (by omega) (ev_ifp (by omega) (ev_ifp (by omega) (ev_ifp (by omega) h2))))
theorem meet_both (R : List (List (List Int))) (hR : OkSSS R) (n : Int) (hn : -9223372036854775808 ≤ n ∧ n ≤ 9223372036854775807) : ∃ r, Ev (fun k => spec_MeetOnce.f k R n) r ∧ Ev (fun k => impl_MeetOnce.f k R n) r := by
  unfold spec_MeetOnce.f impl_MeetOnce.f
  simp only [spec_l1In_eq, impl_InRange_eq, Option.bind_some]
  by_cases h : 2 ≤ n ∧ n ≤ 20
  · have hsq := sq_bound n h
    have w1 : wrap64 (n * n) = n * n := w64 (by omega) (by omega)
    obtain ⟨r, h1, h2⟩ := meet_l0 R hR n h R.length 0 (List.replicate (n * n).toNat 0) (by omega) (by simp; omega)
    rw [w1]
    exact ⟨r, ev_ifp (decide_eq_true h) (ev_ifp (by omega) (ev_ifp (by omega) h1)), ev_ifp (decide_eq_true h) (ev_ifp (by omega) (ev_ifp (by omega) h2))⟩
  · exact ⟨false, ev_ifn (by simpa using h) (Ev.now _), ev_ifn (by simpa using h) (Ev.now _)⟩
theorem FnExactMeetOnce : laws_FnExactMeetOnce.Pure := by
  intro l n hg hn
  have hw := wf64 hn
  apply Ev.rounds
  unfold laws_FnExactMeetOnce.f
  obtain ⟨v, hv, hv2⟩ := szSSS_ev l hg.1 (fun x hx => ⟨(hg.2 x hx).1, fun y hy => ((hg.2 x hx).2 y hy).1⟩)
  refine Ev.bind hv ?_
  by_cases h : v < 0
  · exact ev_ifp h (Ev.now _)
  · have ho := hv2.resolve_left h
    obtain ⟨r, hs, hi⟩ := meet_both l ho n hw
    have ht := toSSS_ev l ho
    exact ev_ifn h (Ev.bind ht (Ev.bind hs (Ev.bind ht (Ev.bind hi (ev_ifn (by simp) (Ev.bind ht (Ev.bind (eqSSS_ev l ho) (ev_ifp rfl (Ev.now _)))))))))

end Go.Proofs.Ytfcidjlnokhkjaa.Pure
