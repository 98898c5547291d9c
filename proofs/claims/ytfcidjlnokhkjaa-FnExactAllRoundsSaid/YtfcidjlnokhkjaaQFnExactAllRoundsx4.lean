-- LAWGEN: by hand and by wip/lawgen.py, by this session. Lean checks it.
import Derived.Test.YtfcidjlnokhkjaaQFnExactAllRoundsx0
import Derived.Test.YtfcidjlnokhkjaaQFnExactAllRoundsx1
import Derived.Test.YtfcidjlnokhkjaaQFnExactAllRoundsx2
import Derived.Test.YtfcidjlnokhkjaaQFnExactAllRoundsx3
namespace Go.Proofs.Ytfcidjlnokhkjaa.QFnExactAllRounds
open Go.RowKit Go.Proofs.YtfcidjlnokhkjaaW.PrintWords Go.Proofs.YtfcidjlnokhkjaaW.PrintLast Go.Proofs.YtfcidjlnokhkjaaW.PrintMore
attribute [local go_sem] max2_int min2_int max_two min_two max_three min_three max_four min_four   -- for this text's walks alone
set_option linter.unusedVariables false
set_option linter.unusedSimpArgs false

theorem size_drewN_ {n : Nat} {w : World} (h : n ≤ w.heap.size) (m : Nat) : n ≤ (w.drewN m).heap.size := h
theorem R_iv {α : Type} {d : Kd α} {e b n : Nat} {W W' : World} {v : Value} {xs : List α} (h : Kd.R d e W' W.heap.size (fun _ => True) v xs ∧ W.heap.size ≤ W'.heap.size) (hb : b ≤ W.heap.size) (hn : n ≤ W.heap.size) : ∃ m, n ≤ m ∧ m ≤ W'.heap.size ∧ Kd.R d e W' b (fun k => n ≤ k ∧ k < m) v xs :=
  ⟨W'.heap.size, Nat.le_trans hn h.2, Nat.le_refl _, Kd.R_lower (Kd.R_mono (Kd.R_bound h.1) (fun k hk => ⟨Nat.le_trans hn hk.2.1, hk.2.2.1⟩)) hb⟩
theorem S_iv {α : Type} {d : Kd α} {e b n : Nat} {W W' : World} {v : Value} {xs : List α} (h : Kd.S d e W' W.heap.size (fun _ => True) v xs ∧ W.heap.size ≤ W'.heap.size) (hb : b ≤ W.heap.size) (hn : n ≤ W.heap.size) : ∃ m, n ≤ m ∧ m ≤ W'.heap.size ∧ Kd.S d e W' b (fun k => n ≤ k ∧ k < m) v xs :=
  ⟨W'.heap.size, Nat.le_trans hn h.2, Nat.le_refl _, Kd.S_lower (Kd.S_mono (Kd.S_bound h.1) (fun k hk => ⟨Nat.le_trans hn hk.2.1, hk.2.2.1⟩)) hb⟩
/-! ### laws_markIntSS: function 39, by hand: a row of rows, each written by markIntS -/
def laws_markIntSS.l0 : Nat → List (List Int) → Int → Int → Option (Int × List (List Int))
  | 0, _, _, _ => none
  | k + 1, x0, x1, x5 => if x5 < (x0.length : Int) then (if 0 ≤ x5 then ((laws_markIntS.f k (rd_L1 x0 x5) x1).bind fun bt => (laws_markIntSS.l0 k (x0.set (x5 : Int).toNat bt.2) bt.1 (wrap64 (x5 + 1)))) else (none)) else (some (x1, x0))
def laws_markIntSS.f (k : Nat) (l0 : List (List Int)) (a1 : Int) : Option (Int × List (List Int)) := laws_markIntSS.l0 k l0 a1 0
theorem laws_markIntSS.mono_l : ∀ k, (∀ y0 y1 y2, LeO (laws_markIntSS.l0 k y0 y1 y2) (laws_markIntSS.l0 (k + 1) y0 y1 y2))
  | 0 => fun _ _ _ r h => by simp [laws_markIntSS.l0] at h
  | k + 1 => by
    have ih0 := laws_markIntSS.mono_l k
    · intro y0 y1 y2
      unfold laws_markIntSS.l0
      repeat' first
      | (with_reducible exact ih0 _ _ _)
      | (with_reducible exact laws_markIntS.mono _ _ _)
      | (with_reducible exact LeO.refl _)
      | (with_reducible exact LeO.none _)
      | (with_reducible refine LeO.ite ?_ ?_)
      | (with_reducible refine LeO.bind ?_ (fun _ => ?_))
      | exact ih0 _ _ _
      | exact laws_markIntS.mono _ _ _
      | exact LeO.none _
      | refine LeO.ite ?_ ?_
      | refine LeO.bind ?_ (fun _ => ?_)
theorem laws_markIntSS.mono : ∀ a0 a1 k, LeO (laws_markIntSS.f k a0 a1) (laws_markIntSS.f (k + 1) a0 a1) := by
  intro a0 a1 k
  have ih0 := laws_markIntSS.mono_l k
  unfold laws_markIntSS.f
  exact ih0 _ _ _
/-- An element of a row of rows, lent: its own row, and what comes back of it. -/
theorem elem_SS {W : World} {base : Nat} {ok : Nat → Prop} {g n cap : Nat} {xs : List (List Int)} (h : Kd.S (Kd.slice 3 (Kd.int .i64)) 45 W base ok (.slice (some ⟨g, 0, none⟩) n cap) xs) (i : Int) (h0 : 0 ≤ i) (h1 : i < n) :
    ∃ (oki : Nat → Prop) (v : Value), Kd.R (Kd.int .i64) 3 W base oki v (rd_L1 xs i) ∧ W.cell? ⟨g, (i : Int).toNat, none⟩ = some v ∧ (∀ k, oki k → ok k) ∧
      ∀ (w1 : World) (x' : List Int), Kept W w1 oki → Kd.R (Kd.int .i64) 3 w1 base oki v x' → Kd.S (Kd.slice 3 (Kd.int .i64)) 45 w1 base ok (.slice (some ⟨g, 0, none⟩) n cap) (xs.set (i : Int).toNat x') := by
  obtain ⟨oki, c, hcl, hM, hcc, hoki, hH⟩ := Kd.S_lend h ([] : List Int) i h0 h1
  obtain ⟨v, rfl, hR⟩ := hM
  refine ⟨oki, v, hR, ?_, fun k hk => (hoki k hk).1, fun w1 x' hk hR1 => Kd.H_back (Kd.H_step hH (fun k _ hno hlt => hk.2 k hlt hno)) (x' := x') (okp := oki) ⟨v, rfl, hR1⟩ (fun _ h => h)⟩
  have := hcc 0 v rfl
  have e : (i : Int).toNat * (Kd.slice 3 (Kd.int .i64)).sz + 0 = (i : Int).toNat := by show (i : Int).toNat * 1 + 0 = _; omega
  rw [e] at this
  exact this
set_option maxHeartbeats 8000000 in
set_option maxRecDepth 100000 in
theorem laws_markIntSS.calls (k : Nat) (P0_ : Nat → Prop) (u9_ : Value) (l0 : List (List Int)) (a1 : Int) (r1 : Int) (r2 : List (List Int)) (w0 w : World) (hB : Below w0.heap.size w0 w) (ho0 : Kd.S (Kd.slice 3 (Kd.int .i64)) 45 w w0.heap.size P0_ u9_ l0) (h : laws_markIntSS.f k l0 a1 = some (r1, r2)) :
    Calls Try.prog 39 #[u9_, .int .i64 a1] w fun e w' => e = .returned (.int .i64 r1) ∧ Kd.S (Kd.slice 3 (Kd.int .i64)) 45 w' w0.heap.size P0_ u9_ r2 ∧ Below w0.heap.size w0 w' ∧ Kept w w' P0_ := by
  obtain ⟨A0, c0, e0⟩ := Kd.S_slice ho0
  subst e0
  have HS := Aside0.mk ho0
  have HB := Aside0.mk hB
  have HKP := Aside0.mk (Kept.refl w P0_)
  clear ho0 hB
  have H : (laws_markIntSS.l0 k l0 a1 0) = some (r1, r2) := h
  clear h
  have H' := Aside0.mk H
  clear H
  go_enter Try.func39, Try.ntmps39
  go_wp2
  go_loopg [1, 5] k (fun kq v1 v5 w' => ∃ (l' : List (List Int)) (x1_1 : Int) (x5_1 : Int), v1 = .int .i64 x1_1 ∧ v5 = .int .i64 x5_1 ∧ Aside0 (laws_markIntSS.l0 kq l' x1_1 x5_1 = some (r1, r2)) ∧ Aside0 (kq ≤ k) ∧ Aside0 (Kd.S (Kd.slice 3 (Kd.int .i64)) 45 w' w0.heap.size P0_ (.slice A0 l0.length c0) l') ∧ Aside0 (Below w0.heap.size w0 w') ∧ Aside0 (Kept w w' P0_))
  case atStart => exact ⟨l0, a1, 0, (by first | rfl | (simp; done) | (simp [*]; done)), (by first | rfl | (simp; done) | (simp [*]; done)), H', ⟨Nat.le_refl _⟩, HS, HB, HKP⟩
  case round =>
    clear H' HS HB HKP
    try clear p2
    obtain ⟨l', x1_1, x5_1, rfl, rfl, HA, HK1, HS, HB, HKP⟩ := hrel
    cases gk with
    | zero => exact absurd HA.out (by simp [laws_markIntSS.l0])
    | succ k1 =>
      have H := HA.out
      clear HA
      simp only [laws_markIntSS.l0] at H
      have hlen : l0.length = l'.length := (Kd.S_reads' HS.out).1
      rw [← hlen] at H
      clear hlen
      by_cases c3 : x5_1 < (l0.length : Int)
      · rw [if_pos c3] at H
        have c3b0 : decide (x5_1 < (l0.length : Int)) = true := decide_eq_true c3
        by_cases c4 : 0 ≤ x5_1
        · rw [if_pos c4] at H
          have c4b0 : decide (0 ≤ x5_1) = true := decide_eq_true c4
          replace H := Option.bind_eq_some_iff.mp H
          obtain ⟨⟨t1, t2⟩, A50, H⟩ := H
          replace H : (laws_markIntSS.l0 k1 (l'.set (x5_1 : Int).toNat t2) t1 (wrap64 (x5_1 + 1))) = some (r1, r2) := H
          have A5 := Aside0.mk A50
          clear A50
          have H' := Aside0.mk H
          clear H
          obtain ⟨ad, _, _, e156, _⟩ := at_L1 (Kd.S_reads' HS.out).2.2 x5_1 c4 (by rw [← (Kd.S_reads' HS.out).1]; exact c3)
          cases e156
          obtain ⟨g, eg⟩ := Kd.R_head (Kd.S_R HS.out)
          subst eg
          obtain ⟨oki, v, hR, hx156_0, hok, hback⟩ := elem_SS HS.out x5_1 c4 c3
          have HR := Aside0.mk hR
          have HOK := Aside0.mk hok
          have HBK := Aside0.mk hback
          clear hR hok hback HS
          have p156 := eq_true c4
          have q156 := eq_true c3
          clear c3 c4
          go_wp2_with (first | ((with_reducible refine gate_callee (f := 48) rfl ?_); refine goesL_ (some 17) rfl rfl Try.func48 (by kernel_rfl) rfl #[v, .int .i64 x1_1] rfl (by (try simp only [List.map_toArray, List.map_cons, List.map_nil]); first | done | rfl) ?_; (refine (laws_markIntS.calls k1 oki v (rd_L1 l' x5_1) x1_1 t1 t2 w0 _ HB.out HR.out A5.out).mono ?_); rintro e w2 ⟨rfl, hy0, hb, hkp⟩; refine ⟨_, rfl, ?_⟩; have n0_ := Aside0.mk (HBK.out w2 t2 hkp (Kd.R_reok rfl hy0 (fun k_ e_ => HR.out.1 k_ e_))); have n1_ := Aside0.mk hb; have n2_ := Aside0.mk (HKP.out.then_ hkp (fun k_ hk_ => .inl (HOK.out k_ hk_))); clear HB HKP HBK; have HS := n0_; have HB := n1_; have HKP := n2_; clear n0_ n1_ n2_ hy0 hb hkp))
          go_roundg k1
          case measure => have := HK1.out; omega
          case rel => exact ⟨l'.set (x5_1 : Int).toNat t2, t1, (wrap64 (x5_1 + 1)), (by first | rfl | (simp; done) | (simp [*]; done)), (by first | rfl | (simp; done) | (simp [*]; done)), H', ⟨by have := HK1.out; omega⟩, HS, HB, HKP⟩
        · rw [if_neg c4] at H
          exact absurd H (by simp)
      · rw [if_neg c3] at H
        have c3b0 : decide (x5_1 < (l0.length : Int)) = false := decide_eq_false c3
        clear c3
        have H2 := Option.some.inj H
        obtain ⟨e1, e2⟩ := Prod.mk.inj H2
        subst e1 e2
        go_wp2
        go_ret
        exact ⟨by first | rfl | (simp; done) | (simp [*]; done), HS.out, HB.out, HKP.out⟩
/-! ### laws_markIntSSS: function 53, by hand: a row of rows of rows, each written by markIntSS -/
def laws_markIntSSS.l0 : Nat → List (List (List Int)) → Int → Int → Option (Int × List (List (List Int)))
  | 0, _, _, _ => none
  | k + 1, x0, x1, x5 => if x5 < (x0.length : Int) then (if 0 ≤ x5 then ((laws_markIntSS.f k (rd_L2 x0 x5) x1).bind fun bt => (laws_markIntSSS.l0 k (x0.set (x5 : Int).toNat bt.2) bt.1 (wrap64 (x5 + 1)))) else (none)) else (some (x1, x0))
def laws_markIntSSS.f (k : Nat) (l0 : List (List (List Int))) (a1 : Int) : Option (Int × List (List (List Int))) := laws_markIntSSS.l0 k l0 a1 0
theorem laws_markIntSSS.mono_l : ∀ k, (∀ y0 y1 y2, LeO (laws_markIntSSS.l0 k y0 y1 y2) (laws_markIntSSS.l0 (k + 1) y0 y1 y2))
  | 0 => fun _ _ _ r h => by simp [laws_markIntSSS.l0] at h
  | k + 1 => by
    have ih0 := laws_markIntSSS.mono_l k
    · intro y0 y1 y2
      unfold laws_markIntSSS.l0
      repeat' first
      | (with_reducible exact ih0 _ _ _)
      | (with_reducible exact laws_markIntSS.mono _ _ _)
      | (with_reducible exact LeO.refl _)
      | (with_reducible exact LeO.none _)
      | (with_reducible refine LeO.ite ?_ ?_)
      | (with_reducible refine LeO.bind ?_ (fun _ => ?_))
      | exact ih0 _ _ _
      | exact laws_markIntSS.mono _ _ _
      | exact LeO.none _
      | refine LeO.ite ?_ ?_
      | refine LeO.bind ?_ (fun _ => ?_)
theorem laws_markIntSSS.mono : ∀ a0 a1 k, LeO (laws_markIntSSS.f k a0 a1) (laws_markIntSSS.f (k + 1) a0 a1) := by
  intro a0 a1 k
  have ih0 := laws_markIntSSS.mono_l k
  unfold laws_markIntSSS.f
  exact ih0 _ _ _
/-- An element of a row of rows of rows, lent: its own row, and what comes back of it. -/
theorem elem_SSS {W : World} {base : Nat} {ok : Nat → Prop} {g n cap : Nat} {xs : List (List (List Int))} (h : Kd.S kRS 49 W base ok (.slice (some ⟨g, 0, none⟩) n cap) xs) (i : Int) (h0 : 0 ≤ i) (h1 : i < n) :
    ∃ (oki : Nat → Prop) (v : Value), Kd.S (Kd.slice 3 (Kd.int .i64)) 45 W base oki v (rd_L2 xs i) ∧ W.cell? ⟨g, (i : Int).toNat, none⟩ = some v ∧ (∀ k, oki k → ok k) ∧
      ∀ (w1 : World) (x' : List (List Int)), Kept W w1 oki → Kd.S (Kd.slice 3 (Kd.int .i64)) 45 w1 base oki v x' → Kd.S kRS 49 w1 base ok (.slice (some ⟨g, 0, none⟩) n cap) (xs.set (i : Int).toNat x') := by
  obtain ⟨oki, c, hcl, hM, hcc, hoki, hH⟩ := Kd.S_lend h ([] : List (List Int)) i h0 h1
  obtain ⟨v, rfl, hR⟩ := hM
  refine ⟨oki, v, hR, ?_, fun k hk => (hoki k hk).1, fun w1 x' hk hR1 => Kd.H_back (Kd.H_step hH (fun k _ hno hlt => hk.2 k hlt hno)) (x' := x') (okp := oki) ⟨v, rfl, hR1⟩ (fun _ h => h)⟩
  have := hcc 0 v rfl
  have e : (i : Int).toNat * kRS.sz + 0 = (i : Int).toNat := by show (i : Int).toNat * 1 + 0 = _; omega
  rw [e] at this
  exact this
set_option maxHeartbeats 8000000 in
set_option maxRecDepth 100000 in
theorem laws_markIntSSS.calls (k : Nat) (P0_ : Nat → Prop) (u9_ : Value) (l0 : List (List (List Int))) (a1 : Int) (r1 : Int) (r2 : List (List (List Int))) (w0 w : World) (hB : Below w0.heap.size w0 w) (ho0 : Kd.S kRS 49 w w0.heap.size P0_ u9_ l0) (h : laws_markIntSSS.f k l0 a1 = some (r1, r2)) :
    Calls Try.prog 53 #[u9_, .int .i64 a1] w fun e w' => e = .returned (.int .i64 r1) ∧ Kd.S kRS 49 w' w0.heap.size P0_ u9_ r2 ∧ Below w0.heap.size w0 w' ∧ Kept w w' P0_ := by
  obtain ⟨A0, c0, e0⟩ := Kd.S_slice ho0
  subst e0
  have HS := Aside0.mk ho0
  have HB := Aside0.mk hB
  have HKP := Aside0.mk (Kept.refl w P0_)
  clear ho0 hB
  have H : (laws_markIntSSS.l0 k l0 a1 0) = some (r1, r2) := h
  clear h
  have H' := Aside0.mk H
  clear H
  go_enter Try.func53, Try.ntmps53
  go_wp2
  go_loopg [1, 5] k (fun kq v1 v5 w' => ∃ (l' : List (List (List Int))) (x1_1 : Int) (x5_1 : Int), v1 = .int .i64 x1_1 ∧ v5 = .int .i64 x5_1 ∧ Aside0 (laws_markIntSSS.l0 kq l' x1_1 x5_1 = some (r1, r2)) ∧ Aside0 (kq ≤ k) ∧ Aside0 (Kd.S kRS 49 w' w0.heap.size P0_ (.slice A0 l0.length c0) l') ∧ Aside0 (Below w0.heap.size w0 w') ∧ Aside0 (Kept w w' P0_))
  case atStart => exact ⟨l0, a1, 0, (by first | rfl | (simp; done) | (simp [*]; done)), (by first | rfl | (simp; done) | (simp [*]; done)), H', ⟨Nat.le_refl _⟩, HS, HB, HKP⟩
  case round =>
    clear H' HS HB HKP
    try clear p2
    obtain ⟨l', x1_1, x5_1, rfl, rfl, HA, HK1, HS, HB, HKP⟩ := hrel
    cases gk with
    | zero => exact absurd HA.out (by simp [laws_markIntSSS.l0])
    | succ k1 =>
      have H := HA.out
      clear HA
      simp only [laws_markIntSSS.l0] at H
      have hlen : l0.length = l'.length := (Kd.S_reads' HS.out).1
      rw [← hlen] at H
      clear hlen
      by_cases c3 : x5_1 < (l0.length : Int)
      · rw [if_pos c3] at H
        have c3b0 : decide (x5_1 < (l0.length : Int)) = true := decide_eq_true c3
        by_cases c4 : 0 ≤ x5_1
        · rw [if_pos c4] at H
          have c4b0 : decide (0 ≤ x5_1) = true := decide_eq_true c4
          replace H := Option.bind_eq_some_iff.mp H
          obtain ⟨⟨t1, t2⟩, A50, H⟩ := H
          replace H : (laws_markIntSSS.l0 k1 (l'.set (x5_1 : Int).toNat t2) t1 (wrap64 (x5_1 + 1))) = some (r1, r2) := H
          have A5 := Aside0.mk A50
          clear A50
          have H' := Aside0.mk H
          clear H
          obtain ⟨ad, _, _, e156, _⟩ := at_L2 (Kd.S_reads' HS.out).2.2 x5_1 c4 (by rw [← (Kd.S_reads' HS.out).1]; exact c3)
          cases e156
          obtain ⟨g, eg⟩ := Kd.R_head (Kd.S_R HS.out)
          subst eg
          obtain ⟨oki, v, hR, hx156_0, hok, hback⟩ := elem_SSS HS.out x5_1 c4 c3
          have HR := Aside0.mk hR
          have HOK := Aside0.mk hok
          have HBK := Aside0.mk hback
          clear hR hok hback HS
          have p156 := eq_true c4
          have q156 := eq_true c3
          clear c3 c4
          go_wp2_with (first | ((with_reducible refine gate_callee (f := 39) rfl ?_); refine goesL_ (some 17) rfl rfl Try.func39 (by kernel_rfl) rfl #[v, .int .i64 x1_1] rfl (by (try simp only [List.map_toArray, List.map_cons, List.map_nil]); first | done | rfl) ?_; (refine (laws_markIntSS.calls k1 oki v (rd_L2 l' x5_1) x1_1 t1 t2 w0 _ HB.out HR.out A5.out).mono ?_); rintro e w2 ⟨rfl, hy0, hb, hkp⟩; refine ⟨_, rfl, ?_⟩; have n0_ := Aside0.mk (HBK.out w2 t2 hkp hy0); have n1_ := Aside0.mk hb; have n2_ := Aside0.mk (HKP.out.then_ hkp (fun k_ hk_ => .inl (HOK.out k_ hk_))); clear HB HKP HBK; have HS := n0_; have HB := n1_; have HKP := n2_; clear n0_ n1_ n2_ hy0 hb hkp))
          go_roundg k1
          case measure => have := HK1.out; omega
          case rel => exact ⟨l'.set (x5_1 : Int).toNat t2, t1, (wrap64 (x5_1 + 1)), (by first | rfl | (simp; done) | (simp [*]; done)), (by first | rfl | (simp; done) | (simp [*]; done)), H', ⟨by have := HK1.out; omega⟩, HS, HB, HKP⟩
        · rw [if_neg c4] at H
          exact absurd H (by simp)
      · rw [if_neg c3] at H
        have c3b0 : decide (x5_1 < (l0.length : Int)) = false := decide_eq_false c3
        clear c3
        have H2 := Option.some.inj H
        obtain ⟨e1, e2⟩ := Prod.mk.inj H2
        subst e1 e2
        go_wp2
        go_ret
        exact ⟨by first | rfl | (simp; done) | (simp [*]; done), HS.out, HB.out, HKP.out⟩
/-! ### laws_FnExactAllRounds: function 12, laid by lawgen.py -/
def laws_FnExactAllRounds.f (k : Nat) (a0 : Int) : Option (Bool) := (spec_AllRounds.f k a0).bind fun t1 => ((impl_AllRounds.f k a0).bind fun t2 => ((laws_eqIntSSS.f k t2 t1).bind fun b3 => (if b3 = true then ((laws_markIntSSS.f k t2 1).bind fun bt4 => ((laws_heldIntSSS.f k bt4.2 1).bind fun t5 => (if t5 < 0 then (some false) else (if t5 = bt4.1 then ((impl_AllRounds.f k a0).bind fun t6 => ((laws_eqIntSSS.f k t6 t1).bind fun b7 => (if b7 = true then ((laws_heldIntSSS.f k bt4.2 1).bind fun t8 => (if t8 < 0 then (some false) else (if t8 = bt4.1 then (some true) else (some false)))) else (some false)))) else (some false))))) else (some false))))
theorem laws_FnExactAllRounds.mono : ∀ a0 k, LeO (laws_FnExactAllRounds.f k a0) (laws_FnExactAllRounds.f (k + 1) a0) := by
  intro a0 k
  unfold laws_FnExactAllRounds.f
  repeat' first
      | (with_reducible exact spec_AllRounds.mono _ _)
      | (with_reducible exact impl_AllRounds.mono _ _)
      | (with_reducible exact laws_eqIntSSS.mono _ _ _)
      | (with_reducible exact laws_markIntSSS.mono _ _ _)
      | (with_reducible exact laws_heldIntSSS.mono _ _ _)
      | (with_reducible exact LeO.refl _)
      | (with_reducible exact LeO.none _)
      | (with_reducible refine LeO.ite ?_ ?_)
      | (with_reducible refine LeO.bind ?_ (fun _ => ?_))
      | exact spec_AllRounds.mono _ _
      | exact impl_AllRounds.mono _ _
      | exact laws_eqIntSSS.mono _ _ _
      | exact laws_markIntSSS.mono _ _ _
      | exact laws_heldIntSSS.mono _ _ _
      | exact LeO.none _
      | refine LeO.ite ?_ ?_
      | refine LeO.bind ?_ (fun _ => ?_)
set_option maxHeartbeats 8000000 in
set_option maxRecDepth 100000 in
theorem laws_FnExactAllRounds.calls (k : Nat) (a0 : Int) (r : Bool) (w : World)  (hr_ : r = true) (h : laws_FnExactAllRounds.f k a0 = some r) :
    Calls Try.prog 12 #[.int .i64 a0] w fun e w' => e = .returned (.bool r) ∧ Below w.heap.size w w' := by
  subst hr_
  unfold laws_FnExactAllRounds.f at h
  have HB := Aside0.mk (Below.refl w.heap.size w)
  have HN := Aside0.mk (Nat.le_refl w.heap.size)
  replace h := Option.bind_eq_some_iff.mp h
  obtain ⟨t1, A_10, h⟩ := h
  have A_1 := Aside0.mk A_10
  clear A_10
  replace h := Option.bind_eq_some_iff.mp h
  obtain ⟨t2, A_20, h⟩ := h
  have A_2 := Aside0.mk A_20
  clear A_20
  replace h := Option.bind_eq_some_iff.mp h
  obtain ⟨b3, A_30, h⟩ := h
  have A_3 := Aside0.mk A_30
  clear A_30
  cases hb3 : b3 with
  | false => rw [hb3] at h; exact absurd h (by simp)
  | true =>
  rw [if_pos hb3] at h
  subst hb3
  replace h := Option.bind_eq_some_iff.mp h
  obtain ⟨⟨t4_1, t4_2⟩, A_40, h⟩ := h
  have A_4 := Aside0.mk A_40
  clear A_40
  replace h := Option.bind_eq_some_iff.mp h
  obtain ⟨t5, A_50, h⟩ := h
  have A_5 := Aside0.mk A_50
  clear A_50
  by_cases cc1 : t5 < 0
  case pos => rw [if_pos cc1] at h; exact absurd h (by simp)
  rw [if_neg cc1] at h
  have cc1b0 : decide (t5 < 0) = false := decide_eq_false cc1
  clear cc1
  by_cases cc2 : t5 = t4_1
  case neg => rw [if_neg cc2] at h; exact absurd h (by simp)
  rw [if_pos cc2] at h
  have cc2b1 : (t5 != t4_1) = false := bne_eq_false_iff_eq.mpr cc2
  have cc2b2 : (t5 == t4_1) = true := beq_iff_eq.mpr cc2
  clear cc2
  replace h := Option.bind_eq_some_iff.mp h
  obtain ⟨t6, A_60, h⟩ := h
  have A_6 := Aside0.mk A_60
  clear A_60
  replace h := Option.bind_eq_some_iff.mp h
  obtain ⟨b7, A_70, h⟩ := h
  have A_7 := Aside0.mk A_70
  clear A_70
  cases hb7 : b7 with
  | false => rw [hb7] at h; exact absurd h (by simp)
  | true =>
  rw [if_pos hb7] at h
  subst hb7
  replace h := Option.bind_eq_some_iff.mp h
  obtain ⟨t8, A_80, h⟩ := h
  have A_8 := Aside0.mk A_80
  clear A_80
  by_cases cc4 : t8 < 0
  case pos => rw [if_pos cc4] at h; exact absurd h (by simp)
  rw [if_neg cc4] at h
  have cc4b0 : decide (t8 < 0) = false := decide_eq_false cc4
  clear cc4
  by_cases cc5 : t8 = t4_1
  case neg => rw [if_neg cc5] at h; exact absurd h (by simp)
  rw [if_pos cc5] at h
  have cc5b1 : (t8 != t4_1) = false := bne_eq_false_iff_eq.mpr cc5
  have cc5b2 : (t8 == t4_1) = true := beq_iff_eq.mpr cc5
  clear cc5
  clear h
  go_enter Try.func12, Try.ntmps12
  go_wp2_with (first
      | ((with_reducible refine gate_callee (f := 50) rfl ?_); refine goesL_ (some 9) rfl rfl Try.func50 (by kernel_rfl) rfl #[.int .i64 a0] rfl (by (try simp only [List.map_toArray, List.map_cons, List.map_nil]); first | done | rfl) ?_; (refine (spec_AllRounds.calls k a0 t1 _ A_1.out).mono ?_); rintro e w_1 ⟨v_1, rfl, ho0, hb⟩; refine ⟨_, rfl, ?_⟩; obtain ⟨n_1, o1_, o2_, o3_⟩ := S_iv ⟨ho0, hb.size⟩ (below_size HB.out) HN.out; have O_1 := Aside0.mk o1_; have n_B := Aside0.mk (below_step HB.out hb); clear  HB HN ho0 hb o1_; have HB := n_B; have HN := Aside0.mk o2_; have H_x1 := Aside0.mk o3_; clear  n_B o2_ o3_; obtain ⟨Ao_x1, co_x1, eo_⟩ := Kd.S_slice H_x1.out; subst eo_)
      | ((with_reducible refine gate_callee (f := 51) rfl ?_); refine goesL_ (some 11) rfl rfl Try.func51 (by kernel_rfl) rfl #[.int .i64 a0] rfl (by (try simp only [List.map_toArray, List.map_cons, List.map_nil]); first | done | rfl) ?_; (refine (impl_AllRounds.calls k a0 t2 _ A_2.out).mono ?_); rintro e w_2 ⟨v_2, rfl, ho0, hb⟩; refine ⟨_, rfl, ?_⟩; have n_x1 := Aside0.mk (Kd.S_below H_x1.out hb); obtain ⟨n_2, o1_, o2_, o3_⟩ := S_iv ⟨ho0, hb.size⟩ (below_size HB.out) HN.out; have O_2 := Aside0.mk o1_; have n_B := Aside0.mk (below_step HB.out hb); clear H_x1 HB HN ho0 hb o1_; have H_x1 := n_x1; have HB := n_B; have HN := Aside0.mk o2_; have H_x2 := Aside0.mk o3_; clear n_x1 n_B o2_ o3_; obtain ⟨Ao_x2, co_x2, eo_⟩ := Kd.S_slice H_x2.out; subst eo_)
      | ((with_reducible refine gate_callee (f := 52) rfl ?_); refine goesL_ (some 14) rfl rfl Try.func52 (by kernel_rfl) rfl #[.slice Ao_x2 t2.length co_x2, .slice Ao_x1 t1.length co_x1] rfl (by (try simp only [List.map_toArray, List.map_cons, List.map_nil]); first | done | rfl) ?_; (refine (laws_eqIntSSS.calls k _ _ t2 _ _ t1 true _ (Kd.S_reads' H_x2.out).2.2 (by have h_ := Kd.S_reads' H_x2.out; omega) (Kd.S_reads' H_x1.out).2.2 (by have h_ := Kd.S_reads' H_x1.out; omega) A_3.out).mono ?_); rintro e w' ⟨rfl, ⟨nd, rfl⟩⟩; refine ⟨_, rfl, ?_⟩; have n_x1 := Aside0.mk (Kd.S_drewN H_x1.out nd); have n_x2 := Aside0.mk (Kd.S_drewN H_x2.out nd); have n_B := Aside0.mk (pw_below_drewN HB.out nd); have n_N := Aside0.mk (size_drewN_ HN.out nd); clear H_x1 H_x2 HB HN; have H_x1 := n_x1; have H_x2 := n_x2; have HB := n_B; have HN := n_N; clear n_x1 n_x2 n_B n_N; generalize World.drewN _ nd = w_3 at H_x1 H_x2 HB HN ⊢)
      | ((with_reducible refine gate_callee (f := 53) rfl ?_); refine goesL_ (some 18) rfl rfl Try.func53 (by kernel_rfl) rfl #[.slice Ao_x2 t2.length co_x2, .int .i64 1] rfl (by (try simp only [List.map_toArray, List.map_cons, List.map_nil]); first | done | rfl) ?_; (refine (laws_markIntSSS.calls k (fun k_ => n_1 ≤ k_ ∧ k_ < n_2) (.slice Ao_x2 t2.length co_x2) t2 1 t4_1 t4_2 w _ HB.out H_x2.out A_4.out).mono ?_); rintro e w_4 ⟨rfl, hS, hb, hkp⟩; refine ⟨_, rfl, ?_⟩; have n_x1 := Aside0.mk (Kd.S_kept H_x1.out hkp (fun k_ h_ h2_ => by have := O_1.out; have := O_2.out; omega)); have n_x2 := Aside0.mk hS; have HL_x2 := Aside0.mk (Kd.S_reads' n_x2.out).1; have n_N := Aside0.mk (Nat.le_trans HN.out hkp.1); have n_B := Aside0.mk hb; clear H_x1 H_x2 HB HN hS hb hkp; have H_x1 := n_x1; have H_x2 := n_x2; have HB := n_B; have HN := n_N; clear n_x1 n_x2 n_B n_N)
      | ((with_reducible refine gate_callee (f := 54) rfl ?_); refine goesL_ (some 21) rfl rfl Try.func54 (by kernel_rfl) rfl #[.slice Ao_x2 t4_2.length co_x2, .int .i64 1] rfl (by rw [← HL_x2.out]; (try simp only [List.map_toArray, List.map_cons, List.map_nil]); first | done | rfl) ?_; (refine (laws_heldIntSSS.calls k _ _ t4_2 1 t5 _ (Kd.S_reads' H_x2.out).2.2 (by have h_ := Kd.S_reads' H_x2.out; omega) A_5.out).mono ?_); rintro e w' ⟨rfl, ⟨nd, rfl⟩⟩; refine ⟨_, rfl, ?_⟩; have n_x1 := Aside0.mk (Kd.S_drewN H_x1.out nd); have n_x2 := Aside0.mk (Kd.S_drewN H_x2.out nd); have n_B := Aside0.mk (pw_below_drewN HB.out nd); have n_N := Aside0.mk (size_drewN_ HN.out nd); clear H_x1 H_x2 HB HN; have H_x1 := n_x1; have H_x2 := n_x2; have HB := n_B; have HN := n_N; clear n_x1 n_x2 n_B n_N; generalize World.drewN _ nd = w_5 at H_x1 H_x2 HB HN ⊢)
      | ((with_reducible refine gate_callee (f := 51) rfl ?_); refine goesL_ (some 28) rfl rfl Try.func51 (by kernel_rfl) rfl #[.int .i64 a0] rfl (by (try simp only [List.map_toArray, List.map_cons, List.map_nil]); first | done | rfl) ?_; (refine (impl_AllRounds.calls k a0 t6 _ A_6.out).mono ?_); rintro e w_6 ⟨v_6, rfl, ho0, hb⟩; refine ⟨_, rfl, ?_⟩; have n_x1 := Aside0.mk (Kd.S_below H_x1.out hb); have n_x2 := Aside0.mk (Kd.S_below H_x2.out hb); obtain ⟨n_6, o1_, o2_, o3_⟩ := S_iv ⟨ho0, hb.size⟩ (below_size HB.out) HN.out; have O_6 := Aside0.mk o1_; have n_B := Aside0.mk (below_step HB.out hb); clear H_x1 H_x2 HB HN ho0 hb o1_; have H_x1 := n_x1; have H_x2 := n_x2; have HB := n_B; have HN := Aside0.mk o2_; have H_x6 := Aside0.mk o3_; clear n_x1 n_x2 n_B o2_ o3_; obtain ⟨Ao_x6, co_x6, eo_⟩ := Kd.S_slice H_x6.out; subst eo_)
      | ((with_reducible refine gate_callee (f := 52) rfl ?_); refine goesL_ (some 31) rfl rfl Try.func52 (by kernel_rfl) rfl #[.slice Ao_x6 t6.length co_x6, .slice Ao_x1 t1.length co_x1] rfl (by (try simp only [List.map_toArray, List.map_cons, List.map_nil]); first | done | rfl) ?_; (refine (laws_eqIntSSS.calls k _ _ t6 _ _ t1 true _ (Kd.S_reads' H_x6.out).2.2 (by have h_ := Kd.S_reads' H_x6.out; omega) (Kd.S_reads' H_x1.out).2.2 (by have h_ := Kd.S_reads' H_x1.out; omega) A_7.out).mono ?_); rintro e w' ⟨rfl, ⟨nd, rfl⟩⟩; refine ⟨_, rfl, ?_⟩; have n_x1 := Aside0.mk (Kd.S_drewN H_x1.out nd); have n_x2 := Aside0.mk (Kd.S_drewN H_x2.out nd); have n_x6 := Aside0.mk (Kd.S_drewN H_x6.out nd); have n_B := Aside0.mk (pw_below_drewN HB.out nd); have n_N := Aside0.mk (size_drewN_ HN.out nd); clear H_x1 H_x2 H_x6 HB HN; have H_x1 := n_x1; have H_x2 := n_x2; have H_x6 := n_x6; have HB := n_B; have HN := n_N; clear n_x1 n_x2 n_x6 n_B n_N; generalize World.drewN _ nd = w_7 at H_x1 H_x2 H_x6 HB HN ⊢)
      | ((with_reducible refine gate_callee (f := 54) rfl ?_); refine goesL_ (some 35) rfl rfl Try.func54 (by kernel_rfl) rfl #[.slice Ao_x2 t4_2.length co_x2, .int .i64 1] rfl (by rw [← HL_x2.out]; (try simp only [List.map_toArray, List.map_cons, List.map_nil]); first | done | rfl) ?_; (refine (laws_heldIntSSS.calls k _ _ t4_2 1 t8 _ (Kd.S_reads' H_x2.out).2.2 (by have h_ := Kd.S_reads' H_x2.out; omega) A_8.out).mono ?_); rintro e w' ⟨rfl, ⟨nd, rfl⟩⟩; refine ⟨_, rfl, ?_⟩; have n_x1 := Aside0.mk (Kd.S_drewN H_x1.out nd); have n_x2 := Aside0.mk (Kd.S_drewN H_x2.out nd); have n_x6 := Aside0.mk (Kd.S_drewN H_x6.out nd); have n_B := Aside0.mk (pw_below_drewN HB.out nd); have n_N := Aside0.mk (size_drewN_ HN.out nd); clear H_x1 H_x2 H_x6 HB HN; have H_x1 := n_x1; have H_x2 := n_x2; have H_x6 := n_x6; have HB := n_B; have HN := n_N; clear n_x1 n_x2 n_x6 n_B n_N; generalize World.drewN _ nd = w_8 at H_x1 H_x2 H_x6 HB HN ⊢))
  go_ret
  exact ⟨by first | rfl | (simp; done) | (simp [*]; done), HB.out⟩
end Go.Proofs.Ytfcidjlnokhkjaa.QFnExactAllRounds
