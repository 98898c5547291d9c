-- LAWGEN: by hand and by wip/lawgen.py, by this session. Lean checks it.
import Derived.Test.YtfcidjlnokhkjaaQFnExactRestOfx0
import Derived.Test.YtfcidjlnokhkjaaQFnExactRestOfx1
import Derived.Test.YtfcidjlnokhkjaaQFnExactRestOfx2
import Derived.Test.YtfcidjlnokhkjaaQFnExactRestOfx3
namespace Go.Proofs.Ytfcidjlnokhkjaa.QFnExactRestOf
open Go.RowKit Go.Proofs.YtfcidjlnokhkjaaW.PrintWords Go.Proofs.YtfcidjlnokhkjaaW.PrintLast Go.Proofs.YtfcidjlnokhkjaaW.PrintMore
attribute [local go_sem] max2_int min2_int max_two min_two max_three min_three max_four min_four   -- for this text's walks alone
set_option linter.unusedVariables false
set_option linter.unusedSimpArgs false

theorem size_drewN_ {n : Nat} {w : World} (h : n ≤ w.heap.size) (m : Nat) : n ≤ (w.drewN m).heap.size := h
theorem R_iv {α : Type} {d : Kd α} {e b n : Nat} {W W' : World} {v : Value} {xs : List α} (h : Kd.R d e W' W.heap.size (fun _ => True) v xs ∧ W.heap.size ≤ W'.heap.size) (hb : b ≤ W.heap.size) (hn : n ≤ W.heap.size) : ∃ m, n ≤ m ∧ m ≤ W'.heap.size ∧ Kd.R d e W' b (fun k => n ≤ k ∧ k < m) v xs :=
  ⟨W'.heap.size, Nat.le_trans hn h.2, Nat.le_refl _, Kd.R_lower (Kd.R_mono (Kd.R_bound h.1) (fun k hk => ⟨Nat.le_trans hn hk.2.1, hk.2.2.1⟩)) hb⟩
theorem S_iv {α : Type} {d : Kd α} {e b n : Nat} {W W' : World} {v : Value} {xs : List α} (h : Kd.S d e W' W.heap.size (fun _ => True) v xs ∧ W.heap.size ≤ W'.heap.size) (hb : b ≤ W.heap.size) (hn : n ≤ W.heap.size) : ∃ m, n ≤ m ∧ m ≤ W'.heap.size ∧ Kd.S d e W' b (fun k => n ≤ k ∧ k < m) v xs :=
  ⟨W'.heap.size, Nat.le_trans hn h.2, Nat.le_refl _, Kd.S_lower (Kd.S_mono (Kd.S_bound h.1) (fun k hk => ⟨Nat.le_trans hn hk.2.1, hk.2.2.1⟩)) hb⟩
/-! ### laws_markIntSS: function 39, by hand: a row of rows, each written by markIntS -/
def laws_markIntSS.l0 : Nat → List (List Int) → Int → Int → Option (Int × List (List Int))
  | 0, _, _, _ => none
  | k + 1, x0, x1, x5 => if x5 < (x0.length : Int) then (if 0 ≤ x5 then ((laws_markIntS.f k (rd_L1 x0 x5) x1).bind fun bt => (laws_markIntSS.l0 k (x0.set (x5 : Int).toNat bt.2) bt.1 (wrap64 (x5 + 1)))) else (none)) else (some (x1, x0))
def laws_markIntSS.f (k : Nat) (l0 : List (List Int)) (a1 : Int) : Option (Int × List (List Int)) := laws_markIntSS.l0 k l0 a1 0
theorem laws_markIntSS.mono_l : ∀ k, (∀ y0 y1 y2, LeO (laws_markIntSS.l0 k y0 y1 y2) (laws_markIntSS.l0 (k + 1) y0 y1 y2))
  | 0 => fun _ _ _ r h => by simp [laws_markIntSS.l0] at h
  | k + 1 => by
    have ih0 := laws_markIntSS.mono_l k
    · intro y0 y1 y2
      unfold laws_markIntSS.l0
      repeat' first
      | (with_reducible exact ih0 _ _ _)
      | (with_reducible exact laws_markIntS.mono _ _ _)
      | (with_reducible exact LeO.refl _)
      | (with_reducible exact LeO.none _)
      | (with_reducible refine LeO.ite ?_ ?_)
      | (with_reducible refine LeO.bind ?_ (fun _ => ?_))
      | exact ih0 _ _ _
      | exact laws_markIntS.mono _ _ _
      | exact LeO.none _
      | refine LeO.ite ?_ ?_
      | refine LeO.bind ?_ (fun _ => ?_)
theorem laws_markIntSS.mono : ∀ a0 a1 k, LeO (laws_markIntSS.f k a0 a1) (laws_markIntSS.f (k + 1) a0 a1) := by
  intro a0 a1 k
  have ih0 := laws_markIntSS.mono_l k
  unfold laws_markIntSS.f
  exact ih0 _ _ _
/-- An element of a row of rows, lent: its own row, and what comes back of it. -/
theorem elem_SS {W : World} {base : Nat} {ok : Nat → Prop} {g n cap : Nat} {xs : List (List Int)} (h : Kd.S (Kd.slice 3 (Kd.int .i64)) 45 W base ok (.slice (some ⟨g, 0, none⟩) n cap) xs) (i : Int) (h0 : 0 ≤ i) (h1 : i < n) :
    ∃ (oki : Nat → Prop) (v : Value), Kd.R (Kd.int .i64) 3 W base oki v (rd_L1 xs i) ∧ W.cell? ⟨g, (i : Int).toNat, none⟩ = some v ∧ (∀ k, oki k → ok k) ∧
      ∀ (w1 : World) (x' : List Int), Kept W w1 oki → Kd.R (Kd.int .i64) 3 w1 base oki v x' → Kd.S (Kd.slice 3 (Kd.int .i64)) 45 w1 base ok (.slice (some ⟨g, 0, none⟩) n cap) (xs.set (i : Int).toNat x') := by
  obtain ⟨oki, c, hcl, hM, hcc, hoki, hH⟩ := Kd.S_lend h ([] : List Int) i h0 h1
  obtain ⟨v, rfl, hR⟩ := hM
  refine ⟨oki, v, hR, ?_, fun k hk => (hoki k hk).1, fun w1 x' hk hR1 => Kd.H_back (Kd.H_step hH (fun k _ hno hlt => hk.2 k hlt hno)) (x' := x') (okp := oki) ⟨v, rfl, hR1⟩ (fun _ h => h)⟩
  have := hcc 0 v rfl
  have e : (i : Int).toNat * (Kd.slice 3 (Kd.int .i64)).sz + 0 = (i : Int).toNat := by show (i : Int).toNat * 1 + 0 = _; omega
  rw [e] at this
  exact this
set_option maxHeartbeats 8000000 in
set_option maxRecDepth 100000 in
theorem laws_markIntSS.calls (k : Nat) (P0_ : Nat → Prop) (u9_ : Value) (l0 : List (List Int)) (a1 : Int) (r1 : Int) (r2 : List (List Int)) (w0 w : World) (hB : Below w0.heap.size w0 w) (ho0 : Kd.S (Kd.slice 3 (Kd.int .i64)) 45 w w0.heap.size P0_ u9_ l0) (h : laws_markIntSS.f k l0 a1 = some (r1, r2)) :
    Calls Try.prog 39 #[u9_, .int .i64 a1] w fun e w' => e = .returned (.int .i64 r1) ∧ Kd.S (Kd.slice 3 (Kd.int .i64)) 45 w' w0.heap.size P0_ u9_ r2 ∧ Below w0.heap.size w0 w' ∧ Kept w w' P0_ := by
  obtain ⟨A0, c0, e0⟩ := Kd.S_slice ho0
  subst e0
  have HS := Aside0.mk ho0
  have HB := Aside0.mk hB
  have HKP := Aside0.mk (Kept.refl w P0_)
  clear ho0 hB
  have H : (laws_markIntSS.l0 k l0 a1 0) = some (r1, r2) := h
  clear h
  have H' := Aside0.mk H
  clear H
  go_enter Try.func39, Try.ntmps39
  go_wp2
  go_loopg [1, 5] k (fun kq v1 v5 w' => ∃ (l' : List (List Int)) (x1_1 : Int) (x5_1 : Int), v1 = .int .i64 x1_1 ∧ v5 = .int .i64 x5_1 ∧ Aside0 (laws_markIntSS.l0 kq l' x1_1 x5_1 = some (r1, r2)) ∧ Aside0 (kq ≤ k) ∧ Aside0 (Kd.S (Kd.slice 3 (Kd.int .i64)) 45 w' w0.heap.size P0_ (.slice A0 l0.length c0) l') ∧ Aside0 (Below w0.heap.size w0 w') ∧ Aside0 (Kept w w' P0_))
  case atStart => exact ⟨l0, a1, 0, (by first | rfl | (simp; done) | (simp [*]; done)), (by first | rfl | (simp; done) | (simp [*]; done)), H', ⟨Nat.le_refl _⟩, HS, HB, HKP⟩
  case round =>
    clear H' HS HB HKP
    try clear p2
    obtain ⟨l', x1_1, x5_1, rfl, rfl, HA, HK1, HS, HB, HKP⟩ := hrel
    cases gk with
    | zero => exact absurd HA.out (by simp [laws_markIntSS.l0])
    | succ k1 =>
      have H := HA.out
      clear HA
      simp only [laws_markIntSS.l0] at H
      have hlen : l0.length = l'.length := (Kd.S_reads' HS.out).1
      rw [← hlen] at H
      clear hlen
      by_cases c3 : x5_1 < (l0.length : Int)
      · rw [if_pos c3] at H
        have c3b0 : decide (x5_1 < (l0.length : Int)) = true := decide_eq_true c3
        by_cases c4 : 0 ≤ x5_1
        · rw [if_pos c4] at H
          have c4b0 : decide (0 ≤ x5_1) = true := decide_eq_true c4
          replace H := Option.bind_eq_some_iff.mp H
          obtain ⟨⟨t1, t2⟩, A50, H⟩ := H
          replace H : (laws_markIntSS.l0 k1 (l'.set (x5_1 : Int).toNat t2) t1 (wrap64 (x5_1 + 1))) = some (r1, r2) := H
          have A5 := Aside0.mk A50
          clear A50
          have H' := Aside0.mk H
          clear H
          obtain ⟨ad, _, _, e156, _⟩ := at_L1 (Kd.S_reads' HS.out).2.2 x5_1 c4 (by rw [← (Kd.S_reads' HS.out).1]; exact c3)
          cases e156
          obtain ⟨g, eg⟩ := Kd.R_head (Kd.S_R HS.out)
          subst eg
          obtain ⟨oki, v, hR, hx156_0, hok, hback⟩ := elem_SS HS.out x5_1 c4 c3
          have HR := Aside0.mk hR
          have HOK := Aside0.mk hok
          have HBK := Aside0.mk hback
          clear hR hok hback HS
          have p156 := eq_true c4
          have q156 := eq_true c3
          clear c3 c4
          go_wp2_with (first | ((with_reducible refine gate_callee (f := 48) rfl ?_); refine goesL_ (some 17) rfl rfl Try.func48 (by kernel_rfl) rfl #[v, .int .i64 x1_1] rfl (by (try simp only [List.map_toArray, List.map_cons, List.map_nil]); first | done | rfl) ?_; (refine (laws_markIntS.calls k1 oki v (rd_L1 l' x5_1) x1_1 t1 t2 w0 _ HB.out HR.out A5.out).mono ?_); rintro e w2 ⟨rfl, hy0, hb, hkp⟩; refine ⟨_, rfl, ?_⟩; have n0_ := Aside0.mk (HBK.out w2 t2 hkp (Kd.R_reok rfl hy0 (fun k_ e_ => HR.out.1 k_ e_))); have n1_ := Aside0.mk hb; have n2_ := Aside0.mk (HKP.out.then_ hkp (fun k_ hk_ => .inl (HOK.out k_ hk_))); clear HB HKP HBK; have HS := n0_; have HB := n1_; have HKP := n2_; clear n0_ n1_ n2_ hy0 hb hkp))
          go_roundg k1
          case measure => have := HK1.out; omega
          case rel => exact ⟨l'.set (x5_1 : Int).toNat t2, t1, (wrap64 (x5_1 + 1)), (by first | rfl | (simp; done) | (simp [*]; done)), (by first | rfl | (simp; done) | (simp [*]; done)), H', ⟨by have := HK1.out; omega⟩, HS, HB, HKP⟩
        · rw [if_neg c4] at H
          exact absurd H (by simp)
      · rw [if_neg c3] at H
        have c3b0 : decide (x5_1 < (l0.length : Int)) = false := decide_eq_false c3
        clear c3
        have H2 := Option.some.inj H
        obtain ⟨e1, e2⟩ := Prod.mk.inj H2
        subst e1 e2
        go_wp2
        go_ret
        exact ⟨by first | rfl | (simp; done) | (simp [*]; done), HS.out, HB.out, HKP.out⟩
/-! ### laws_FnExactRestOf: function 11, laid by lawgen.py -/
def laws_FnExactRestOf.f (k : Nat) (l0 : List (List (Int))) (a1 : Int) : Option (Bool) := (laws_szIntSS.f k l0 1048576).bind fun t1 => (if t1 < 0 then (some true) else ((laws_toIntSS.f k l0).bind fun t2 => ((spec_RestOf.f k t2 a1).bind fun t3 => ((laws_toIntSS.f k l0).bind fun t4 => ((impl_RestOf.f k t4 a1).bind fun t5 => ((laws_eqIntS.f k t5 t3).bind fun b6 => (if b6 = true then ((laws_toIntSS.f k l0).bind fun t7 => ((laws_eqIntSS.f k t4 t7).bind fun b8 => (if b8 = true then ((laws_markIntSS.f k t4 1).bind fun bt9 => ((laws_eqIntS.f k t5 t3).bind fun b10 => (if bt9.1 < 0 then (some false) else (if b10 = true then ((laws_markIntS.f k t5 1).bind fun bt11 => ((laws_heldIntS.f k bt11.2 1).bind fun t12 => (if t12 < 0 then (some false) else (if t12 = bt11.1 then ((laws_toIntSS.f k l0).bind fun t13 => ((impl_RestOf.f k t13 a1).bind fun t14 => ((laws_eqIntS.f k t14 t3).bind fun b15 => (if b15 = true then ((laws_heldIntS.f k bt11.2 1).bind fun t16 => (if t16 < 0 then (some false) else (if t16 = bt11.1 then (some true) else (some false)))) else (some false))))) else (some false))))) else (some false))))) else (some false)))) else (some false))))))))
theorem laws_FnExactRestOf.mono : ∀ l0 a1 k, LeO (laws_FnExactRestOf.f k l0 a1) (laws_FnExactRestOf.f (k + 1) l0 a1) := by
  intro l0 a1 k
  unfold laws_FnExactRestOf.f
  repeat' first
      | (with_reducible exact laws_szIntSS.mono _ _ _)
      | (with_reducible exact laws_toIntSS.mono _ _)
      | (with_reducible exact spec_RestOf.mono _ _ _)
      | (with_reducible exact impl_RestOf.mono _ _ _)
      | (with_reducible exact laws_eqIntS.mono _ _ _)
      | (with_reducible exact laws_eqIntSS.mono _ _ _)
      | (with_reducible exact laws_markIntSS.mono _ _ _)
      | (with_reducible exact laws_markIntS.mono _ _ _)
      | (with_reducible exact laws_heldIntS.mono _ _ _)
      | (with_reducible exact LeO.refl _)
      | (with_reducible exact LeO.none _)
      | (with_reducible refine LeO.ite ?_ ?_)
      | (with_reducible refine LeO.bind ?_ (fun _ => ?_))
      | exact laws_szIntSS.mono _ _ _
      | exact laws_toIntSS.mono _ _
      | exact spec_RestOf.mono _ _ _
      | exact impl_RestOf.mono _ _ _
      | exact laws_eqIntS.mono _ _ _
      | exact laws_eqIntSS.mono _ _ _
      | exact laws_markIntSS.mono _ _ _
      | exact laws_markIntS.mono _ _ _
      | exact laws_heldIntS.mono _ _ _
      | exact LeO.none _
      | refine LeO.ite ?_ ?_
      | refine LeO.bind ?_ (fun _ => ?_)
set_option maxHeartbeats 8000000 in
set_option maxRecDepth 100000 in
theorem laws_FnExactRestOf.calls (k : Nat) (A0 : Option Addr) (c0 : Nat) (l0 : List (List (Int))) (a1 : Int) (r : Bool) (w : World) (hr0 : Kd.C (Kd.slice 3 (Kd.int .i64)) w A0 l0.length l0) (hc0 : l0.length ≤ c0) (hr_ : r = true) (h : laws_FnExactRestOf.f k l0 a1 = some r) :
    Calls Try.prog 11 #[.slice A0 l0.length c0, .int .i64 a1] w fun e w' => e = .returned (.bool r) ∧ Below w.heap.size w w' := by
  subst hr_
  unfold laws_FnExactRestOf.f at h
  have HR0 := Aside0.mk hr0
  have HC0 := Aside0.mk hc0
  clear hr0 hc0
  have HB := Aside0.mk (Below.refl w.heap.size w)
  have HN := Aside0.mk (Nat.le_refl w.heap.size)
  replace h := Option.bind_eq_some_iff.mp h
  obtain ⟨t1, A_10, h⟩ := h
  have A_1 := Aside0.mk A_10
  clear A_10
  by_cases cc0 : t1 < 0
  case pos =>
    clear h
    have cc0b0 : decide (t1 < 0) = true := decide_eq_true cc0
    clear cc0
    go_enter Try.func11, Try.ntmps11
    go_wp2_with (first
        | ((with_reducible refine gate_callee (f := 43) rfl ?_); refine goesL_ (some 15) rfl rfl Try.func43 (by kernel_rfl) rfl #[.slice A0 l0.length c0, .int .i64 1048576] rfl (by (try simp only [List.map_toArray, List.map_cons, List.map_nil]); first | done | rfl) ?_; (refine (laws_szIntSS.calls k _ _ l0 1048576 t1 _ (Kd.C_below HR0.out HB.out) HC0.out A_1.out).mono ?_); rintro e w' ⟨rfl, ⟨nd, rfl⟩⟩; refine ⟨_, rfl, ?_⟩; have n_B := Aside0.mk (pw_below_drewN HB.out nd); have n_N := Aside0.mk (size_drewN_ HN.out nd); clear  HB HN; have HB := n_B; have HN := n_N; clear  n_B n_N; generalize World.drewN _ nd = w_1 at  HB HN ⊢))
    go_ret
    exact ⟨by first | rfl | (simp; done) | (simp [*]; done), HB.out⟩
  rw [if_neg cc0] at h
  have cc0b0 : decide (t1 < 0) = false := decide_eq_false cc0
  clear cc0
  replace h := Option.bind_eq_some_iff.mp h
  obtain ⟨t2, A_20, h⟩ := h
  have A_2 := Aside0.mk A_20
  clear A_20
  replace h := Option.bind_eq_some_iff.mp h
  obtain ⟨t3, A_30, h⟩ := h
  have A_3 := Aside0.mk A_30
  clear A_30
  replace h := Option.bind_eq_some_iff.mp h
  obtain ⟨t4, A_40, h⟩ := h
  have A_4 := Aside0.mk A_40
  clear A_40
  replace h := Option.bind_eq_some_iff.mp h
  obtain ⟨t5, A_50, h⟩ := h
  have A_5 := Aside0.mk A_50
  clear A_50
  replace h := Option.bind_eq_some_iff.mp h
  obtain ⟨b6, A_60, h⟩ := h
  have A_6 := Aside0.mk A_60
  clear A_60
  cases hb6 : b6 with
  | false => rw [hb6] at h; exact absurd h (by simp)
  | true =>
  rw [if_pos hb6] at h
  subst hb6
  replace h := Option.bind_eq_some_iff.mp h
  obtain ⟨t7, A_70, h⟩ := h
  have A_7 := Aside0.mk A_70
  clear A_70
  replace h := Option.bind_eq_some_iff.mp h
  obtain ⟨b8, A_80, h⟩ := h
  have A_8 := Aside0.mk A_80
  clear A_80
  cases hb8 : b8 with
  | false => rw [hb8] at h; exact absurd h (by simp)
  | true =>
  rw [if_pos hb8] at h
  subst hb8
  replace h := Option.bind_eq_some_iff.mp h
  obtain ⟨⟨t9_1, t9_2⟩, A_90, h⟩ := h
  have A_9 := Aside0.mk A_90
  clear A_90
  replace h := Option.bind_eq_some_iff.mp h
  obtain ⟨b10, A_100, h⟩ := h
  have A_10 := Aside0.mk A_100
  clear A_100
  by_cases cc3 : t9_1 < 0
  case pos => rw [if_pos cc3] at h; exact absurd h (by simp)
  rw [if_neg cc3] at h
  have cc3b0 : decide (t9_1 < 0) = false := decide_eq_false cc3
  clear cc3
  cases hb10 : b10 with
  | false => rw [hb10] at h; exact absurd h (by simp)
  | true =>
  rw [if_pos hb10] at h
  subst hb10
  replace h := Option.bind_eq_some_iff.mp h
  obtain ⟨⟨t11_1, t11_2⟩, A_110, h⟩ := h
  have A_11 := Aside0.mk A_110
  clear A_110
  replace h := Option.bind_eq_some_iff.mp h
  obtain ⟨t12, A_120, h⟩ := h
  have A_12 := Aside0.mk A_120
  clear A_120
  by_cases cc5 : t12 < 0
  case pos => rw [if_pos cc5] at h; exact absurd h (by simp)
  rw [if_neg cc5] at h
  have cc5b0 : decide (t12 < 0) = false := decide_eq_false cc5
  clear cc5
  by_cases cc6 : t12 = t11_1
  case neg => rw [if_neg cc6] at h; exact absurd h (by simp)
  rw [if_pos cc6] at h
  have cc6b1 : (t12 != t11_1) = false := bne_eq_false_iff_eq.mpr cc6
  have cc6b2 : (t12 == t11_1) = true := beq_iff_eq.mpr cc6
  clear cc6
  replace h := Option.bind_eq_some_iff.mp h
  obtain ⟨t13, A_130, h⟩ := h
  have A_13 := Aside0.mk A_130
  clear A_130
  replace h := Option.bind_eq_some_iff.mp h
  obtain ⟨t14, A_140, h⟩ := h
  have A_14 := Aside0.mk A_140
  clear A_140
  replace h := Option.bind_eq_some_iff.mp h
  obtain ⟨b15, A_150, h⟩ := h
  have A_15 := Aside0.mk A_150
  clear A_150
  cases hb15 : b15 with
  | false => rw [hb15] at h; exact absurd h (by simp)
  | true =>
  rw [if_pos hb15] at h
  subst hb15
  replace h := Option.bind_eq_some_iff.mp h
  obtain ⟨t16, A_160, h⟩ := h
  have A_16 := Aside0.mk A_160
  clear A_160
  by_cases cc8 : t16 < 0
  case pos => rw [if_pos cc8] at h; exact absurd h (by simp)
  rw [if_neg cc8] at h
  have cc8b0 : decide (t16 < 0) = false := decide_eq_false cc8
  clear cc8
  by_cases cc9 : t16 = t11_1
  case neg => rw [if_neg cc9] at h; exact absurd h (by simp)
  rw [if_pos cc9] at h
  have cc9b1 : (t16 != t11_1) = false := bne_eq_false_iff_eq.mpr cc9
  have cc9b2 : (t16 == t11_1) = true := beq_iff_eq.mpr cc9
  clear cc9
  clear h
  go_enter Try.func11, Try.ntmps11
  go_wp2_with (first
      | ((with_reducible refine gate_callee (f := 43) rfl ?_); refine goesL_ (some 15) rfl rfl Try.func43 (by kernel_rfl) rfl #[.slice A0 l0.length c0, .int .i64 1048576] rfl (by (try simp only [List.map_toArray, List.map_cons, List.map_nil]); first | done | rfl) ?_; (refine (laws_szIntSS.calls k _ _ l0 1048576 t1 _ (Kd.C_below HR0.out HB.out) HC0.out A_1.out).mono ?_); rintro e w' ⟨rfl, ⟨nd, rfl⟩⟩; refine ⟨_, rfl, ?_⟩; have n_B := Aside0.mk (pw_below_drewN HB.out nd); have n_N := Aside0.mk (size_drewN_ HN.out nd); clear  HB HN; have HB := n_B; have HN := n_N; clear  n_B n_N; generalize World.drewN _ nd = w_1 at  HB HN ⊢)
      | ((with_reducible refine gate_callee (f := 45) rfl ?_); refine goesL_ (some 19) rfl rfl Try.func45 (by kernel_rfl) rfl #[.slice A0 l0.length c0] rfl (by (try simp only [List.map_toArray, List.map_cons, List.map_nil]); first | done | rfl) ?_; (refine (laws_toIntSS.calls k _ _ l0 t2 _ (Kd.C_below HR0.out HB.out) HC0.out A_2.out).mono ?_); rintro e w_2 ⟨v_2, rfl, ho0, hb⟩; refine ⟨_, rfl, ?_⟩; obtain ⟨n_2, o1_, o2_, o3_⟩ := S_iv ⟨ho0, hb.size⟩ (below_size HB.out) HN.out; have O_2 := Aside0.mk o1_; have n_B := Aside0.mk (below_step HB.out hb); clear  HB HN ho0 hb o1_; have HB := n_B; have HN := Aside0.mk o2_; have H_x2 := Aside0.mk o3_; clear  n_B o2_ o3_; obtain ⟨Ao_x2, co_x2, eo_⟩ := Kd.S_slice H_x2.out; subst eo_)
      | ((with_reducible refine gate_callee (f := 44) rfl ?_); refine goesL_ (some 21) rfl rfl Try.func44 (by kernel_rfl) rfl #[.slice Ao_x2 t2.length co_x2, .int .i64 a1] rfl (by (try simp only [List.map_toArray, List.map_cons, List.map_nil]); first | done | rfl) ?_; (refine (spec_RestOf.calls k _ _ t2 a1 t3 _ (Kd.S_reads' H_x2.out).2.2 (by have h_ := Kd.S_reads' H_x2.out; omega) A_3.out).mono ?_); rintro e w_3 ⟨v_3, rfl, ho0, hb⟩; refine ⟨_, rfl, ?_⟩; have n_x2 := Aside0.mk (Kd.S_below H_x2.out hb); obtain ⟨n_3, o1_, o2_, o3_⟩ := R_iv ⟨ho0, hb.size⟩ (below_size HB.out) HN.out; have O_3 := Aside0.mk o1_; have n_B := Aside0.mk (below_step HB.out hb); clear H_x2 HB HN ho0 hb o1_; have H_x2 := n_x2; have HB := n_B; have HN := Aside0.mk o2_; have H_x3 := Aside0.mk o3_; clear n_x2 n_B o2_ o3_; obtain ⟨Ao_x3, co_x3, eo_⟩ := Kd.R_slice H_x3.out; subst eo_)
      | ((with_reducible refine gate_callee (f := 45) rfl ?_); refine goesL_ (some 23) rfl rfl Try.func45 (by kernel_rfl) rfl #[.slice A0 l0.length c0] rfl (by (try simp only [List.map_toArray, List.map_cons, List.map_nil]); first | done | rfl) ?_; (refine (laws_toIntSS.calls k _ _ l0 t4 _ (Kd.C_below HR0.out HB.out) HC0.out A_4.out).mono ?_); rintro e w_4 ⟨v_4, rfl, ho0, hb⟩; refine ⟨_, rfl, ?_⟩; have n_x2 := Aside0.mk (Kd.S_below H_x2.out hb); have n_x3 := Aside0.mk (Kd.R_below H_x3.out hb); obtain ⟨n_4, o1_, o2_, o3_⟩ := S_iv ⟨ho0, hb.size⟩ (below_size HB.out) HN.out; have O_4 := Aside0.mk o1_; have n_B := Aside0.mk (below_step HB.out hb); clear H_x2 H_x3 HB HN ho0 hb o1_; have H_x2 := n_x2; have H_x3 := n_x3; have HB := n_B; have HN := Aside0.mk o2_; have H_x4 := Aside0.mk o3_; clear n_x2 n_x3 n_B o2_ o3_; obtain ⟨Ao_x4, co_x4, eo_⟩ := Kd.S_slice H_x4.out; subst eo_)
      | ((with_reducible refine gate_callee (f := 46) rfl ?_); refine goesL_ (some 26) rfl rfl Try.func46 (by kernel_rfl) rfl #[.slice Ao_x4 t4.length co_x4, .int .i64 a1] rfl (by (try simp only [List.map_toArray, List.map_cons, List.map_nil]); first | done | rfl) ?_; (refine (impl_RestOf.calls k _ _ t4 a1 t5 _ (Kd.S_reads' H_x4.out).2.2 (by have h_ := Kd.S_reads' H_x4.out; omega) A_5.out).mono ?_); rintro e w_5 ⟨v_5, rfl, ho0, hb⟩; refine ⟨_, rfl, ?_⟩; have n_x2 := Aside0.mk (Kd.S_below H_x2.out hb); have n_x3 := Aside0.mk (Kd.R_below H_x3.out hb); have n_x4 := Aside0.mk (Kd.S_below H_x4.out hb); obtain ⟨n_5, o1_, o2_, o3_⟩ := R_iv ⟨ho0, hb.size⟩ (below_size HB.out) HN.out; have O_5 := Aside0.mk o1_; have n_B := Aside0.mk (below_step HB.out hb); clear H_x2 H_x3 H_x4 HB HN ho0 hb o1_; have H_x2 := n_x2; have H_x3 := n_x3; have H_x4 := n_x4; have HB := n_B; have HN := Aside0.mk o2_; have H_x5 := Aside0.mk o3_; clear n_x2 n_x3 n_x4 n_B o2_ o3_; obtain ⟨Ao_x5, co_x5, eo_⟩ := Kd.R_slice H_x5.out; subst eo_)
      | ((with_reducible refine gate_callee (f := 47) rfl ?_); refine goesL_ (some 29) rfl rfl Try.func47 (by kernel_rfl) rfl #[.slice Ao_x5 t5.length co_x5, .slice Ao_x3 t3.length co_x3] rfl (by (try simp only [List.map_toArray, List.map_cons, List.map_nil]); first | done | rfl) ?_; (refine (laws_eqIntS.calls k _ _ t5 _ _ t3 true _ (Kd.R_reads' H_x5.out).2.2 (by have h_ := Kd.R_reads' H_x5.out; omega) (Kd.R_reads' H_x3.out).2.2 (by have h_ := Kd.R_reads' H_x3.out; omega) A_6.out).mono ?_); rintro e w' ⟨rfl, ⟨nd, rfl⟩⟩; refine ⟨_, rfl, ?_⟩; have n_x2 := Aside0.mk (Kd.S_drewN H_x2.out nd); have n_x3 := Aside0.mk (Kd.R_drewN H_x3.out nd); have n_x4 := Aside0.mk (Kd.S_drewN H_x4.out nd); have n_x5 := Aside0.mk (Kd.R_drewN H_x5.out nd); have n_B := Aside0.mk (pw_below_drewN HB.out nd); have n_N := Aside0.mk (size_drewN_ HN.out nd); clear H_x2 H_x3 H_x4 H_x5 HB HN; have H_x2 := n_x2; have H_x3 := n_x3; have H_x4 := n_x4; have H_x5 := n_x5; have HB := n_B; have HN := n_N; clear n_x2 n_x3 n_x4 n_x5 n_B n_N; generalize World.drewN _ nd = w_6 at H_x2 H_x3 H_x4 H_x5 HB HN ⊢)
      | ((with_reducible refine gate_callee (f := 45) rfl ?_); refine goesL_ (some 33) rfl rfl Try.func45 (by kernel_rfl) rfl #[.slice A0 l0.length c0] rfl (by (try simp only [List.map_toArray, List.map_cons, List.map_nil]); first | done | rfl) ?_; (refine (laws_toIntSS.calls k _ _ l0 t7 _ (Kd.C_below HR0.out HB.out) HC0.out A_7.out).mono ?_); rintro e w_7 ⟨v_7, rfl, ho0, hb⟩; refine ⟨_, rfl, ?_⟩; have n_x2 := Aside0.mk (Kd.S_below H_x2.out hb); have n_x3 := Aside0.mk (Kd.R_below H_x3.out hb); have n_x4 := Aside0.mk (Kd.S_below H_x4.out hb); have n_x5 := Aside0.mk (Kd.R_below H_x5.out hb); obtain ⟨n_7, o1_, o2_, o3_⟩ := S_iv ⟨ho0, hb.size⟩ (below_size HB.out) HN.out; have O_7 := Aside0.mk o1_; have n_B := Aside0.mk (below_step HB.out hb); clear H_x2 H_x3 H_x4 H_x5 HB HN ho0 hb o1_; have H_x2 := n_x2; have H_x3 := n_x3; have H_x4 := n_x4; have H_x5 := n_x5; have HB := n_B; have HN := Aside0.mk o2_; have H_x7 := Aside0.mk o3_; clear n_x2 n_x3 n_x4 n_x5 n_B o2_ o3_; obtain ⟨Ao_x7, co_x7, eo_⟩ := Kd.S_slice H_x7.out; subst eo_)
      | ((with_reducible refine gate_callee (f := 38) rfl ?_); refine goesL_ (some 34) rfl rfl Try.func38 (by kernel_rfl) rfl #[.slice Ao_x4 t4.length co_x4, .slice Ao_x7 t7.length co_x7] rfl (by (try simp only [List.map_toArray, List.map_cons, List.map_nil]); first | done | rfl) ?_; (refine (laws_eqIntSS.calls k _ _ t4 _ _ t7 true _ (Kd.S_reads' H_x4.out).2.2 (by have h_ := Kd.S_reads' H_x4.out; omega) (Kd.S_reads' H_x7.out).2.2 (by have h_ := Kd.S_reads' H_x7.out; omega) A_8.out).mono ?_); rintro e w' ⟨rfl, ⟨nd, rfl⟩⟩; refine ⟨_, rfl, ?_⟩; have n_x2 := Aside0.mk (Kd.S_drewN H_x2.out nd); have n_x3 := Aside0.mk (Kd.R_drewN H_x3.out nd); have n_x4 := Aside0.mk (Kd.S_drewN H_x4.out nd); have n_x5 := Aside0.mk (Kd.R_drewN H_x5.out nd); have n_x7 := Aside0.mk (Kd.S_drewN H_x7.out nd); have n_B := Aside0.mk (pw_below_drewN HB.out nd); have n_N := Aside0.mk (size_drewN_ HN.out nd); clear H_x2 H_x3 H_x4 H_x5 H_x7 HB HN; have H_x2 := n_x2; have H_x3 := n_x3; have H_x4 := n_x4; have H_x5 := n_x5; have H_x7 := n_x7; have HB := n_B; have HN := n_N; clear n_x2 n_x3 n_x4 n_x5 n_x7 n_B n_N; generalize World.drewN _ nd = w_8 at H_x2 H_x3 H_x4 H_x5 H_x7 HB HN ⊢)
      | ((with_reducible refine gate_callee (f := 39) rfl ?_); refine goesL_ (some 38) rfl rfl Try.func39 (by kernel_rfl) rfl #[.slice Ao_x4 t4.length co_x4, .int .i64 1] rfl (by (try simp only [List.map_toArray, List.map_cons, List.map_nil]); first | done | rfl) ?_; (refine (laws_markIntSS.calls k (fun k_ => n_3 ≤ k_ ∧ k_ < n_4) (.slice Ao_x4 t4.length co_x4) t4 1 t9_1 t9_2 w _ HB.out H_x4.out A_9.out).mono ?_); rintro e w_9 ⟨rfl, hS, hb, hkp⟩; refine ⟨_, rfl, ?_⟩; have n_x2 := Aside0.mk (Kd.S_kept H_x2.out hkp (fun k_ h_ h2_ => by have := O_2.out; have := O_3.out; have := O_4.out; have := O_5.out; have := O_7.out; omega)); have n_x3 := Aside0.mk (Kd.R_kept H_x3.out hkp (fun k_ h_ h2_ => by have := O_2.out; have := O_3.out; have := O_4.out; have := O_5.out; have := O_7.out; omega)); have n_x5 := Aside0.mk (Kd.R_kept H_x5.out hkp (fun k_ h_ h2_ => by have := O_2.out; have := O_3.out; have := O_4.out; have := O_5.out; have := O_7.out; omega)); have n_x7 := Aside0.mk (Kd.S_kept H_x7.out hkp (fun k_ h_ h2_ => by have := O_2.out; have := O_3.out; have := O_4.out; have := O_5.out; have := O_7.out; omega)); have n_x4 := Aside0.mk hS; have HL_x4 := Aside0.mk (Kd.S_reads' n_x4.out).1; have n_N := Aside0.mk (Nat.le_trans HN.out hkp.1); have n_B := Aside0.mk hb; clear H_x2 H_x3 H_x4 H_x5 H_x7 HB HN hS hb hkp; have H_x2 := n_x2; have H_x3 := n_x3; have H_x4 := n_x4; have H_x5 := n_x5; have H_x7 := n_x7; have HB := n_B; have HN := n_N; clear n_x2 n_x3 n_x4 n_x5 n_x7 n_B n_N)
      | ((with_reducible refine gate_callee (f := 47) rfl ?_); refine gate_guard (by first | rfl | kernel_rfl) ?_; refine goesL_ (some 44) rfl rfl Try.func47 (by kernel_rfl) rfl #[.slice Ao_x5 t5.length co_x5, .slice Ao_x3 t3.length co_x3] rfl (by (try simp only [List.map_toArray, List.map_cons, List.map_nil]); first | done | rfl) ?_; (refine (laws_eqIntS.calls k _ _ t5 _ _ t3 true _ (Kd.R_reads' H_x5.out).2.2 (by have h_ := Kd.R_reads' H_x5.out; omega) (Kd.R_reads' H_x3.out).2.2 (by have h_ := Kd.R_reads' H_x3.out; omega) A_10.out).mono ?_); rintro e w' ⟨rfl, ⟨nd, rfl⟩⟩; refine ⟨_, rfl, ?_⟩; have n_x2 := Aside0.mk (Kd.S_drewN H_x2.out nd); have n_x3 := Aside0.mk (Kd.R_drewN H_x3.out nd); have n_x4 := Aside0.mk (Kd.S_drewN H_x4.out nd); have n_x5 := Aside0.mk (Kd.R_drewN H_x5.out nd); have n_x7 := Aside0.mk (Kd.S_drewN H_x7.out nd); have n_B := Aside0.mk (pw_below_drewN HB.out nd); have n_N := Aside0.mk (size_drewN_ HN.out nd); clear H_x2 H_x3 H_x4 H_x5 H_x7 HB HN; have H_x2 := n_x2; have H_x3 := n_x3; have H_x4 := n_x4; have H_x5 := n_x5; have H_x7 := n_x7; have HB := n_B; have HN := n_N; clear n_x2 n_x3 n_x4 n_x5 n_x7 n_B n_N; generalize World.drewN _ nd = w_10 at H_x2 H_x3 H_x4 H_x5 H_x7 HB HN ⊢)
      | ((with_reducible refine gate_callee (f := 48) rfl ?_); refine goesL_ (some 49) rfl rfl Try.func48 (by kernel_rfl) rfl #[.slice Ao_x5 t5.length co_x5, .int .i64 1] rfl (by (try simp only [List.map_toArray, List.map_cons, List.map_nil]); first | done | rfl) ?_; (refine (laws_markIntS.calls k (fun k_ => n_4 ≤ k_ ∧ k_ < n_5) (.slice Ao_x5 t5.length co_x5) t5 1 t11_1 t11_2 w _ HB.out H_x5.out A_11.out).mono ?_); rintro e w_11 ⟨rfl, hS, hb, hkp⟩; refine ⟨_, rfl, ?_⟩; have n_x2 := Aside0.mk (Kd.S_kept H_x2.out hkp (fun k_ h_ h2_ => by have := O_2.out; have := O_3.out; have := O_4.out; have := O_5.out; have := O_7.out; omega)); have n_x3 := Aside0.mk (Kd.R_kept H_x3.out hkp (fun k_ h_ h2_ => by have := O_2.out; have := O_3.out; have := O_4.out; have := O_5.out; have := O_7.out; omega)); have n_x4 := Aside0.mk (Kd.S_kept H_x4.out hkp (fun k_ h_ h2_ => by have := O_2.out; have := O_3.out; have := O_4.out; have := O_5.out; have := O_7.out; omega)); have n_x7 := Aside0.mk (Kd.S_kept H_x7.out hkp (fun k_ h_ h2_ => by have := O_2.out; have := O_3.out; have := O_4.out; have := O_5.out; have := O_7.out; omega)); have n_x5 := Aside0.mk (Kd.R_reok rfl hS (fun k_ e_ => H_x5.out.1 k_ e_)); have HL_x5 := Aside0.mk (Kd.R_reads' n_x5.out).1; have n_N := Aside0.mk (Nat.le_trans HN.out hkp.1); have n_B := Aside0.mk hb; clear H_x2 H_x3 H_x4 H_x5 H_x7 HB HN hS hb hkp; have H_x2 := n_x2; have H_x3 := n_x3; have H_x4 := n_x4; have H_x5 := n_x5; have H_x7 := n_x7; have HB := n_B; have HN := n_N; clear n_x2 n_x3 n_x4 n_x5 n_x7 n_B n_N)
      | ((with_reducible refine gate_callee (f := 49) rfl ?_); refine goesL_ (some 52) rfl rfl Try.func49 (by kernel_rfl) rfl #[.slice Ao_x5 t11_2.length co_x5, .int .i64 1] rfl (by rw [← HL_x5.out]; (try simp only [List.map_toArray, List.map_cons, List.map_nil]); first | done | rfl) ?_; (refine (laws_heldIntS.calls k _ _ t11_2 1 t12 _ (Kd.R_reads' H_x5.out).2.2 (by have h_ := Kd.R_reads' H_x5.out; omega) A_12.out).mono ?_); rintro e w' ⟨rfl, ⟨nd, rfl⟩⟩; refine ⟨_, rfl, ?_⟩; have n_x2 := Aside0.mk (Kd.S_drewN H_x2.out nd); have n_x3 := Aside0.mk (Kd.R_drewN H_x3.out nd); have n_x4 := Aside0.mk (Kd.S_drewN H_x4.out nd); have n_x5 := Aside0.mk (Kd.R_drewN H_x5.out nd); have n_x7 := Aside0.mk (Kd.S_drewN H_x7.out nd); have n_B := Aside0.mk (pw_below_drewN HB.out nd); have n_N := Aside0.mk (size_drewN_ HN.out nd); clear H_x2 H_x3 H_x4 H_x5 H_x7 HB HN; have H_x2 := n_x2; have H_x3 := n_x3; have H_x4 := n_x4; have H_x5 := n_x5; have H_x7 := n_x7; have HB := n_B; have HN := n_N; clear n_x2 n_x3 n_x4 n_x5 n_x7 n_B n_N; generalize World.drewN _ nd = w_12 at H_x2 H_x3 H_x4 H_x5 H_x7 HB HN ⊢)
      | ((with_reducible refine gate_callee (f := 45) rfl ?_); refine goesL_ (some 59) rfl rfl Try.func45 (by kernel_rfl) rfl #[.slice A0 l0.length c0] rfl (by (try simp only [List.map_toArray, List.map_cons, List.map_nil]); first | done | rfl) ?_; (refine (laws_toIntSS.calls k _ _ l0 t13 _ (Kd.C_below HR0.out HB.out) HC0.out A_13.out).mono ?_); rintro e w_13 ⟨v_13, rfl, ho0, hb⟩; refine ⟨_, rfl, ?_⟩; have n_x2 := Aside0.mk (Kd.S_below H_x2.out hb); have n_x3 := Aside0.mk (Kd.R_below H_x3.out hb); have n_x4 := Aside0.mk (Kd.S_below H_x4.out hb); have n_x5 := Aside0.mk (Kd.R_below H_x5.out hb); have n_x7 := Aside0.mk (Kd.S_below H_x7.out hb); obtain ⟨n_13, o1_, o2_, o3_⟩ := S_iv ⟨ho0, hb.size⟩ (below_size HB.out) HN.out; have O_13 := Aside0.mk o1_; have n_B := Aside0.mk (below_step HB.out hb); clear H_x2 H_x3 H_x4 H_x5 H_x7 HB HN ho0 hb o1_; have H_x2 := n_x2; have H_x3 := n_x3; have H_x4 := n_x4; have H_x5 := n_x5; have H_x7 := n_x7; have HB := n_B; have HN := Aside0.mk o2_; have H_x13 := Aside0.mk o3_; clear n_x2 n_x3 n_x4 n_x5 n_x7 n_B o2_ o3_; obtain ⟨Ao_x13, co_x13, eo_⟩ := Kd.S_slice H_x13.out; subst eo_)
      | ((with_reducible refine gate_callee (f := 46) rfl ?_); refine goesL_ (some 61) rfl rfl Try.func46 (by kernel_rfl) rfl #[.slice Ao_x13 t13.length co_x13, .int .i64 a1] rfl (by (try simp only [List.map_toArray, List.map_cons, List.map_nil]); first | done | rfl) ?_; (refine (impl_RestOf.calls k _ _ t13 a1 t14 _ (Kd.S_reads' H_x13.out).2.2 (by have h_ := Kd.S_reads' H_x13.out; omega) A_14.out).mono ?_); rintro e w_14 ⟨v_14, rfl, ho0, hb⟩; refine ⟨_, rfl, ?_⟩; have n_x2 := Aside0.mk (Kd.S_below H_x2.out hb); have n_x3 := Aside0.mk (Kd.R_below H_x3.out hb); have n_x4 := Aside0.mk (Kd.S_below H_x4.out hb); have n_x5 := Aside0.mk (Kd.R_below H_x5.out hb); have n_x7 := Aside0.mk (Kd.S_below H_x7.out hb); have n_x13 := Aside0.mk (Kd.S_below H_x13.out hb); obtain ⟨n_14, o1_, o2_, o3_⟩ := R_iv ⟨ho0, hb.size⟩ (below_size HB.out) HN.out; have O_14 := Aside0.mk o1_; have n_B := Aside0.mk (below_step HB.out hb); clear H_x2 H_x3 H_x4 H_x5 H_x7 H_x13 HB HN ho0 hb o1_; have H_x2 := n_x2; have H_x3 := n_x3; have H_x4 := n_x4; have H_x5 := n_x5; have H_x7 := n_x7; have H_x13 := n_x13; have HB := n_B; have HN := Aside0.mk o2_; have H_x14 := Aside0.mk o3_; clear n_x2 n_x3 n_x4 n_x5 n_x7 n_x13 n_B o2_ o3_; obtain ⟨Ao_x14, co_x14, eo_⟩ := Kd.R_slice H_x14.out; subst eo_)
      | ((with_reducible refine gate_callee (f := 47) rfl ?_); refine goesL_ (some 64) rfl rfl Try.func47 (by kernel_rfl) rfl #[.slice Ao_x14 t14.length co_x14, .slice Ao_x3 t3.length co_x3] rfl (by (try simp only [List.map_toArray, List.map_cons, List.map_nil]); first | done | rfl) ?_; (refine (laws_eqIntS.calls k _ _ t14 _ _ t3 true _ (Kd.R_reads' H_x14.out).2.2 (by have h_ := Kd.R_reads' H_x14.out; omega) (Kd.R_reads' H_x3.out).2.2 (by have h_ := Kd.R_reads' H_x3.out; omega) A_15.out).mono ?_); rintro e w' ⟨rfl, ⟨nd, rfl⟩⟩; refine ⟨_, rfl, ?_⟩; have n_x2 := Aside0.mk (Kd.S_drewN H_x2.out nd); have n_x3 := Aside0.mk (Kd.R_drewN H_x3.out nd); have n_x4 := Aside0.mk (Kd.S_drewN H_x4.out nd); have n_x5 := Aside0.mk (Kd.R_drewN H_x5.out nd); have n_x7 := Aside0.mk (Kd.S_drewN H_x7.out nd); have n_x13 := Aside0.mk (Kd.S_drewN H_x13.out nd); have n_x14 := Aside0.mk (Kd.R_drewN H_x14.out nd); have n_B := Aside0.mk (pw_below_drewN HB.out nd); have n_N := Aside0.mk (size_drewN_ HN.out nd); clear H_x2 H_x3 H_x4 H_x5 H_x7 H_x13 H_x14 HB HN; have H_x2 := n_x2; have H_x3 := n_x3; have H_x4 := n_x4; have H_x5 := n_x5; have H_x7 := n_x7; have H_x13 := n_x13; have H_x14 := n_x14; have HB := n_B; have HN := n_N; clear n_x2 n_x3 n_x4 n_x5 n_x7 n_x13 n_x14 n_B n_N; generalize World.drewN _ nd = w_15 at H_x2 H_x3 H_x4 H_x5 H_x7 H_x13 H_x14 HB HN ⊢)
      | ((with_reducible refine gate_callee (f := 49) rfl ?_); refine goesL_ (some 68) rfl rfl Try.func49 (by kernel_rfl) rfl #[.slice Ao_x5 t11_2.length co_x5, .int .i64 1] rfl (by rw [← HL_x5.out]; (try simp only [List.map_toArray, List.map_cons, List.map_nil]); first | done | rfl) ?_; (refine (laws_heldIntS.calls k _ _ t11_2 1 t16 _ (Kd.R_reads' H_x5.out).2.2 (by have h_ := Kd.R_reads' H_x5.out; omega) A_16.out).mono ?_); rintro e w' ⟨rfl, ⟨nd, rfl⟩⟩; refine ⟨_, rfl, ?_⟩; have n_x2 := Aside0.mk (Kd.S_drewN H_x2.out nd); have n_x3 := Aside0.mk (Kd.R_drewN H_x3.out nd); have n_x4 := Aside0.mk (Kd.S_drewN H_x4.out nd); have n_x5 := Aside0.mk (Kd.R_drewN H_x5.out nd); have n_x7 := Aside0.mk (Kd.S_drewN H_x7.out nd); have n_x13 := Aside0.mk (Kd.S_drewN H_x13.out nd); have n_x14 := Aside0.mk (Kd.R_drewN H_x14.out nd); have n_B := Aside0.mk (pw_below_drewN HB.out nd); have n_N := Aside0.mk (size_drewN_ HN.out nd); clear H_x2 H_x3 H_x4 H_x5 H_x7 H_x13 H_x14 HB HN; have H_x2 := n_x2; have H_x3 := n_x3; have H_x4 := n_x4; have H_x5 := n_x5; have H_x7 := n_x7; have H_x13 := n_x13; have H_x14 := n_x14; have HB := n_B; have HN := n_N; clear n_x2 n_x3 n_x4 n_x5 n_x7 n_x13 n_x14 n_B n_N; generalize World.drewN _ nd = w_16 at H_x2 H_x3 H_x4 H_x5 H_x7 H_x13 H_x14 HB HN ⊢))
  go_ret
  exact ⟨by first | rfl | (simp; done) | (simp [*]; done), HB.out⟩
end Go.Proofs.Ytfcidjlnokhkjaa.QFnExactRestOf
