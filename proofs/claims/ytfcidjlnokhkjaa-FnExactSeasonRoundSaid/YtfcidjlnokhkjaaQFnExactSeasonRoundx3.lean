-- By hand, by this session: the nested marks and the law's own walk. Lean checks it.
import Derived.Test.YtfcidjlnokhkjaaQFnExactSeasonRoundx0
import Derived.Test.YtfcidjlnokhkjaaQFnExactSeasonRoundx2
namespace Go.Proofs.Ytfcidjlnokhkjaa.QFnExactSeasonRound
open Go.RowKit Go.Proofs.YtfcidjlnokhkjaaW.PrintWords Go.Proofs.YtfcidjlnokhkjaaW.PrintLast Go.Proofs.YtfcidjlnokhkjaaW.PrintMore
attribute [local go_sem] max2_int min2_int max_two min_two max_three min_three max_four min_four   -- for this text's walks alone
set_option linter.unusedVariables false
set_option linter.unusedSimpArgs false

/-! ### laws_markIntSS: function 39, by hand: a row of rows, each written by markIntS -/
def laws_markIntSS.l0 : Nat → List (List Int) → Int → Int → Option (Int × List (List Int))
  | 0, _, _, _ => none
  | k + 1, x0, x1, x5 => if x5 < (x0.length : Int) then (if 0 ≤ x5 then ((laws_markIntS.f k (rd_L1 x0 x5) x1).bind fun bt => (laws_markIntSS.l0 k (x0.set (x5 : Int).toNat bt.2) bt.1 (wrap64 (x5 + 1)))) else (none)) else (some (x1, x0))
def laws_markIntSS.f (k : Nat) (l0 : List (List Int)) (a1 : Int) : Option (Int × List (List Int)) := laws_markIntSS.l0 k l0 a1 0
theorem laws_markIntSS.mono_l : ∀ k, (∀ y0 y1 y2, LeO (laws_markIntSS.l0 k y0 y1 y2) (laws_markIntSS.l0 (k + 1) y0 y1 y2))
  | 0 => fun _ _ _ r h => by simp [laws_markIntSS.l0] at h
  | k + 1 => by
    have ih0 := laws_markIntSS.mono_l k
    · intro y0 y1 y2
      unfold laws_markIntSS.l0
      repeat' first
      | (with_reducible exact ih0 _ _ _)
      | (with_reducible exact laws_markIntS.mono _ _ _)
      | (with_reducible exact LeO.refl _)
      | (with_reducible exact LeO.none _)
      | (with_reducible refine LeO.ite ?_ ?_)
      | (with_reducible refine LeO.bind ?_ (fun _ => ?_))
      | exact ih0 _ _ _
      | exact laws_markIntS.mono _ _ _
      | exact LeO.none _
      | refine LeO.ite ?_ ?_
      | refine LeO.bind ?_ (fun _ => ?_)
theorem laws_markIntSS.mono : ∀ a0 a1 k, LeO (laws_markIntSS.f k a0 a1) (laws_markIntSS.f (k + 1) a0 a1) := by
  intro a0 a1 k
  have ih0 := laws_markIntSS.mono_l k
  unfold laws_markIntSS.f
  exact ih0 _ _ _
/-- An element of a row of rows, lent: its own row, and what comes back of it. -/
theorem elem_SS {W : World} {base : Nat} {ok : Nat → Prop} {g n cap : Nat} {xs : List (List Int)} (h : Kd.S (Kd.slice 3 (Kd.int .i64)) 45 W base ok (.slice (some ⟨g, 0, none⟩) n cap) xs) (i : Int) (h0 : 0 ≤ i) (h1 : i < n) :
    ∃ (oki : Nat → Prop) (v : Value), Kd.R (Kd.int .i64) 3 W base oki v (rd_L1 xs i) ∧ W.cell? ⟨g, (i : Int).toNat, none⟩ = some v ∧ (∀ k, oki k → ok k) ∧
      ∀ (w1 : World) (x' : List Int), Kept W w1 oki → Kd.R (Kd.int .i64) 3 w1 base oki v x' → Kd.S (Kd.slice 3 (Kd.int .i64)) 45 w1 base ok (.slice (some ⟨g, 0, none⟩) n cap) (xs.set (i : Int).toNat x') := by
  obtain ⟨oki, c, hcl, hM, hcc, hoki, hH⟩ := Kd.S_lend h ([] : List Int) i h0 h1
  obtain ⟨v, rfl, hR⟩ := hM
  refine ⟨oki, v, hR, ?_, fun k hk => (hoki k hk).1, fun w1 x' hk hR1 => Kd.H_back (Kd.H_step hH (fun k _ hno hlt => hk.2 k hlt hno)) (x' := x') (okp := oki) ⟨v, rfl, hR1⟩ (fun _ h => h)⟩
  have := hcc 0 v rfl
  have e : (i : Int).toNat * (Kd.slice 3 (Kd.int .i64)).sz + 0 = (i : Int).toNat := by show (i : Int).toNat * 1 + 0 = _; omega
  rw [e] at this
  exact this
set_option maxHeartbeats 8000000 in
set_option maxRecDepth 100000 in
theorem laws_markIntSS.calls (k : Nat) (P0_ : Nat → Prop) (u9_ : Value) (l0 : List (List Int)) (a1 : Int) (r1 : Int) (r2 : List (List Int)) (w0 w : World) (hB : Below w0.heap.size w0 w) (ho0 : Kd.S (Kd.slice 3 (Kd.int .i64)) 45 w w0.heap.size P0_ u9_ l0) (h : laws_markIntSS.f k l0 a1 = some (r1, r2)) :
    Calls Try.prog 39 #[u9_, .int .i64 a1] w fun e w' => e = .returned (.int .i64 r1) ∧ Kd.S (Kd.slice 3 (Kd.int .i64)) 45 w' w0.heap.size P0_ u9_ r2 ∧ Below w0.heap.size w0 w' ∧ Kept w w' P0_ := by
  obtain ⟨A0, c0, e0⟩ := Kd.S_slice ho0
  subst e0
  have HS := Aside0.mk ho0
  have HB := Aside0.mk hB
  have HKP := Aside0.mk (Kept.refl w P0_)
  clear ho0 hB
  have H : (laws_markIntSS.l0 k l0 a1 0) = some (r1, r2) := h
  clear h
  have H' := Aside0.mk H
  clear H
  go_enter Try.func39, Try.ntmps39
  go_wp2
  go_loopg [1, 5] k (fun kq v1 v5 w' => ∃ (l' : List (List Int)) (x1_1 : Int) (x5_1 : Int), v1 = .int .i64 x1_1 ∧ v5 = .int .i64 x5_1 ∧ Aside0 (laws_markIntSS.l0 kq l' x1_1 x5_1 = some (r1, r2)) ∧ Aside0 (kq ≤ k) ∧ Aside0 (Kd.S (Kd.slice 3 (Kd.int .i64)) 45 w' w0.heap.size P0_ (.slice A0 l0.length c0) l') ∧ Aside0 (Below w0.heap.size w0 w') ∧ Aside0 (Kept w w' P0_))
  case atStart => exact ⟨l0, a1, 0, (by first | rfl | (simp; done) | (simp [*]; done)), (by first | rfl | (simp; done) | (simp [*]; done)), H', ⟨Nat.le_refl _⟩, HS, HB, HKP⟩
  case round =>
    clear H' HS HB HKP
    try clear p2
    obtain ⟨l', x1_1, x5_1, rfl, rfl, HA, HK1, HS, HB, HKP⟩ := hrel
    cases gk with
    | zero => exact absurd HA.out (by simp [laws_markIntSS.l0])
    | succ k1 =>
      have H := HA.out
      clear HA
      simp only [laws_markIntSS.l0] at H
      have hlen : l0.length = l'.length := (Kd.S_reads' HS.out).1
      rw [← hlen] at H
      clear hlen
      by_cases c3 : x5_1 < (l0.length : Int)
      · rw [if_pos c3] at H
        have c3b0 : decide (x5_1 < (l0.length : Int)) = true := decide_eq_true c3
        by_cases c4 : 0 ≤ x5_1
        · rw [if_pos c4] at H
          have c4b0 : decide (0 ≤ x5_1) = true := decide_eq_true c4
          replace H := Option.bind_eq_some_iff.mp H
          obtain ⟨⟨t1, t2⟩, A50, H⟩ := H
          replace H : (laws_markIntSS.l0 k1 (l'.set (x5_1 : Int).toNat t2) t1 (wrap64 (x5_1 + 1))) = some (r1, r2) := H
          have A5 := Aside0.mk A50
          clear A50
          have H' := Aside0.mk H
          clear H
          obtain ⟨ad, _, _, e156, _⟩ := at_L1 (Kd.S_reads' HS.out).2.2 x5_1 c4 (by rw [← (Kd.S_reads' HS.out).1]; exact c3)
          cases e156
          obtain ⟨g, eg⟩ := Kd.R_head (Kd.S_R HS.out)
          subst eg
          obtain ⟨oki, v, hR, hx156_0, hok, hback⟩ := elem_SS HS.out x5_1 c4 c3
          have HR := Aside0.mk hR
          have HOK := Aside0.mk hok
          have HBK := Aside0.mk hback
          clear hR hok hback HS
          have p156 := eq_true c4
          have q156 := eq_true c3
          clear c3 c4
          go_wp2_with (first | ((with_reducible refine gate_callee (f := 48) rfl ?_); refine goesL_ (some 17) rfl rfl Try.func48 (by kernel_rfl) rfl #[v, .int .i64 x1_1] rfl (by (try simp only [List.map_toArray, List.map_cons, List.map_nil]); first | done | rfl) ?_; (refine (laws_markIntS.calls k1 oki v (rd_L1 l' x5_1) x1_1 t1 t2 w0 _ HB.out HR.out A5.out).mono ?_); rintro e w2 ⟨rfl, hy0, hb, hkp⟩; refine ⟨_, rfl, ?_⟩; have n0_ := Aside0.mk (HBK.out w2 t2 hkp (Kd.R_reok rfl hy0 (fun k_ e_ => HR.out.1 k_ e_))); have n1_ := Aside0.mk hb; have n2_ := Aside0.mk (HKP.out.then_ hkp (fun k_ hk_ => .inl (HOK.out k_ hk_))); clear HB HKP HBK; have HS := n0_; have HB := n1_; have HKP := n2_; clear n0_ n1_ n2_ hy0 hb hkp))
          go_roundg k1
          case measure => have := HK1.out; omega
          case rel => exact ⟨l'.set (x5_1 : Int).toNat t2, t1, (wrap64 (x5_1 + 1)), (by first | rfl | (simp; done) | (simp [*]; done)), (by first | rfl | (simp; done) | (simp [*]; done)), H', ⟨by have := HK1.out; omega⟩, HS, HB, HKP⟩
        · rw [if_neg c4] at H
          exact absurd H (by simp)
      · rw [if_neg c3] at H
        have c3b0 : decide (x5_1 < (l0.length : Int)) = false := decide_eq_false c3
        clear c3
        have H2 := Option.some.inj H
        obtain ⟨e1, e2⟩ := Prod.mk.inj H2
        subst e1 e2
        go_wp2
        go_ret
        exact ⟨by first | rfl | (simp; done) | (simp [*]; done), HS.out, HB.out, HKP.out⟩

/-! ### laws_FnExactSeasonRound: function 9, by hand -/
def laws_FnExactSeasonRound.f (k : Nat) (a0 : Int) (a1 : Int) : Option (Bool) := (spec_SeasonRound.f k a0 a1).bind fun t1 => ((impl_SeasonRound.f k a0 a1).bind fun t2 => ((laws_eqIntSS.f k t2 t1).bind fun b1 => (if b1 = true then ((laws_markIntSS.f k t2 1).bind fun bt => ((laws_heldIntSS.f k bt.2 1).bind fun q => (if q < 0 then (some false) else (if q = bt.1 then ((impl_SeasonRound.f k a0 a1).bind fun t3 => ((laws_eqIntSS.f k t3 t1).bind fun b2 => (if b2 = true then ((laws_heldIntSS.f k bt.2 1).bind fun q2 => (if q2 < 0 then (some false) else (if q2 = bt.1 then (some true) else (some false)))) else (some false)))) else (some false))))) else (some false))))
theorem laws_FnExactSeasonRound.mono : ∀ a0 a1 k, LeO (laws_FnExactSeasonRound.f k a0 a1) (laws_FnExactSeasonRound.f (k + 1) a0 a1) := by
  intro a0 a1 k
  unfold laws_FnExactSeasonRound.f
  repeat' first
      | (with_reducible exact impl_SeasonRound.mono _ _ _)
      | (with_reducible exact spec_SeasonRound.mono _ _ _)
      | (with_reducible exact laws_eqIntSS.mono _ _ _)
      | (with_reducible exact laws_heldIntSS.mono _ _ _)
      | (with_reducible exact laws_markIntSS.mono _ _ _)
      | (with_reducible exact LeO.refl _)
      | (with_reducible exact LeO.none _)
      | (with_reducible refine LeO.ite ?_ ?_)
      | (with_reducible refine LeO.bind ?_ (fun _ => ?_))
      | exact impl_SeasonRound.mono _ _ _
      | exact spec_SeasonRound.mono _ _ _
      | exact laws_eqIntSS.mono _ _ _
      | exact laws_heldIntSS.mono _ _ _
      | exact laws_markIntSS.mono _ _ _
      | exact LeO.none _
      | refine LeO.ite ?_ ?_
      | refine LeO.bind ?_ (fun _ => ?_)
set_option maxHeartbeats 8000000 in
set_option maxRecDepth 100000 in
theorem laws_FnExactSeasonRound.calls (k : Nat) (a0 : Int) (a1 : Int) (r : Bool) (w : World) (hr_ : r = true) (h : laws_FnExactSeasonRound.f k a0 a1 = some r) :
    Calls Try.prog 9 #[.int .i64 a0, .int .i64 a1] w fun e w' => e = .returned (.bool r) ∧ Below w.heap.size w w' := by
  subst hr_
  unfold laws_FnExactSeasonRound.f at h
  replace h := Option.bind_eq_some_iff.mp h
  obtain ⟨t1, A10, h⟩ := h
  replace h := Option.bind_eq_some_iff.mp h
  obtain ⟨t2, A20, h⟩ := h
  replace h := Option.bind_eq_some_iff.mp h
  obtain ⟨b1, A30, h⟩ := h
  cases hb1 : b1 with
  | false => rw [hb1] at h; exact absurd h (by simp)
  | true =>
  rw [if_pos hb1] at h
  subst hb1
  replace h := Option.bind_eq_some_iff.mp h
  obtain ⟨⟨m, ys⟩, A40, h⟩ := h
  replace h := Option.bind_eq_some_iff.mp h
  obtain ⟨q, A50, h⟩ := h
  by_cases c1 : q < 0
  · rw [if_pos c1] at h; exact absurd h (by simp)
  rw [if_neg c1] at h
  by_cases c2 : ¬ q = m
  · rw [if_neg (by exact c2)] at h; exact absurd h (by simp)
  replace c2 := Classical.not_not.mp c2
  rw [if_pos (by exact c2)] at h
  replace h := Option.bind_eq_some_iff.mp h
  obtain ⟨t3, A60, h⟩ := h
  replace h := Option.bind_eq_some_iff.mp h
  obtain ⟨b2, A70, h⟩ := h
  cases hb2 : b2 with
  | false => rw [hb2] at h; exact absurd h (by simp)
  | true =>
  rw [if_pos hb2] at h
  subst hb2
  replace h := Option.bind_eq_some_iff.mp h
  obtain ⟨q2, A80, h⟩ := h
  by_cases c3 : q2 < 0
  · rw [if_pos c3] at h; exact absurd h (by simp)
  rw [if_neg c3] at h
  by_cases c4 : ¬ q2 = m
  · rw [if_neg (by exact c4)] at h; exact absurd h (by simp)
  replace c4 := Classical.not_not.mp c4
  clear h
  have A1 := Aside0.mk A10
  have A2 := Aside0.mk A20
  have A3 := Aside0.mk A30
  have A4 := Aside0.mk A40
  have A5 := Aside0.mk A50
  have A6 := Aside0.mk A60
  have A7 := Aside0.mk A70
  have A8 := Aside0.mk A80
  clear A10 A20 A30 A40 A50 A60 A70 A80
  have c1b0 : decide (q < 0) = false := decide_eq_false c1
  have c2b1 : (q != m) = false := bne_eq_false_iff_eq.mpr c2
  have c3b0 : decide (q2 < 0) = false := decide_eq_false c3
  have c4b1 : (q2 != m) = false := bne_eq_false_iff_eq.mpr c4
  clear c1 c2 c3 c4
  have HB := Aside0.mk (Below.refl w.heap.size w)
  go_enter Try.func9, Try.ntmps9
  go_wp2_with (first
    | ((with_reducible refine gate_callee (f := 36) rfl ?_); refine goesL_ (some 12) rfl rfl Try.func36 (by kernel_rfl) rfl #[.int .i64 a0, .int .i64 a1] rfl (by (try simp only [List.map_toArray, List.map_cons, List.map_nil]); first | done | rfl) ?_; (refine (spec_SeasonRound.calls k a0 a1 t1 _ A1.out).mono ?_); rintro e w1 ⟨v1, rfl, ho0, hb⟩; refine ⟨_, rfl, ?_⟩; have HS1 := Aside0.mk (Kd.S_lower ho0 (below_size HB.out)); have n1_ := Aside0.mk (below_step HB.out hb); clear HB; have HB := n1_; clear n1_; have HC := Aside0.mk (Below.refl w1.heap.size w1); clear ho0 hb; obtain ⟨Ao1, co1, eo1⟩ := Kd.S_slice HS1.out; subst eo1)
    | ((with_reducible refine gate_callee (f := 37) rfl ?_); refine goesL_ (some 15) rfl rfl Try.func37 (by kernel_rfl) rfl #[.int .i64 a0, .int .i64 a1] rfl (by (try simp only [List.map_toArray, List.map_cons, List.map_nil]); first | done | rfl) ?_; (refine (impl_SeasonRound.calls k a0 a1 t2 _ A2.out).mono ?_); rintro e w2 ⟨v2, rfl, ho0, hb⟩; refine ⟨_, rfl, ?_⟩; have HS2 := Aside0.mk (Kd.S_lower ho0 (below_size HC.out)); have n1_ := Aside0.mk (below_step HC.out hb); clear HC; have HC := n1_; clear n1_; clear ho0 hb; obtain ⟨Ao2, co2, eo2⟩ := Kd.S_slice HS2.out; subst eo2)
    | ((with_reducible refine gate_callee (f := 38) rfl ?_); refine goesL_ (some 18) rfl rfl Try.func38 (by kernel_rfl) rfl #[.slice Ao2 t2.length co2, .slice Ao1 t1.length co1] rfl (by (try simp only [List.map_toArray, List.map_cons, List.map_nil]); first | done | rfl) ?_; (refine (laws_eqIntSS.calls k _ _ t2 _ _ t1 true _ (Kd.S_reads' HS2.out).2.2 (Kd.S_reads' HS2.out).2.1 (Kd.S_reads' (Kd.S_below HS1.out HC.out)).2.2 (Kd.S_reads' HS1.out).2.1 A3.out).mono ?_); rintro e w' ⟨rfl, ⟨nd, rfl⟩⟩; refine ⟨_, rfl, ?_⟩; have n0_ := Aside0.mk (Kd.S_drewN HS2.out nd); have n1_ := Aside0.mk (pw_below_drewN HC.out nd); clear HS2 HC; have HS2 := n0_; have HC := n1_; clear n0_ n1_; generalize World.drewN _ nd = w3 at HS2 HC ⊢)
    | ((with_reducible refine gate_callee (f := 39) rfl ?_); refine goesL_ (some 22) rfl rfl Try.func39 (by kernel_rfl) rfl #[.slice Ao2 t2.length co2, .int .i64 1] rfl (by (try simp only [List.map_toArray, List.map_cons, List.map_nil]); first | done | rfl) ?_; (refine (laws_markIntSS.calls k (fun _ => True) (.slice Ao2 t2.length co2) t2 1 m ys w1 _ HC.out HS2.out A4.out).mono ?_); rintro e w4 ⟨rfl, hS, hb, hkp⟩; refine ⟨_, rfl, ?_⟩; clear HS2 HC hkp; have HS2 := Aside0.mk hS; have HC := Aside0.mk hb; have HL := Aside0.mk (Kd.S_reads' hS).1; clear hS hb)
    | ((with_reducible refine gate_callee (f := 40) rfl ?_); refine goesL_ (some 25) rfl rfl Try.func40 (by kernel_rfl) rfl #[.slice Ao2 ys.length co2, .int .i64 1] rfl (by rw [← HL.out]; (try simp only [List.map_toArray, List.map_cons, List.map_nil]); first | done | rfl) ?_; (refine (laws_heldIntSS.calls k _ _ ys 1 q _ (Kd.S_reads' HS2.out).2.2 (by rw [← HL.out]; exact (Kd.S_reads' HS2.out).2.1) A5.out).mono ?_); rintro e w' ⟨rfl, ⟨nd, rfl⟩⟩; refine ⟨_, rfl, ?_⟩; have n0_ := Aside0.mk (Kd.S_drewN HS2.out nd); have n1_ := Aside0.mk (pw_below_drewN HC.out nd); clear HS2 HC; have HS2 := n0_; have HC := n1_; clear n0_ n1_; generalize World.drewN _ nd = w5 at HS2 HC ⊢)
    | ((with_reducible refine gate_callee (f := 37) rfl ?_); refine goesL_ (some 33) rfl rfl Try.func37 (by kernel_rfl) rfl #[.int .i64 a0, .int .i64 a1] rfl (by (try simp only [List.map_toArray, List.map_cons, List.map_nil]); first | done | rfl) ?_; (refine (impl_SeasonRound.calls k a0 a1 t3 _ A6.out).mono ?_); rintro e w6 ⟨v3, rfl, ho0, hb⟩; refine ⟨_, rfl, ?_⟩; have HS3 := Aside0.mk ho0; have n0_ := Aside0.mk (Kd.S_below HS2.out hb); have n1_ := Aside0.mk (below_step HC.out hb); clear HS2 HC; have HS2 := n0_; have HC := n1_; clear n0_ n1_; clear ho0 hb; obtain ⟨Ao3, co3, eo3⟩ := Kd.S_slice HS3.out; subst eo3)
    | ((with_reducible refine gate_callee (f := 38) rfl ?_); refine goesL_ (some 36) rfl rfl Try.func38 (by kernel_rfl) rfl #[.slice Ao3 t3.length co3, .slice Ao1 t1.length co1] rfl (by (try simp only [List.map_toArray, List.map_cons, List.map_nil]); first | done | rfl) ?_; (refine (laws_eqIntSS.calls k _ _ t3 _ _ t1 true _ (Kd.S_reads' HS3.out).2.2 (Kd.S_reads' HS3.out).2.1 (Kd.S_reads' (Kd.S_below HS1.out HC.out)).2.2 (Kd.S_reads' HS1.out).2.1 A7.out).mono ?_); rintro e w' ⟨rfl, ⟨nd, rfl⟩⟩; refine ⟨_, rfl, ?_⟩; have n0_ := Aside0.mk (Kd.S_drewN HS2.out nd); have n1_ := Aside0.mk (pw_below_drewN HC.out nd); clear HS2 HC HS3; have HS2 := n0_; have HC := n1_; clear n0_ n1_; generalize World.drewN _ nd = w7 at HS2 HC ⊢)
    | ((with_reducible refine gate_callee (f := 40) rfl ?_); refine goesL_ (some 40) rfl rfl Try.func40 (by kernel_rfl) rfl #[.slice Ao2 ys.length co2, .int .i64 1] rfl (by rw [← HL.out]; (try simp only [List.map_toArray, List.map_cons, List.map_nil]); first | done | rfl) ?_; (refine (laws_heldIntSS.calls k _ _ ys 1 q2 _ (Kd.S_reads' HS2.out).2.2 (by rw [← HL.out]; exact (Kd.S_reads' HS2.out).2.1) A8.out).mono ?_); rintro e w' ⟨rfl, ⟨nd, rfl⟩⟩; refine ⟨_, rfl, ?_⟩; have n0_ := Aside0.mk (Kd.S_drewN HS2.out nd); have n1_ := Aside0.mk (pw_below_drewN HC.out nd); clear HS2 HC; have HS2 := n0_; have HC := n1_; clear n0_ n1_; generalize World.drewN _ nd = w8 at HS2 HC ⊢))
  go_ret
  exact ⟨by first | rfl | (simp; done) | (simp [*]; done), below_step HB.out HC.out⟩
end Go.Proofs.Ytfcidjlnokhkjaa.QFnExactSeasonRound
