-- Laid by this session's own program (wip/myprint.py), the kit's printer its engine; turned by hand where that fell. Lean checks it.
import Derived.Test.YtefcdlkmifieeaaQFnRatingsx0
import Derived.Test.YtefcdlkmifieeaaQFnRatingsx1
import Derived.Test.YtefcdlkmifieeaaQFnRatingsx2
import Derived.Test.YtefcdlkmifieeaaQFnRatingsx3
namespace Go.Proofs.Ytefcdlkmifieeaa.QFnRatings
open Go.RowKit Go.Proofs.YtefcdlkmifieeaaW.PrintWords Go.Proofs.YtefcdlkmifieeaaW.PrintLast Go.Proofs.YtefcdlkmifieeaaW.PrintMore
attribute [local go_sem] max2_int min2_int max_two min_two max_three min_three max_four min_four   -- for this text's walks alone
set_option linter.unusedVariables false
set_option linter.unusedSimpArgs false

/-! ### laws_FnRatings: function 13 -/
mutual
def laws_FnRatings.j0 : Nat → List Int → Int → Int → Bool → Int → Int → Int → Bool → Option (Bool)
  | 0, _, _, _, _, _, _, _, _ => none
  | k + 1, x0, x3, x4, x5, x6, x7, x8, x9 => if (wrap64 (x6 + x7)) = (wrap64 (x3 + x4)) then (if ((decide (x8 ≥ 0)) != x9) = true then (laws_FnRatings.j1 k x0 true) else (if x9 = true then ((impl_Expected.f x4 x3).bind fun t234 => (if (wrap64 (x8 + t234)) = 1000 then (if x6 < 0 then (laws_FnRatings.j1 k x0 true) else (if x6 > 3000 then (laws_FnRatings.j1 k x0 true) else (if x7 < 0 then (laws_FnRatings.j1 k x0 true) else (if x7 > 3000 then (laws_FnRatings.j1 k x0 true) else (if x5 = true then (if x6 < x3 then (laws_FnRatings.j1 k x0 true) else (laws_FnRatings.j1 k x0 false)) else (if x6 > x3 then (laws_FnRatings.j1 k x0 true) else (laws_FnRatings.j1 k x0 false))))))) else (laws_FnRatings.j1 k x0 true))) else (if x6 = x3 then (laws_FnRatings.j1 k x0 (x7 != x4)) else (laws_FnRatings.j1 k x0 true)))) else (laws_FnRatings.j1 k x0 true)
def laws_FnRatings.j1 : Nat → List Int → Bool → Option (Bool)
  | 0, _, _ => none
  | k + 1, x0, x115 => if x115 = true then (some false) else ((spec_DrawRateAll.f k x0).bind fun bt235 => ((impl_RateAll.f k bt235.1 bt235.2).bind fun t241 => (if (t241.length : Int) = (bt235.1.length : Int) then ((impl_SumRatings.f k t241).bind fun t244 => ((impl_SumRatings.f k bt235.1).bind fun t245 => (some (t244 == t245)))) else (some false))))
end
def laws_FnRatings.f (k : Nat) (l0 : List Int) : Option (Bool) := (laws_big.f l0).bind fun t227 => (if t227 = true then (some true) else ((spec_DrawAfterDebate.f k l0).bind fun bt228 => ((impl_AfterDebate.f bt228.1 bt228.2.1 bt228.2.2).bind fun bt231 => ((impl_Expected.f bt228.1 bt228.2.1).bind fun t233 => (if bt228.1 ≥ 0 then (if bt228.1 ≤ 3000 then (if bt228.2.1 ≥ 0 then (laws_FnRatings.j0 k l0 bt228.1 bt228.2.1 bt228.2.2 bt231.1 bt231.2 t233 (decide (bt228.2.1 ≤ 3000))) else (laws_FnRatings.j0 k l0 bt228.1 bt228.2.1 bt228.2.2 bt231.1 bt231.2 t233 false)) else (laws_FnRatings.j0 k l0 bt228.1 bt228.2.1 bt228.2.2 bt231.1 bt231.2 t233 false)) else (laws_FnRatings.j0 k l0 bt228.1 bt228.2.1 bt228.2.2 bt231.1 bt231.2 t233 false))))))
theorem laws_FnRatings.mono_l : ∀ k, (∀ y0 y1 y2 y3 y4 y5 y6 y7, LeO (laws_FnRatings.j0 k y0 y1 y2 y3 y4 y5 y6 y7) (laws_FnRatings.j0 (k + 1) y0 y1 y2 y3 y4 y5 y6 y7)) ∧ (∀ y0 y1, LeO (laws_FnRatings.j1 k y0 y1) (laws_FnRatings.j1 (k + 1) y0 y1))
  | 0 => ⟨fun _ _ _ _ _ _ _ _ r h => by simp [laws_FnRatings.j0] at h, fun _ _ r h => by simp [laws_FnRatings.j1] at h⟩
  | k + 1 => by
    obtain ⟨ih0, ih1⟩ := laws_FnRatings.mono_l k
    refine ⟨?_, ?_⟩
    · intro y0 y1 y2 y3 y4 y5 y6 y7
      unfold laws_FnRatings.j0
      repeat' first
      | (with_reducible exact ih0 _ _ _ _ _ _ _ _)
      | (with_reducible exact ih1 _ _)
      | (with_reducible exact impl_RateAll.mono _ _ _)
      | (with_reducible exact impl_SumRatings.mono _ _)
      | (with_reducible exact spec_DrawAfterDebate.mono _ _)
      | (with_reducible exact spec_DrawRateAll.mono _ _)
      | (with_reducible exact LeO.refl _)
      | (with_reducible exact LeO.none _)
      | (with_reducible refine LeO.ite ?_ ?_)
      | (with_reducible refine LeO.bind ?_ (fun _ => ?_))
      | exact ih0 _ _ _ _ _ _ _ _
      | exact ih1 _ _
      | exact impl_RateAll.mono _ _ _
      | exact impl_SumRatings.mono _ _
      | exact spec_DrawAfterDebate.mono _ _
      | exact spec_DrawRateAll.mono _ _
      | exact LeO.none _
      | refine LeO.ite ?_ ?_
      | refine LeO.bind ?_ (fun _ => ?_)
    · intro y0 y1
      unfold laws_FnRatings.j1
      repeat' first
      | (with_reducible exact ih0 _ _ _ _ _ _ _ _)
      | (with_reducible exact ih1 _ _)
      | (with_reducible exact impl_RateAll.mono _ _ _)
      | (with_reducible exact impl_SumRatings.mono _ _)
      | (with_reducible exact spec_DrawAfterDebate.mono _ _)
      | (with_reducible exact spec_DrawRateAll.mono _ _)
      | (with_reducible exact LeO.refl _)
      | (with_reducible exact LeO.none _)
      | (with_reducible refine LeO.ite ?_ ?_)
      | (with_reducible refine LeO.bind ?_ (fun _ => ?_))
      | exact ih0 _ _ _ _ _ _ _ _
      | exact ih1 _ _
      | exact impl_RateAll.mono _ _ _
      | exact impl_SumRatings.mono _ _
      | exact spec_DrawAfterDebate.mono _ _
      | exact spec_DrawRateAll.mono _ _
      | exact LeO.none _
      | refine LeO.ite ?_ ?_
      | refine LeO.bind ?_ (fun _ => ?_)
theorem laws_FnRatings.mono : ∀ a0 k, LeO (laws_FnRatings.f k a0) (laws_FnRatings.f (k + 1) a0) := by
  intro a0 k
  obtain ⟨ih0, ih1⟩ := laws_FnRatings.mono_l k
  unfold laws_FnRatings.f
  repeat' first
      | (with_reducible exact ih0 _ _ _ _ _ _ _ _)
      | (with_reducible exact ih1 _ _)
      | (with_reducible exact impl_RateAll.mono _ _ _)
      | (with_reducible exact impl_SumRatings.mono _ _)
      | (with_reducible exact spec_DrawAfterDebate.mono _ _)
      | (with_reducible exact spec_DrawRateAll.mono _ _)
      | (with_reducible exact LeO.refl _)
      | (with_reducible exact LeO.none _)
      | (with_reducible refine LeO.ite ?_ ?_)
      | (with_reducible refine LeO.bind ?_ (fun _ => ?_))
      | exact ih0 _ _ _ _ _ _ _ _
      | exact ih1 _ _
      | exact impl_RateAll.mono _ _ _
      | exact impl_SumRatings.mono _ _
      | exact spec_DrawAfterDebate.mono _ _
      | exact spec_DrawRateAll.mono _ _
      | exact LeO.none _
      | refine LeO.ite ?_ ?_
      | refine LeO.bind ?_ (fun _ => ?_)
theorem laws_FnRatings.j1_no : ∀ k a0, laws_FnRatings.j1 k a0 true = some true → False := by
  intro k a0
  cases k <;> simp [laws_FnRatings.j1]
set_option maxHeartbeats 8000000 in
set_option maxRecDepth 100000 in
theorem laws_FnRatings.calls (k : Nat) (A0 : Option Addr) (c0 : Nat) (l0 : List Int) (r : Bool) (w : World) (hr0 : Kd.C (Kd.int .u8) w A0 l0.length l0) (hc0 : l0.length ≤ c0) (hr_ : r = true) (h : laws_FnRatings.f k l0 = some r) :
    Calls Try.prog 13 #[.slice A0 l0.length c0] w fun e w' => e = .returned (.bool r) ∧ Below w.heap.size w w' := by
  have HR0 := Aside0.mk hr0
  have HC0 := Aside0.mk hc0
  clear hr0 hc0
  have HB := Aside0.mk (Below.refl w.heap.size w)
  have H : ((laws_big.f l0).bind fun t227 => (if t227 = true then (some true) else ((spec_DrawAfterDebate.f k l0).bind fun bt228 => ((impl_AfterDebate.f bt228.1 bt228.2.1 bt228.2.2).bind fun bt231 => ((impl_Expected.f bt228.1 bt228.2.1).bind fun t233 => (if bt228.1 ≥ 0 then (if bt228.1 ≤ 3000 then (if bt228.2.1 ≥ 0 then (laws_FnRatings.j0 k l0 bt228.1 bt228.2.1 bt228.2.2 bt231.1 bt231.2 t233 (decide (bt228.2.1 ≤ 3000))) else (laws_FnRatings.j0 k l0 bt228.1 bt228.2.1 bt228.2.2 bt231.1 bt231.2 t233 false)) else (laws_FnRatings.j0 k l0 bt228.1 bt228.2.1 bt228.2.2 bt231.1 bt231.2 t233 false)) else (laws_FnRatings.j0 k l0 bt228.1 bt228.2.1 bt228.2.2 bt231.1 bt231.2 t233 false))))))) = some r := h
  clear h
  replace H := Option.bind_eq_some_iff.mp H
  obtain ⟨t227, A20, H⟩ := H
  replace H : (if t227 = true then (some true) else ((spec_DrawAfterDebate.f k l0).bind fun bt228 => ((impl_AfterDebate.f bt228.1 bt228.2.1 bt228.2.2).bind fun bt231 => ((impl_Expected.f bt228.1 bt228.2.1).bind fun t233 => (if bt228.1 ≥ 0 then (if bt228.1 ≤ 3000 then (if bt228.2.1 ≥ 0 then (laws_FnRatings.j0 k l0 bt228.1 bt228.2.1 bt228.2.2 bt231.1 bt231.2 t233 (decide (bt228.2.1 ≤ 3000))) else (laws_FnRatings.j0 k l0 bt228.1 bt228.2.1 bt228.2.2 bt231.1 bt231.2 t233 false)) else (laws_FnRatings.j0 k l0 bt228.1 bt228.2.1 bt228.2.2 bt231.1 bt231.2 t233 false)) else (laws_FnRatings.j0 k l0 bt228.1 bt228.2.1 bt228.2.2 bt231.1 bt231.2 t233 false)))))) = some r := H
  have A2 := Aside0.mk A20
  clear A20
  by_cases c3 : t227 = true
  · subst c3
    have H1 : (some true) = some r := by (first | replace H := (if_pos rfl).symm.trans H | rw [if_pos rfl] at H); exact H
    clear H
    have H := H1
    clear H1
    obtain rfl := Option.some.inj H
    go_enter Try.func13, Try.ntmps13
    go_wp2_with (first | ((with_reducible refine gate_callee (f := 35) rfl ?_); refine goesL_ (some 14) rfl rfl Try.func35 (by kernel_rfl) rfl #[.slice A0 l0.length c0] rfl (by (try simp only [List.map_toArray, List.map_cons, List.map_nil]); first | done | rfl | (simp only [List.length_drop, List.length_take]; rfl)) ?_; (with_reducible refine (laws_big.calls _ _ l0 true _ ?side1 ?side2 A2.out).mono ?_); (case side1 => repeat (first | exact HR0.out | (with_reducible refine Kd.C_alloc ?_ _) | (with_reducible refine Kd.C_drewN ?_ _) | (with_reducible refine Kd.C_drew ?_))); (case side2 => exact HC0.out); rintro e w' ⟨rfl, ⟨nd, rfl⟩⟩; refine ⟨_, rfl, ?_⟩))
    go_ret
    exact ⟨by first | rfl | (simp [errW_none, errW_some] <;> rfl) | (simp [*, errW_none, errW_some] <;> rfl), by repeat (first | (with_reducible first | exact HB.out | apply below_alloc | apply pw_below_drewN | apply below_drew1) | exact HB.out)⟩
  · replace c3 := Bool.eq_false_iff.mpr c3
    subst c3
    have H1 : ((spec_DrawAfterDebate.f k l0).bind fun bt228 => ((impl_AfterDebate.f bt228.1 bt228.2.1 bt228.2.2).bind fun bt231 => ((impl_Expected.f bt228.1 bt228.2.1).bind fun t233 => (if bt228.1 ≥ 0 then (if bt228.1 ≤ 3000 then (if bt228.2.1 ≥ 0 then (laws_FnRatings.j0 k l0 bt228.1 bt228.2.1 bt228.2.2 bt231.1 bt231.2 t233 (decide (bt228.2.1 ≤ 3000))) else (laws_FnRatings.j0 k l0 bt228.1 bt228.2.1 bt228.2.2 bt231.1 bt231.2 t233 false)) else (laws_FnRatings.j0 k l0 bt228.1 bt228.2.1 bt228.2.2 bt231.1 bt231.2 t233 false)) else (laws_FnRatings.j0 k l0 bt228.1 bt228.2.1 bt228.2.2 bt231.1 bt231.2 t233 false))))) = some r := by rw [if_neg (show ¬ (false = true) by decide)] at H; exact H
    clear H
    have H := H1
    clear H1
    replace H := Option.bind_eq_some_iff.mp H
    obtain ⟨⟨t228, t229, t230⟩, A40, H⟩ := H
    replace H : ((impl_AfterDebate.f t228 t229 t230).bind fun bt231 => ((impl_Expected.f t228 t229).bind fun t233 => (if t228 ≥ 0 then (if t228 ≤ 3000 then (if t229 ≥ 0 then (laws_FnRatings.j0 k l0 t228 t229 t230 bt231.1 bt231.2 t233 (decide (t229 ≤ 3000))) else (laws_FnRatings.j0 k l0 t228 t229 t230 bt231.1 bt231.2 t233 false)) else (laws_FnRatings.j0 k l0 t228 t229 t230 bt231.1 bt231.2 t233 false)) else (laws_FnRatings.j0 k l0 t228 t229 t230 bt231.1 bt231.2 t233 false)))) = some r := H
    have A4 := Aside0.mk A40
    clear A40
    replace H := Option.bind_eq_some_iff.mp H
    obtain ⟨⟨t231, t232⟩, A50, H⟩ := H
    replace H : ((impl_Expected.f t228 t229).bind fun t233 => (if t228 ≥ 0 then (if t228 ≤ 3000 then (if t229 ≥ 0 then (laws_FnRatings.j0 k l0 t228 t229 t230 t231 t232 t233 (decide (t229 ≤ 3000))) else (laws_FnRatings.j0 k l0 t228 t229 t230 t231 t232 t233 false)) else (laws_FnRatings.j0 k l0 t228 t229 t230 t231 t232 t233 false)) else (laws_FnRatings.j0 k l0 t228 t229 t230 t231 t232 t233 false))) = some r := H
    have A5 := Aside0.mk A50
    clear A50
    replace H := Option.bind_eq_some_iff.mp H
    obtain ⟨t233, A60, H⟩ := H
    replace H : (if t228 ≥ 0 then (if t228 ≤ 3000 then (if t229 ≥ 0 then (laws_FnRatings.j0 k l0 t228 t229 t230 t231 t232 t233 (decide (t229 ≤ 3000))) else (laws_FnRatings.j0 k l0 t228 t229 t230 t231 t232 t233 false)) else (laws_FnRatings.j0 k l0 t228 t229 t230 t231 t232 t233 false)) else (laws_FnRatings.j0 k l0 t228 t229 t230 t231 t232 t233 false)) = some r := H
    have A6 := Aside0.mk A60
    clear A60
    have HC7 := Aside0.mk H
    clear H
    go_enter Try.func13, Try.ntmps13
    go_upto_region 6 with (first | ((with_reducible refine gate_callee (f := 35) rfl ?_); refine goesL_ (some 14) rfl rfl Try.func35 (by kernel_rfl) rfl #[.slice A0 l0.length c0] rfl (by (try simp only [List.map_toArray, List.map_cons, List.map_nil]); first | done | rfl | (simp only [List.length_drop, List.length_take]; rfl)) ?_; (with_reducible refine (laws_big.calls _ _ l0 false _ ?side1 ?side2 A2.out).mono ?_); (case side1 => repeat (first | exact HR0.out | (with_reducible refine Kd.C_alloc ?_ _) | (with_reducible refine Kd.C_drewN ?_ _) | (with_reducible refine Kd.C_drew ?_))); (case side2 => exact HC0.out); rintro e w' ⟨rfl, ⟨nd, rfl⟩⟩; refine ⟨_, rfl, ?_⟩) | ((with_reducible refine gate_callee (f := 39) rfl ?_); refine goesL_ (some 17) rfl rfl Try.func39 (by kernel_rfl) rfl #[.slice A0 l0.length c0] rfl (by (try simp only [List.map_toArray, List.map_cons, List.map_nil]); first | done | rfl | (simp only [List.length_drop, List.length_take]; rfl)) ?_; (with_reducible refine (spec_DrawAfterDebate.calls k _ _ l0 t228 t229 t230 _ ?side1 ?side2 A4.out).mono ?_); (case side1 => repeat (first | exact HR0.out | (with_reducible refine Kd.C_alloc ?_ _) | (with_reducible refine Kd.C_drewN ?_ _) | (with_reducible refine Kd.C_drew ?_))); (case side2 => exact HC0.out); rintro e w8 ⟨rfl, hb⟩; refine ⟨_, rfl, ?_⟩; have n0_ := Aside0.mk (below_step (by repeat (first | (with_reducible first | exact HB.out | apply below_alloc | apply pw_below_drewN | apply below_drew1) | exact HB.out)) hb); clear HB; have HB := n0_; clear n0_; (try clear hb); (try clear hb2); (try clear hk); (try clear hi)) | ((with_reducible refine gate_callee (f := 34) rfl ?_); refine goesL_ (some 25) rfl rfl Try.func34 (by kernel_rfl) rfl #[.int .i64 t228, .int .i64 t229, .bool t230] rfl (by (try simp only [List.map_toArray, List.map_cons, List.map_nil]); first | done | rfl | (simp only [List.length_drop, List.length_take]; rfl)) ?_; (with_reducible refine (impl_AfterDebate.calls t228 t229 t230 t231 t232 _ A5.out).mono ?_); rintro e w9 ⟨rfl, hb⟩; refine ⟨_, rfl, ?_⟩; have n0_ := Aside0.mk (below_step (by repeat (first | (with_reducible first | exact HB.out | apply below_alloc | apply pw_below_drewN | apply below_drew1) | exact HB.out)) hb); clear HB; have HB := n0_; clear n0_; (try clear hb); (try clear hb2); (try clear hk); (try clear hi)) | ((with_reducible refine gate_callee (f := 22) rfl ?_); refine goesL_ (some 30) rfl rfl Try.func22 (by kernel_rfl) rfl #[.int .i64 t228, .int .i64 t229] rfl (by (try simp only [List.map_toArray, List.map_cons, List.map_nil]); first | done | rfl | (simp only [List.length_drop, List.length_take]; rfl)) ?_; (with_reducible refine (impl_Expected.calls t228 t229 t233 _ A6.out).mono ?_); rintro e w10 ⟨rfl, hb⟩; refine ⟨_, rfl, ?_⟩; have n0_ := Aside0.mk (below_step (by repeat (first | (with_reducible first | exact HB.out | apply below_alloc | apply pw_below_drewN | apply below_drew1) | exact HB.out)) hb); clear HB; have HB := n0_; clear n0_; (try clear hb); (try clear hb2); (try clear hk); (try clear hi)))
    (try simp only [Act.put, List.setIfInBounds_toArray, List.set_cons_zero, List.set_cons_succ])
    go_cut [9] (fun v9 wc => ∃ (kq : Nat) (x9_6 : Bool), v9 = .bool x9_6 ∧ Aside0 (laws_FnRatings.j0 kq l0 t228 t229 t230 t231 t232 t233 x9_6 = some r) ∧ Aside0 (kq ≤ k) ∧ Aside0 (Below w.heap.size w wc))
    case first =>
      have H := HC7.out
      clear HC7
      by_cases c11 : t228 ≥ 0
      · (first | replace H := (if_pos c11).symm.trans H | rw [if_pos c11] at H)
        have c11b0 : decide (0 ≤ t228) = true := decide_eq_true c11
        clear c11
        (first | rw [c11b0] | (simp only [i64_w, i32_w]; rw [c11b0]) | skip)
        by_cases c12 : t228 ≤ 3000
        · (first | replace H := (if_pos c12).symm.trans H | rw [if_pos c12] at H)
          have c12b0 : decide (t228 ≤ 3000) = true := decide_eq_true c12
          clear c12
          by_cases c13 : t229 ≥ 0
          · (first | replace H := (if_pos c13).symm.trans H | rw [if_pos c13] at H)
            have c13b0 : decide (0 ≤ t229) = true := decide_eq_true c13
            clear c13
            have H' := Aside0.mk H
            clear H
            (try dsimp only [List.append])
            go_wp2
            all_goals (try (exfalso; apply (show ¬ ∃ b_ : Bool, some (undef : Value) = some (Value.bool b_) by simp [undef]); apply Exists.intro; assumption))
            go_meet
            case rel => exact ⟨_, (decide (t229 ≤ 3000)), (by first | rfl | (simp; done) | (simp [*]; done)), H', ⟨by first | omega | exact Nat.le_refl _⟩, ⟨by repeat (first | (with_reducible first | exact HB.out | apply below_alloc | apply pw_below_drewN | apply below_drew1) | exact HB.out)⟩⟩
          · (first | replace H := (if_neg c13).symm.trans H | rw [if_neg c13] at H)
            have c13b0 : decide (0 ≤ t229) = false := decide_eq_false c13
            clear c13
            have H' := Aside0.mk H
            clear H
            (try dsimp only [List.append])
            go_wp2
            all_goals (try (exfalso; apply (show ¬ ∃ b_ : Bool, some (undef : Value) = some (Value.bool b_) by simp [undef]); apply Exists.intro; assumption))
            go_meet
            case rel => exact ⟨_, (false), (by first | rfl | (simp; done) | (simp [*]; done)), H', ⟨by first | omega | exact Nat.le_refl _⟩, ⟨by repeat (first | (with_reducible first | exact HB.out | apply below_alloc | apply pw_below_drewN | apply below_drew1) | exact HB.out)⟩⟩
        · (first | replace H := (if_neg c12).symm.trans H | rw [if_neg c12] at H)
          have c12b0 : decide (t228 ≤ 3000) = false := decide_eq_false c12
          clear c12
          have H' := Aside0.mk H
          clear H
          (try dsimp only [List.append])
          go_wp2
          all_goals (try (exfalso; apply (show ¬ ∃ b_ : Bool, some (undef : Value) = some (Value.bool b_) by simp [undef]); apply Exists.intro; assumption))
          go_meet
          case rel => exact ⟨_, (false), (by first | rfl | (simp; done) | (simp [*]; done)), H', ⟨by first | omega | exact Nat.le_refl _⟩, ⟨by repeat (first | (with_reducible first | exact HB.out | apply below_alloc | apply pw_below_drewN | apply below_drew1) | exact HB.out)⟩⟩
      · (first | replace H := (if_neg c11).symm.trans H | rw [if_neg c11] at H)
        have c11b0 : decide (0 ≤ t228) = false := decide_eq_false c11
        clear c11
        (first | rw [c11b0] | (simp only [i64_w, i32_w]; rw [c11b0]) | skip)
        have H' := Aside0.mk H
        clear H
        (try dsimp only [List.append])
        go_wp2
        all_goals (try (exfalso; apply (show ¬ ∃ b_ : Bool, some (undef : Value) = some (Value.bool b_) by simp [undef]); apply Exists.intro; assumption))
        go_meet
        case rel => exact ⟨_, (false), (by first | rfl | (simp; done) | (simp [*]; done)), H', ⟨by first | omega | exact Nat.le_refl _⟩, ⟨by repeat (first | (with_reducible first | exact HB.out | apply below_alloc | apply pw_below_drewN | apply below_drew1) | exact HB.out)⟩⟩
    case rest =>
      clear HC7
      try clear c1
      try clear c2
      try clear p2
      try clear c3
      try clear c11
      try clear c11b0
      try clear c12
      try clear c12b0
      try clear c13
      try clear c13b0
      obtain ⟨kq, x9_6, rfl, HA, HJ6, HB⟩ := hcut
      cases kq with
      | zero => exact absurd HA.out (by simp [laws_FnRatings.j0])
      | succ kj6 =>
        have H := HA.out
        clear HA
        simp only [laws_FnRatings.j0] at H
        have HC14 := Aside0.mk H
        clear H
        go_upto_region 7 with (fail)
        go_cut [115] (fun v115 wc => ∃ (kq : Nat) (x115_13 : Bool), v115 = .bool x115_13 ∧ Aside0 (laws_FnRatings.j1 kq l0 x115_13 = some r) ∧ Aside0 (kq ≤ kj6) ∧ Aside0 (Below w.heap.size w wc))
        case first =>
          have H := HC14.out
          clear HC14
          by_cases c15 : (wrap64 (t231 + t232)) = (wrap64 (t228 + t229))
          · (first | replace H := (if_pos c15).symm.trans H | rw [if_pos c15] at H)
            have c15b0 : ((wrap64 (t231 + t232)) == (wrap64 (t228 + t229))) = true := beq_iff_eq.mpr c15
            have c15b1 : ((wrap64 (t231 + t232)) != (wrap64 (t228 + t229))) = false := bne_eq_false_iff_eq.mpr c15
            clear c15
            (first | rw [c15b0] | (simp only [i64_w, i32_w]; rw [c15b0]) | skip)
            by_cases c16 : ((decide (t233 ≥ 0)) != x9_6) = true
            · (first | replace H := (if_pos c16).symm.trans H | rw [if_pos c16] at H)
              have c16b0 : (decide (0 ≤ t233) != x9_6) = true := c16
              clear c16
              exact absurd (H.trans (congrArg some hr_)) (fun h_ => laws_FnRatings.j1_no _ _ h_)
            · (first | replace H := (if_neg c16).symm.trans H | rw [if_neg c16] at H)
              have c16b0 : (decide (0 ≤ t233) != x9_6) = false := Bool.eq_false_iff.mpr c16
              clear c16
              by_cases c17 : x9_6 = true
              · subst c17
                have c16b8 := bne_eq_false_iff_eq.mp c16b0
                have H1 : ((impl_Expected.f t229 t228).bind fun t234 => (if (wrap64 (t233 + t234)) = 1000 then (if t231 < 0 then (laws_FnRatings.j1 kj6 l0 true) else (if t231 > 3000 then (laws_FnRatings.j1 kj6 l0 true) else (if t232 < 0 then (laws_FnRatings.j1 kj6 l0 true) else (if t232 > 3000 then (laws_FnRatings.j1 kj6 l0 true) else (if t230 = true then (if t231 < t228 then (laws_FnRatings.j1 kj6 l0 true) else (laws_FnRatings.j1 kj6 l0 false)) else (if t231 > t228 then (laws_FnRatings.j1 kj6 l0 true) else (laws_FnRatings.j1 kj6 l0 false))))))) else (laws_FnRatings.j1 kj6 l0 true))) = some r := by (first | replace H := (if_pos rfl).symm.trans H | rw [if_pos rfl] at H); exact H
                clear H
                have H := H1
                clear H1
                replace H := Option.bind_eq_some_iff.mp H
                obtain ⟨t234, A180, H⟩ := H
                replace H : (if (wrap64 (t233 + t234)) = 1000 then (if t231 < 0 then (laws_FnRatings.j1 kj6 l0 true) else (if t231 > 3000 then (laws_FnRatings.j1 kj6 l0 true) else (if t232 < 0 then (laws_FnRatings.j1 kj6 l0 true) else (if t232 > 3000 then (laws_FnRatings.j1 kj6 l0 true) else (if t230 = true then (if t231 < t228 then (laws_FnRatings.j1 kj6 l0 true) else (laws_FnRatings.j1 kj6 l0 false)) else (if t231 > t228 then (laws_FnRatings.j1 kj6 l0 true) else (laws_FnRatings.j1 kj6 l0 false))))))) else (laws_FnRatings.j1 kj6 l0 true)) = some r := H
                have A18 := Aside0.mk A180
                clear A180
                by_cases c19 : (wrap64 (t233 + t234)) = 1000
                · (first | replace H := (if_pos c19).symm.trans H | rw [if_pos c19] at H)
                  have c19b0 : ((wrap64 (t233 + t234)) == 1000) = true := beq_iff_eq.mpr c19
                  have c19b1 : ((wrap64 (t233 + t234)) != 1000) = false := bne_eq_false_iff_eq.mpr c19
                  clear c19
                  by_cases c20 : t231 < 0
                  · (first | replace H := (if_pos c20).symm.trans H | rw [if_pos c20] at H)
                    have c20b0 : decide (t231 < 0) = true := decide_eq_true c20
                    clear c20
                    exact absurd (H.trans (congrArg some hr_)) (fun h_ => laws_FnRatings.j1_no _ _ h_)
                  · (first | replace H := (if_neg c20).symm.trans H | rw [if_neg c20] at H)
                    have c20b0 : decide (t231 < 0) = false := decide_eq_false c20
                    clear c20
                    by_cases c22 : t231 > 3000
                    · (first | replace H := (if_pos c22).symm.trans H | rw [if_pos c22] at H)
                      have c22b0 : decide (3000 < t231) = true := decide_eq_true c22
                      clear c22
                      exact absurd (H.trans (congrArg some hr_)) (fun h_ => laws_FnRatings.j1_no _ _ h_)
                    · (first | replace H := (if_neg c22).symm.trans H | rw [if_neg c22] at H)
                      have c22b0 : decide (3000 < t231) = false := decide_eq_false c22
                      clear c22
                      by_cases c24 : t232 < 0
                      · (first | replace H := (if_pos c24).symm.trans H | rw [if_pos c24] at H)
                        have c24b0 : decide (t232 < 0) = true := decide_eq_true c24
                        clear c24
                        exact absurd (H.trans (congrArg some hr_)) (fun h_ => laws_FnRatings.j1_no _ _ h_)
                      · (first | replace H := (if_neg c24).symm.trans H | rw [if_neg c24] at H)
                        have c24b0 : decide (t232 < 0) = false := decide_eq_false c24
                        clear c24
                        by_cases c26 : t232 > 3000
                        · (first | replace H := (if_pos c26).symm.trans H | rw [if_pos c26] at H)
                          have c26b0 : decide (3000 < t232) = true := decide_eq_true c26
                          clear c26
                          exact absurd (H.trans (congrArg some hr_)) (fun h_ => laws_FnRatings.j1_no _ _ h_)
                        · (first | replace H := (if_neg c26).symm.trans H | rw [if_neg c26] at H)
                          have c26b0 : decide (3000 < t232) = false := decide_eq_false c26
                          clear c26
                          by_cases c28 : t230 = true
                          · subst c28
                            have H1 : (if t231 < t228 then (laws_FnRatings.j1 kj6 l0 true) else (laws_FnRatings.j1 kj6 l0 false)) = some r := by (first | replace H := (if_pos rfl).symm.trans H | rw [if_pos rfl] at H); exact H
                            clear H
                            have H := H1
                            clear H1
                            by_cases c29 : t231 < t228
                            · (first | replace H := (if_pos c29).symm.trans H | rw [if_pos c29] at H)
                              have c29b0 : decide (t231 < t228) = true := decide_eq_true c29
                              clear c29
                              exact absurd (H.trans (congrArg some hr_)) (fun h_ => laws_FnRatings.j1_no _ _ h_)
                            · (first | replace H := (if_neg c29).symm.trans H | rw [if_neg c29] at H)
                              have c29b0 : decide (t231 < t228) = false := decide_eq_false c29
                              clear c29
                              have H' := Aside0.mk H
                              clear H
                              (try dsimp only [List.append])
                              go_wp2_with (first | (go_at_call 22; (with_reducible refine (impl_Expected.calls t229 t228 t234 _ A18.out).mono ?_); rintro e w31 ⟨rfl, hb⟩; have n0_ := Aside0.mk (below_step (by repeat (first | (with_reducible first | exact HB.out | apply below_alloc | apply pw_below_drewN | apply below_drew1) | exact HB.out)) hb); clear HB; have HB := n0_; clear n0_; (try clear hb); (try clear hb2); (try clear hk); (try clear hi)))
                              all_goals (try (exfalso; apply (show ¬ ∃ b_ : Bool, some (undef : Value) = some (Value.bool b_) by simp [undef]); apply Exists.intro; assumption))
                              go_meet
                              case rel => exact ⟨_, (false), (by first | rfl | (simp; done) | (simp [*]; done)), H', ⟨by have := HJ6.out; first | omega | exact Nat.le_refl _⟩, ⟨by repeat (first | (with_reducible first | exact HB.out | apply below_alloc | apply pw_below_drewN | apply below_drew1) | exact HB.out)⟩⟩
                          · replace c28 := Bool.eq_false_iff.mpr c28
                            subst c28
                            have H1 : (if t231 > t228 then (laws_FnRatings.j1 kj6 l0 true) else (laws_FnRatings.j1 kj6 l0 false)) = some r := by rw [if_neg (show ¬ (false = true) by decide)] at H; exact H
                            clear H
                            have H := H1
                            clear H1
                            by_cases c32 : t231 > t228
                            · (first | replace H := (if_pos c32).symm.trans H | rw [if_pos c32] at H)
                              have c32b0 : decide (t228 < t231) = true := decide_eq_true c32
                              clear c32
                              exact absurd (H.trans (congrArg some hr_)) (fun h_ => laws_FnRatings.j1_no _ _ h_)
                            · (first | replace H := (if_neg c32).symm.trans H | rw [if_neg c32] at H)
                              have c32b0 : decide (t228 < t231) = false := decide_eq_false c32
                              clear c32
                              have H' := Aside0.mk H
                              clear H
                              (try dsimp only [List.append])
                              go_wp2_with (first | (go_at_call 22; (with_reducible refine (impl_Expected.calls t229 t228 t234 _ A18.out).mono ?_); rintro e w34 ⟨rfl, hb⟩; have n0_ := Aside0.mk (below_step (by repeat (first | (with_reducible first | exact HB.out | apply below_alloc | apply pw_below_drewN | apply below_drew1) | exact HB.out)) hb); clear HB; have HB := n0_; clear n0_; (try clear hb); (try clear hb2); (try clear hk); (try clear hi)))
                              all_goals (try (exfalso; apply (show ¬ ∃ b_ : Bool, some (undef : Value) = some (Value.bool b_) by simp [undef]); apply Exists.intro; assumption))
                              go_meet
                              case rel => exact ⟨_, (false), (by first | rfl | (simp; done) | (simp [*]; done)), H', ⟨by have := HJ6.out; first | omega | exact Nat.le_refl _⟩, ⟨by repeat (first | (with_reducible first | exact HB.out | apply below_alloc | apply pw_below_drewN | apply below_drew1) | exact HB.out)⟩⟩
                · (first | replace H := (if_neg c19).symm.trans H | rw [if_neg c19] at H)
                  have c19b0 : ((wrap64 (t233 + t234)) == 1000) = false := beq_eq_false_iff_ne.mpr c19
                  have c19b1 : ((wrap64 (t233 + t234)) != 1000) = true := bne_iff_ne.mpr c19
                  exact absurd (H.trans (congrArg some hr_)) (fun h_ => laws_FnRatings.j1_no _ _ h_)
              · replace c17 := Bool.eq_false_iff.mpr c17
                subst c17
                have c16b8 := bne_eq_false_iff_eq.mp c16b0
                have H1 : (if t231 = t228 then (laws_FnRatings.j1 kj6 l0 (t232 != t229)) else (laws_FnRatings.j1 kj6 l0 true)) = some r := by rw [if_neg (show ¬ (false = true) by decide)] at H; exact H
                clear H
                have H := H1
                clear H1
                by_cases c36 : t231 = t228
                · (first | replace H := (if_pos c36).symm.trans H | rw [if_pos c36] at H)
                  have c36b0 : (t231 == t228) = true := beq_iff_eq.mpr c36
                  have c36b1 : (t231 != t228) = false := bne_eq_false_iff_eq.mpr c36
                  clear c36
                  have H' := Aside0.mk H
                  clear H
                  (try dsimp only [List.append])
                  go_wp2
                  all_goals (try (exfalso; apply (show ¬ ∃ b_ : Bool, some (undef : Value) = some (Value.bool b_) by simp [undef]); apply Exists.intro; assumption))
                  go_meet
                  case rel => exact ⟨_, ((t232 != t229)), (by first | rfl | (simp; done) | (simp [*]; done)), H', ⟨by have := HJ6.out; first | omega | exact Nat.le_refl _⟩, ⟨by repeat (first | (with_reducible first | exact HB.out | apply below_alloc | apply pw_below_drewN | apply below_drew1) | exact HB.out)⟩⟩
                · (first | replace H := (if_neg c36).symm.trans H | rw [if_neg c36] at H)
                  have c36b0 : (t231 == t228) = false := beq_eq_false_iff_ne.mpr c36
                  have c36b1 : (t231 != t228) = true := bne_iff_ne.mpr c36
                  exact absurd (H.trans (congrArg some hr_)) (fun h_ => laws_FnRatings.j1_no _ _ h_)
          · (first | replace H := (if_neg c15).symm.trans H | rw [if_neg c15] at H)
            have c15b0 : ((wrap64 (t231 + t232)) == (wrap64 (t228 + t229))) = false := beq_eq_false_iff_ne.mpr c15
            have c15b1 : ((wrap64 (t231 + t232)) != (wrap64 (t228 + t229))) = true := bne_iff_ne.mpr c15
            (first | rw [c15b0] | (simp only [i64_w, i32_w]; rw [c15b0]) | skip)
            exact absurd (H.trans (congrArg some hr_)) (fun h_ => laws_FnRatings.j1_no _ _ h_)
        case rest =>
          clear HC14
          try clear c1
          try clear c2
          try clear p2
          try clear c3
          try clear p6
          try clear c11
          try clear c11b0
          try clear c12
          try clear c12b0
          try clear c13
          try clear c13b0
          try clear c15
          try clear c15b0
          try clear c15b1
          try clear c16
          try clear c16b0
          try clear c16b1
          try clear c16b2
          try clear c17
          try clear c19
          try clear c19b0
          try clear c19b1
          try clear c20
          try clear c20b0
          try clear c22
          try clear c22b0
          try clear c24
          try clear c24b0
          try clear c26
          try clear c26b0
          try clear c28
          try clear c29
          try clear c29b0
          try clear c32
          try clear c32b0
          try clear c34
          try clear c35
          try clear c36
          try clear c36b0
          try clear c36b1
          try clear p2
          obtain ⟨kq, x115_13, rfl, HA, HJ13, HB⟩ := hcut
          cases kq with
          | zero => exact absurd HA.out (by simp [laws_FnRatings.j1])
          | succ kj13 =>
            have H := HA.out
            clear HA
            simp only [laws_FnRatings.j1] at H
            by_cases c37 : x115_13 = true
            · subst c37
              have H1 : (some false) = some r := by (first | replace H := (if_pos rfl).symm.trans H | rw [if_pos rfl] at H); exact H
              clear H
              have H := H1
              clear H1
              exact absurd ((Option.some.inj H).trans hr_) (by decide)
            · replace c37 := Bool.eq_false_iff.mpr c37
              subst c37
              have H1 : ((spec_DrawRateAll.f kj13 l0).bind fun bt235 => ((impl_RateAll.f kj13 bt235.1 bt235.2).bind fun t241 => (if (t241.length : Int) = (bt235.1.length : Int) then ((impl_SumRatings.f kj13 t241).bind fun t244 => ((impl_SumRatings.f kj13 bt235.1).bind fun t245 => (some (t244 == t245)))) else (some false)))) = some r := by rw [if_neg (show ¬ (false = true) by decide)] at H; exact H
              clear H
              have H := H1
              clear H1
              replace H := Option.bind_eq_some_iff.mp H
              obtain ⟨⟨t235, t236⟩, A380, H⟩ := H
              replace H : ((impl_RateAll.f kj13 t235 t236).bind fun t241 => (if (t241.length : Int) = (t235.length : Int) then ((impl_SumRatings.f kj13 t241).bind fun t244 => ((impl_SumRatings.f kj13 t235).bind fun t245 => (some (t244 == t245)))) else (some false))) = some r := H
              have A38 := Aside0.mk A380
              clear A380
              replace H := Option.bind_eq_some_iff.mp H
              obtain ⟨t241, A390, H⟩ := H
              replace H : (if (t241.length : Int) = (t235.length : Int) then ((impl_SumRatings.f kj13 t241).bind fun t244 => ((impl_SumRatings.f kj13 t235).bind fun t245 => (some (t244 == t245)))) else (some false)) = some r := H
              have A39 := Aside0.mk A390
              clear A390
              by_cases c40 : (t241.length : Int) = (t235.length : Int)
              · (first | replace H := (if_pos c40).symm.trans H | rw [if_pos c40] at H)
                have c40b0 : ((t241.length : Int) == (t235.length : Int)) = true := beq_iff_eq.mpr c40
                have c40b1 : ((t241.length : Int) != (t235.length : Int)) = false := bne_eq_false_iff_eq.mpr c40
                have c40b2 : (t241.length == t235.length) = true := by first | simpa using c40 | (simp at c40 ⊢; omega)
                clear c40
                replace H := Option.bind_eq_some_iff.mp H
                obtain ⟨t244, A410, H⟩ := H
                replace H : ((impl_SumRatings.f kj13 t235).bind fun t245 => (some (t244 == t245))) = some r := H
                have A41 := Aside0.mk A410
                clear A410
                replace H := Option.bind_eq_some_iff.mp H
                obtain ⟨t245, A420, H⟩ := H
                replace H : (some (t244 == t245)) = some r := H
                have A42 := Aside0.mk A420
                clear A420
                obtain rfl := Option.some.inj H
                go_wp2_with (first | ((with_reducible refine gate_callee (f := 40) rfl ?_); refine goesL_ (some 118) rfl rfl Try.func40 (by kernel_rfl) rfl #[.slice A0 l0.length c0] rfl (by (try simp only [List.map_toArray, List.map_cons, List.map_nil]); first | done | rfl | (simp only [List.length_drop, List.length_take]; rfl)) ?_; (with_reducible refine (spec_DrawRateAll.calls kj13 _ _ l0 t235 t236 _ ?side1 ?side2 A38.out).mono ?_); (case side1 => repeat (first | exact (Kd.C_below HR0.out HB.out) | (with_reducible refine Kd.C_alloc ?_ _) | (with_reducible refine Kd.C_drewN ?_ _) | (with_reducible refine Kd.C_drew ?_))); (case side2 => exact HC0.out); rintro e w43 ⟨v237, v239, rfl, ho0, ho1, hb⟩; refine ⟨_, rfl, ?_⟩; have n0_ := Aside0.mk (Kd.R_lower ho0 (below_size (by repeat (first | (with_reducible first | exact HB.out | apply below_alloc | apply pw_below_drewN | apply below_drew1) | exact HB.out)))); have n1_ := Aside0.mk (Kd.S_lower ho1 (below_size (by repeat (first | (with_reducible first | exact HB.out | apply below_alloc | apply pw_below_drewN | apply below_drew1) | exact HB.out)))); have n2_ := Aside0.mk (below_step (by repeat (first | (with_reducible first | exact HB.out | apply below_alloc | apply pw_below_drewN | apply below_drew1) | exact HB.out)) hb); clear HB; have HO238 := n0_; have HO240 := n1_; have HB := n2_; clear n0_ n1_ n2_; (try clear hb); (try clear hb2); (try clear hk); (try clear hi); (try clear ho0); (try clear ho1); obtain ⟨Ao44, co44, eo44⟩ := Kd.R_slice HO238.out; subst eo44; obtain ⟨Ao45, co45, eo45⟩ := Kd.S_slice HO240.out; subst eo45) | ((with_reducible refine gate_callee (f := 41) rfl ?_); refine goesL_ (some 123) rfl rfl Try.func41 (by kernel_rfl) rfl #[.slice Ao44 t235.length co44, .slice Ao45 t236.length co45] rfl (by (try simp only [List.map_toArray, List.map_cons, List.map_nil]); first | done | rfl | (simp only [List.length_drop, List.length_take]; rfl)) ?_; (with_reducible refine (impl_RateAll.calls kj13 _ _ t235 _ _ t236 t241 _ ?side1 ?side2 ?side3 ?side4 A39.out).mono ?_); (case side1 => repeat (first | exact (Kd.R_reads' HO238.out).2.2 | (with_reducible refine Kd.C_alloc ?_ _) | (with_reducible refine Kd.C_drewN ?_ _) | (with_reducible refine Kd.C_drew ?_))); (case side2 => exact (Kd.R_reads' HO238.out).2.1); (case side3 => repeat (first | exact (Kd.S_reads' HO240.out).2.2 | (with_reducible refine Kd.C_alloc ?_ _) | (with_reducible refine Kd.C_drewN ?_ _) | (with_reducible refine Kd.C_drew ?_))); (case side4 => exact (Kd.S_reads' HO240.out).2.1); rintro e w46 ⟨v242, rfl, ho0, hb⟩; refine ⟨_, rfl, ?_⟩; have n0_ := Aside0.mk (Kd.R_elder' (by (with_reducible repeat (first | apply Kd.R_alloc | apply Kd.R_drewN | apply Kd.R_drew)); exact HO238.out) (Kd.R_base ho0) hb); have n1_ := Aside0.mk (Kd.S_elder' (by (with_reducible repeat (first | apply Kd.S_alloc | apply Kd.S_drewN | apply Kd.S_drew)); exact HO240.out) (Kd.R_base ho0) hb); have n2_ := Aside0.mk (Kd.R_lower (Kd.R_new' ho0 (Kd.R_lt (by (with_reducible repeat (first | apply Kd.R_alloc | apply Kd.R_drewN | apply Kd.R_drew)); exact HO238.out))) (below_size (by repeat (first | (with_reducible first | exact HB.out | apply below_alloc | apply pw_below_drewN | apply below_drew1) | exact HB.out)))); have n3_ := Aside0.mk (below_step (by repeat (first | (with_reducible first | exact HB.out | apply below_alloc | apply pw_below_drewN | apply below_drew1) | exact HB.out)) hb); clear HO238; clear HO240; clear HB; have HO238 := n0_; have HO240 := n1_; have HO243 := n2_; have HB := n3_; clear n0_ n1_ n2_ n3_; (try clear hb); (try clear hb2); (try clear hk); (try clear hi); (try clear ho0); obtain ⟨Ao47, co47, eo47⟩ := Kd.R_slice HO243.out; subst eo47) | (go_at_call 27; (with_reducible refine (impl_SumRatings.calls kj13 _ _ t241 t244 _ ?side1 ?side2 A41.out).mono ?_); (case side1 => repeat (first | exact (Kd.R_reads' HO243.out).2.2 | (with_reducible refine Kd.C_alloc ?_ _) | (with_reducible refine Kd.C_drewN ?_ _) | (with_reducible refine Kd.C_drew ?_))); (case side2 => exact (Kd.R_reads' HO243.out).2.1); rintro e w48 ⟨rfl, hb⟩; have n0_ := Aside0.mk (Kd.R_below (by (with_reducible repeat (first | apply Kd.R_alloc | apply Kd.R_drewN | apply Kd.R_drew)); exact HO238.out) hb); have n1_ := Aside0.mk (Kd.S_below (by (with_reducible repeat (first | apply Kd.S_alloc | apply Kd.S_drewN | apply Kd.S_drew)); exact HO240.out) hb); have n2_ := Aside0.mk (Kd.R_below (by (with_reducible repeat (first | apply Kd.R_alloc | apply Kd.R_drewN | apply Kd.R_drew)); exact HO243.out) hb); have n3_ := Aside0.mk (below_step (by repeat (first | (with_reducible first | exact HB.out | apply below_alloc | apply pw_below_drewN | apply below_drew1) | exact HB.out)) hb); clear HO238; clear HO240; clear HO243; clear HB; have HO238 := n0_; have HO240 := n1_; have HO243 := n2_; have HB := n3_; clear n0_ n1_ n2_ n3_; (try clear hb); (try clear hb2); (try clear hk); (try clear hi)) | (go_at_call 27; (with_reducible refine (impl_SumRatings.calls kj13 _ _ t235 t245 _ ?side1 ?side2 A42.out).mono ?_); (case side1 => repeat (first | exact (Kd.R_reads' HO238.out).2.2 | (with_reducible refine Kd.C_alloc ?_ _) | (with_reducible refine Kd.C_drewN ?_ _) | (with_reducible refine Kd.C_drew ?_))); (case side2 => exact (Kd.R_reads' HO238.out).2.1); rintro e w49 ⟨rfl, hb⟩; have n0_ := Aside0.mk (Kd.R_below (by (with_reducible repeat (first | apply Kd.R_alloc | apply Kd.R_drewN | apply Kd.R_drew)); exact HO238.out) hb); have n1_ := Aside0.mk (Kd.S_below (by (with_reducible repeat (first | apply Kd.S_alloc | apply Kd.S_drewN | apply Kd.S_drew)); exact HO240.out) hb); have n2_ := Aside0.mk (Kd.R_below (by (with_reducible repeat (first | apply Kd.R_alloc | apply Kd.R_drewN | apply Kd.R_drew)); exact HO243.out) hb); have n3_ := Aside0.mk (below_step (by repeat (first | (with_reducible first | exact HB.out | apply below_alloc | apply pw_below_drewN | apply below_drew1) | exact HB.out)) hb); clear HO238; clear HO240; clear HO243; clear HB; have HO238 := n0_; have HO240 := n1_; have HO243 := n2_; have HB := n3_; clear n0_ n1_ n2_ n3_; (try clear hb); (try clear hb2); (try clear hk); (try clear hi)))
                go_ret
                exact ⟨by first | rfl | (simp [errW_none, errW_some] <;> rfl) | (simp [*, errW_none, errW_some] <;> rfl), by repeat (first | (with_reducible first | exact HB.out | apply below_alloc | apply pw_below_drewN | apply below_drew1) | exact HB.out)⟩
              · (first | replace H := (if_neg c40).symm.trans H | rw [if_neg c40] at H)
                have c40b0 : ((t241.length : Int) == (t235.length : Int)) = false := beq_eq_false_iff_ne.mpr c40
                have c40b1 : ((t241.length : Int) != (t235.length : Int)) = true := bne_iff_ne.mpr c40
                have c40b2 : (t241.length == t235.length) = false := by first | simpa using c40 | (simp at c40 ⊢; omega)
                exact absurd ((Option.some.inj H).trans hr_) (by decide)

/-- THE ONE PURE STATEMENT of laws_FnRatings: yours. -/
def laws_FnRatings.Pure : Prop := ∀ (l0 : List Int), l0.length ≤ maxLen → l0.length * 1 ≤ 140737488351232 → (∀ x ∈ l0, (Lit.int .u8 x).wf = true) → ∃ k, laws_FnRatings.f k l0 = some true
theorem laws_FnRatings.walk (P : laws_FnRatings.Pure) (a0 : Option Addr) (len0 cap0 : Nat) (z0 : List Int) (w : World) (w0 : (a0 = none ∧ len0 = 0 ∧ cap0 = 0 ∧ z0 = []) ∨ ∃ x, a0 = some x ∧ len0 ≤ cap0 ∧ cap0 ≤ maxLen ∧ z0.length = cap0 ∧ (∀ i, i < z0.length → w.cell? (x.add i) = some (.int .u8 (z0.getD i 0))) ∧ ∀ n ∈ z0, (Lit.int .u8 n).wf = true) (y0 : len0 * 1 ≤ 140737488351232) :
    Calls Try.prog 13 #[.slice a0 len0 cap0] w fun e w' => e = .returned (.bool true) ∧ Below w.heap.size w w' := by
  obtain ⟨l0, rfl, hr0, hm0, hw0, hc0⟩ := ReadsInt.ofRowC w0
  obtain ⟨k, h⟩ := P l0 hm0 y0 hw0
  refine (laws_FnRatings.calls k _ _ l0 true w (Kd.C_of_reads (d := (0 : Int)) (h1 := fun _ => rfl) hr0) hc0 rfl h).mono ?_
  rintro e w' ⟨rfl, hd⟩
  exact ⟨rfl, hd⟩

end Go.Proofs.Ytefcdlkmifieeaa.QFnRatings
