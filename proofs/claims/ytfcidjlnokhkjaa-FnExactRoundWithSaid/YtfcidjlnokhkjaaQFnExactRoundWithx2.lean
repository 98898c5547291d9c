-- Laid by this session's own program (wip/myprint.py), the kit's printer its engine; turned by hand where that fell. Lean checks it.
import Derived.Test.YtfcidjlnokhkjaaQFnExactRoundWithx0
namespace Go.Proofs.Ytfcidjlnokhkjaa.QFnExactRoundWith
open Go.RowKit Go.Proofs.YtfcidjlnokhkjaaW.PrintWords Go.Proofs.YtfcidjlnokhkjaaW.PrintLast Go.Proofs.YtfcidjlnokhkjaaW.PrintMore
attribute [local go_sem] max2_int min2_int max_two min_two max_three min_three max_four min_four   -- for this text's walks alone
set_option linter.unusedVariables false
set_option linter.unusedSimpArgs false

/-! ### spec_l31With: function 79 -/
def spec_l31With.l0 : Nat → List (List Int) → Int → Int → Int → Option (Bool)
  | 0, _, _, _, _ => none
  | k + 1, x0, x1, x2, x7 => if x7 < (x0.length : Int) then (if 0 ≤ x7 then (if ((rd_L1 x0 x7).length : Int) = 2 then (if 0 < ((rd_L1 x0 x7).length : Int) then (if (rd (rd_L1 x0 x7) 0) = x1 then (if 1 < ((rd_L1 x0 x7).length : Int) then (if (rd (rd_L1 x0 x7) 1) = x2 then (some true) else (if (rd (rd_L1 x0 x7) 0) = x2 then (if (rd (rd_L1 x0 x7) 1) = x1 then (some true) else (spec_l31With.l0 k x0 x1 x2 (wrap64 (x7 + 1)))) else (spec_l31With.l0 k x0 x1 x2 (wrap64 (x7 + 1))))) else (none)) else (if (rd (rd_L1 x0 x7) 0) = x2 then (if 1 < ((rd_L1 x0 x7).length : Int) then (if (rd (rd_L1 x0 x7) 1) = x1 then (some true) else (spec_l31With.l0 k x0 x1 x2 (wrap64 (x7 + 1)))) else (none)) else (spec_l31With.l0 k x0 x1 x2 (wrap64 (x7 + 1))))) else (none)) else (spec_l31With.l0 k x0 x1 x2 (wrap64 (x7 + 1)))) else (none)) else (some false)
def spec_l31With.f (k : Nat) (l0 : List (List Int)) (a1 : Int) (a2 : Int) : Option (Bool) := spec_l31With.l0 k l0 a1 a2 0
theorem spec_l31With.mono_l : ∀ k, (∀ y0 y1 y2 y3, LeO (spec_l31With.l0 k y0 y1 y2 y3) (spec_l31With.l0 (k + 1) y0 y1 y2 y3))
  | 0 => fun _ _ _ _ r h => by simp [spec_l31With.l0] at h
  | k + 1 => by
    have ih0 := spec_l31With.mono_l k
    · intro y0 y1 y2 y3
      unfold spec_l31With.l0
      repeat' first
      | (with_reducible exact ih0 _ _ _ _)
      | (with_reducible exact LeO.refl _)
      | (with_reducible exact LeO.none _)
      | (with_reducible refine LeO.ite ?_ ?_)
      | (with_reducible refine LeO.bind ?_ (fun _ => ?_))
      | exact ih0 _ _ _ _
      | exact LeO.none _
      | refine LeO.ite ?_ ?_
      | refine LeO.bind ?_ (fun _ => ?_)
theorem spec_l31With.mono : ∀ a0 a1 a2 k, LeO (spec_l31With.f k a0 a1 a2) (spec_l31With.f (k + 1) a0 a1 a2) := by
  intro a0 a1 a2 k
  have ih0 := spec_l31With.mono_l k
  unfold spec_l31With.f
  repeat' first
      | (with_reducible exact ih0 _ _ _ _)
      | (with_reducible exact LeO.refl _)
      | (with_reducible exact LeO.none _)
      | (with_reducible refine LeO.ite ?_ ?_)
      | (with_reducible refine LeO.bind ?_ (fun _ => ?_))
      | exact ih0 _ _ _ _
      | exact LeO.none _
      | refine LeO.ite ?_ ?_
      | refine LeO.bind ?_ (fun _ => ?_)
set_option maxHeartbeats 8000000 in
set_option maxRecDepth 100000 in
theorem spec_l31With.calls (k : Nat) (A0 : Option Addr) (c0 : Nat) (l0 : List (List Int)) (a1 : Int) (a2 : Int) (r : Bool) (w : World) (hr0 : Kd.C (Kd.slice 3 (Kd.int .i64)) w A0 l0.length l0) (hc0 : l0.length ≤ c0) (h : spec_l31With.f k l0 a1 a2 = some r) :
    Calls Try.prog 79 #[.slice A0 l0.length c0, .int .i64 a1, .int .i64 a2] w fun e w' => e = .returned (.bool r) ∧ Drawn0 w w' := by
  have HR0 := Aside0.mk hr0
  have HC0 := Aside0.mk hc0
  clear hr0 hc0
  have H : (spec_l31With.l0 k l0 a1 a2 0) = some r := h
  clear h
  have H' := Aside0.mk H
  clear H
  go_enter Try.func79, Try.ntmps79
  go_wp2
  go_loopg [7] k (fun kq v7 w' => ∃ (x7_1 : Int), v7 = .int .i64 x7_1 ∧ Aside0 (spec_l31With.l0 kq l0 a1 a2 x7_1 = some r) ∧ Aside0 (kq ≤ k) ∧ Drawn0 w w')
  case atStart => exact ⟨(0), (by first | rfl | (simp; done) | (simp [*]; done)), H', ⟨Nat.le_refl _⟩, by repeat (first | exact Drawn0.refl _ | apply Drawn0.step)⟩
  case round =>
    clear H'
    try clear p2
    obtain ⟨x7_1, rfl, HA, HK1, ⟨m1, rfl⟩⟩ := hrel
    cases gk with
    | zero => exact absurd HA.out (by simp [spec_l31With.l0])
    | succ k1 =>
      have H := HA.out
      clear HA
      simp only [spec_l31With.l0] at H
      by_cases c4 : x7_1 < (l0.length : Int)
      · rw [if_pos c4] at H
        have c4b0 : decide (x7_1 < (l0.length : Int)) = true := decide_eq_true c4
        clear c4
        by_cases c5 : 0 ≤ x7_1
        · rw [if_pos c5] at H
          have c5b0 : decide (0 ≤ x7_1) = true := decide_eq_true c5
          clear c5
          by_cases c6 : ((rd_L1 l0 x7_1).length : Int) = 2
          · rw [if_pos c6] at H
            have c6b0 : (((rd_L1 l0 x7_1).length : Int) == 2) = true := beq_iff_eq.mpr c6
            have c6b1 : (((rd_L1 l0 x7_1).length : Int) != 2) = false := bne_eq_false_iff_eq.mpr c6
            clear c6
            by_cases c7 : 0 < ((rd_L1 l0 x7_1).length : Int)
            · rw [if_pos c7] at H
              have c7b0 : decide (0 < ((rd_L1 l0 x7_1).length : Int)) = true := decide_eq_true c7
              have c7b1 : decide (0 < (rd_L1 l0 x7_1).length) = true := decide_eq_true (by omega)
              clear c7
              by_cases c8 : (rd (rd_L1 l0 x7_1) 0) = a1
              · rw [if_pos c8] at H
                have c8b0 : ((rd (rd_L1 l0 x7_1) 0) == a1) = true := beq_iff_eq.mpr c8
                have c8b1 : ((rd (rd_L1 l0 x7_1) 0) != a1) = false := bne_eq_false_iff_eq.mpr c8
                clear c8
                by_cases c9 : 1 < ((rd_L1 l0 x7_1).length : Int)
                · rw [if_pos c9] at H
                  have c9b0 : decide (1 < ((rd_L1 l0 x7_1).length : Int)) = true := decide_eq_true c9
                  have c9b1 : decide (1 < (rd_L1 l0 x7_1).length) = true := decide_eq_true (by omega)
                  clear c9
                  by_cases c10 : (rd (rd_L1 l0 x7_1) 1) = a2
                  · rw [if_pos c10] at H
                    have c10b0 : ((rd (rd_L1 l0 x7_1) 1) == a2) = true := beq_iff_eq.mpr c10
                    have c10b1 : ((rd (rd_L1 l0 x7_1) 1) != a2) = false := bne_eq_false_iff_eq.mpr c10
                    clear c10
                    obtain rfl := Option.some.inj H
                    have p124 : 0 ≤ (x7_1 : Int) := of_decide_eq_true (by first | (with_reducible assumption) | assumption)
                    have q124 : x7_1 < (l0.length : Int) := of_decide_eq_true (by first | (with_reducible assumption) | assumption)
                    obtain ⟨ad124, A124_0, c124_0, e124, hx124_0, hl124_0, hi124_0⟩ := at_L1 HR0.out x7_1 p124 q124
                    cases e124
                    have HR124_0 := Aside0.mk hi124_0
                    have HC124_0 := Aside0.mk hl124_0
                    clear hi124_0 hl124_0
                    replace p124 := eq_true p124
                    replace q124 := eq_true q124
                    have p125 : 0 ≤ (x7_1 : Int) := of_decide_eq_true (by first | (with_reducible assumption) | assumption)
                    have q125 : x7_1 < (l0.length : Int) := of_decide_eq_true (by first | (with_reducible assumption) | assumption)
                    obtain ⟨ad125, A125_0, c125_0, e125, hx125_0, hl125_0, hi125_0⟩ := at_L1 HR0.out x7_1 p125 q125
                    obtain rfl : ad124 = ad125 := (by injection e125)
                    have HR125_0 := Aside0.mk hi125_0
                    have HC125_0 := Aside0.mk hl125_0
                    clear hi125_0 hl125_0
                    replace p125 := eq_true p125
                    replace q125 := eq_true q125
                    have ea_ := Option.some.inj (hx124_0.symm.trans hx125_0)
                    injection ea_ with ea_ en_ ec_
                    subst ea_
                    subst ec_
                    clear en_
                    have p126 : 0 ≤ (0 : Int) := (by omega)
                    have q126 : 0 < ((rd_L1 l0 x7_1).length : Int) := of_decide_eq_true (by first | (with_reducible assumption) | assumption)
                    obtain ⟨ad126, e126, hx126_0⟩ := Kd.at_int HR125_0.out 0 p126 q126
                    cases e126
                    have qi126 : (0 < (rd_L1 l0 x7_1).length) = True := eq_true (by omega)
                    (try rw [show ((0 : Int)).toNat = 0 from rfl] at hx126_0)
                    (try rw [Addr.add_zero'] at hx126_0)
                    replace p126 := eq_true p126
                    replace q126 := eq_true q126
                    have p127 : 0 ≤ (x7_1 : Int) := of_decide_eq_true (by first | (with_reducible assumption) | assumption)
                    have q127 : x7_1 < (l0.length : Int) := of_decide_eq_true (by first | (with_reducible assumption) | assumption)
                    obtain ⟨ad127, A127_0, c127_0, e127, hx127_0, hl127_0, hi127_0⟩ := at_L1 HR0.out x7_1 p127 q127
                    obtain rfl : ad124 = ad127 := (by injection e127)
                    have HR127_0 := Aside0.mk hi127_0
                    have HC127_0 := Aside0.mk hl127_0
                    clear hi127_0 hl127_0
                    replace p127 := eq_true p127
                    replace q127 := eq_true q127
                    have ea_ := Option.some.inj (hx124_0.symm.trans hx127_0)
                    injection ea_ with ea_ en_ ec_
                    subst ea_
                    subst ec_
                    clear en_
                    have p128 : 0 ≤ (1 : Int) := (by omega)
                    have q128 : 1 < ((rd_L1 l0 x7_1).length : Int) := of_decide_eq_true (by first | (with_reducible assumption) | assumption)
                    obtain ⟨ad128, e128, hx128_0⟩ := Kd.at_int HR127_0.out 1 p128 q128
                    cases e128
                    (try simp only [show (1 : Int).toNat = 1 from rfl, Nat.reduceMul, Nat.reduceEqDiff, Go.Addr.add, ↓reduceIte] at hx128_0)
                    have qi128 : (1 < (rd_L1 l0 x7_1).length) = True := eq_true (by omega)
                    (try rw [show ((1 : Int)).toNat = 1 from rfl] at hx128_0)
                    replace p128 := eq_true p128
                    replace q128 := eq_true q128
                    go_wp2
                    go_ret
                    exact ⟨by first | rfl | (simp; done) | (simp [*]; done), by repeat (first | exact Drawn0.refl _ | apply Drawn0.step)⟩
                  · rw [if_neg c10] at H
                    have c10b0 : ((rd (rd_L1 l0 x7_1) 1) == a2) = false := beq_eq_false_iff_ne.mpr c10
                    have c10b1 : ((rd (rd_L1 l0 x7_1) 1) != a2) = true := bne_iff_ne.mpr c10
                    by_cases c11 : (rd (rd_L1 l0 x7_1) 0) = a2
                    · rw [if_pos c11] at H
                      have c11b0 : ((rd (rd_L1 l0 x7_1) 0) == a2) = true := beq_iff_eq.mpr c11
                      have c11b1 : ((rd (rd_L1 l0 x7_1) 0) != a2) = false := bne_eq_false_iff_eq.mpr c11
                      clear c11
                      by_cases c12 : (rd (rd_L1 l0 x7_1) 1) = a1
                      · rw [if_pos c12] at H
                        have c12b0 : ((rd (rd_L1 l0 x7_1) 1) == a1) = true := beq_iff_eq.mpr c12
                        have c12b1 : ((rd (rd_L1 l0 x7_1) 1) != a1) = false := bne_eq_false_iff_eq.mpr c12
                        clear c12
                        obtain rfl := Option.some.inj H
                        have p124 : 0 ≤ (x7_1 : Int) := of_decide_eq_true (by first | (with_reducible assumption) | assumption)
                        have q124 : x7_1 < (l0.length : Int) := of_decide_eq_true (by first | (with_reducible assumption) | assumption)
                        obtain ⟨ad124, A124_0, c124_0, e124, hx124_0, hl124_0, hi124_0⟩ := at_L1 HR0.out x7_1 p124 q124
                        cases e124
                        have HR124_0 := Aside0.mk hi124_0
                        have HC124_0 := Aside0.mk hl124_0
                        clear hi124_0 hl124_0
                        replace p124 := eq_true p124
                        replace q124 := eq_true q124
                        have p125 : 0 ≤ (x7_1 : Int) := of_decide_eq_true (by first | (with_reducible assumption) | assumption)
                        have q125 : x7_1 < (l0.length : Int) := of_decide_eq_true (by first | (with_reducible assumption) | assumption)
                        obtain ⟨ad125, A125_0, c125_0, e125, hx125_0, hl125_0, hi125_0⟩ := at_L1 HR0.out x7_1 p125 q125
                        obtain rfl : ad124 = ad125 := (by injection e125)
                        have HR125_0 := Aside0.mk hi125_0
                        have HC125_0 := Aside0.mk hl125_0
                        clear hi125_0 hl125_0
                        replace p125 := eq_true p125
                        replace q125 := eq_true q125
                        have ea_ := Option.some.inj (hx124_0.symm.trans hx125_0)
                        injection ea_ with ea_ en_ ec_
                        subst ea_
                        subst ec_
                        clear en_
                        have p126 : 0 ≤ (0 : Int) := (by omega)
                        have q126 : 0 < ((rd_L1 l0 x7_1).length : Int) := of_decide_eq_true (by first | (with_reducible assumption) | assumption)
                        obtain ⟨ad126, e126, hx126_0⟩ := Kd.at_int HR125_0.out 0 p126 q126
                        cases e126
                        have qi126 : (0 < (rd_L1 l0 x7_1).length) = True := eq_true (by omega)
                        (try rw [show ((0 : Int)).toNat = 0 from rfl] at hx126_0)
                        (try rw [Addr.add_zero'] at hx126_0)
                        replace p126 := eq_true p126
                        replace q126 := eq_true q126
                        have p127 : 0 ≤ (x7_1 : Int) := of_decide_eq_true (by first | (with_reducible assumption) | assumption)
                        have q127 : x7_1 < (l0.length : Int) := of_decide_eq_true (by first | (with_reducible assumption) | assumption)
                        obtain ⟨ad127, A127_0, c127_0, e127, hx127_0, hl127_0, hi127_0⟩ := at_L1 HR0.out x7_1 p127 q127
                        obtain rfl : ad124 = ad127 := (by injection e127)
                        have HR127_0 := Aside0.mk hi127_0
                        have HC127_0 := Aside0.mk hl127_0
                        clear hi127_0 hl127_0
                        replace p127 := eq_true p127
                        replace q127 := eq_true q127
                        have ea_ := Option.some.inj (hx124_0.symm.trans hx127_0)
                        injection ea_ with ea_ en_ ec_
                        subst ea_
                        subst ec_
                        clear en_
                        have p128 : 0 ≤ (1 : Int) := (by omega)
                        have q128 : 1 < ((rd_L1 l0 x7_1).length : Int) := of_decide_eq_true (by first | (with_reducible assumption) | assumption)
                        obtain ⟨ad128, e128, hx128_0⟩ := Kd.at_int HR127_0.out 1 p128 q128
                        cases e128
                        (try simp only [show (1 : Int).toNat = 1 from rfl, Nat.reduceMul, Nat.reduceEqDiff, Go.Addr.add, ↓reduceIte] at hx128_0)
                        have qi128 : (1 < (rd_L1 l0 x7_1).length) = True := eq_true (by omega)
                        (try rw [show ((1 : Int)).toNat = 1 from rfl] at hx128_0)
                        replace p128 := eq_true p128
                        replace q128 := eq_true q128
                        have p129 : 0 ≤ (x7_1 : Int) := of_decide_eq_true (by first | (with_reducible assumption) | assumption)
                        have q129 : x7_1 < (l0.length : Int) := of_decide_eq_true (by first | (with_reducible assumption) | assumption)
                        obtain ⟨ad129, A129_0, c129_0, e129, hx129_0, hl129_0, hi129_0⟩ := at_L1 HR0.out x7_1 p129 q129
                        obtain rfl : ad124 = ad129 := (by injection e129)
                        have HR129_0 := Aside0.mk hi129_0
                        have HC129_0 := Aside0.mk hl129_0
                        clear hi129_0 hl129_0
                        replace p129 := eq_true p129
                        replace q129 := eq_true q129
                        have ea_ := Option.some.inj (hx124_0.symm.trans hx129_0)
                        injection ea_ with ea_ en_ ec_
                        subst ea_
                        subst ec_
                        clear en_
                        have p130 : 0 ≤ (0 : Int) := (by omega)
                        have q130 : 0 < ((rd_L1 l0 x7_1).length : Int) := of_decide_eq_true (by first | (with_reducible assumption) | assumption)
                        obtain ⟨ad130, e130, hx130_0⟩ := Kd.at_int HR129_0.out 0 p130 q130
                        cases e130
                        have qi130 : (0 < (rd_L1 l0 x7_1).length) = True := eq_true (by omega)
                        (try rw [show ((0 : Int)).toNat = 0 from rfl] at hx130_0)
                        (try rw [Addr.add_zero'] at hx130_0)
                        replace p130 := eq_true p130
                        replace q130 := eq_true q130
                        have p131 : 0 ≤ (x7_1 : Int) := of_decide_eq_true (by first | (with_reducible assumption) | assumption)
                        have q131 : x7_1 < (l0.length : Int) := of_decide_eq_true (by first | (with_reducible assumption) | assumption)
                        obtain ⟨ad131, A131_0, c131_0, e131, hx131_0, hl131_0, hi131_0⟩ := at_L1 HR0.out x7_1 p131 q131
                        obtain rfl : ad124 = ad131 := (by injection e131)
                        have HR131_0 := Aside0.mk hi131_0
                        have HC131_0 := Aside0.mk hl131_0
                        clear hi131_0 hl131_0
                        replace p131 := eq_true p131
                        replace q131 := eq_true q131
                        have ea_ := Option.some.inj (hx124_0.symm.trans hx131_0)
                        injection ea_ with ea_ en_ ec_
                        subst ea_
                        subst ec_
                        clear en_
                        have p132 : 0 ≤ (1 : Int) := (by omega)
                        have q132 : 1 < ((rd_L1 l0 x7_1).length : Int) := of_decide_eq_true (by first | (with_reducible assumption) | assumption)
                        obtain ⟨ad132, e132, hx132_0⟩ := Kd.at_int HR131_0.out 1 p132 q132
                        cases e132
                        (try simp only [show (1 : Int).toNat = 1 from rfl, Nat.reduceMul, Nat.reduceEqDiff, Go.Addr.add, ↓reduceIte] at hx132_0)
                        have qi132 : (1 < (rd_L1 l0 x7_1).length) = True := eq_true (by omega)
                        (try rw [show ((1 : Int)).toNat = 1 from rfl] at hx132_0)
                        replace p132 := eq_true p132
                        replace q132 := eq_true q132
                        go_wp2
                        go_ret
                        exact ⟨by first | rfl | (simp; done) | (simp [*]; done), by repeat (first | exact Drawn0.refl _ | apply Drawn0.step)⟩
                      · rw [if_neg c12] at H
                        have c12b0 : ((rd (rd_L1 l0 x7_1) 1) == a1) = false := beq_eq_false_iff_ne.mpr c12
                        have c12b1 : ((rd (rd_L1 l0 x7_1) 1) != a1) = true := bne_iff_ne.mpr c12
                        have H' := Aside0.mk H
                        clear H
                        have p124 : 0 ≤ (x7_1 : Int) := of_decide_eq_true (by first | (with_reducible assumption) | assumption)
                        have q124 : x7_1 < (l0.length : Int) := of_decide_eq_true (by first | (with_reducible assumption) | assumption)
                        obtain ⟨ad124, A124_0, c124_0, e124, hx124_0, hl124_0, hi124_0⟩ := at_L1 HR0.out x7_1 p124 q124
                        cases e124
                        have HR124_0 := Aside0.mk hi124_0
                        have HC124_0 := Aside0.mk hl124_0
                        clear hi124_0 hl124_0
                        replace p124 := eq_true p124
                        replace q124 := eq_true q124
                        have p125 : 0 ≤ (x7_1 : Int) := of_decide_eq_true (by first | (with_reducible assumption) | assumption)
                        have q125 : x7_1 < (l0.length : Int) := of_decide_eq_true (by first | (with_reducible assumption) | assumption)
                        obtain ⟨ad125, A125_0, c125_0, e125, hx125_0, hl125_0, hi125_0⟩ := at_L1 HR0.out x7_1 p125 q125
                        obtain rfl : ad124 = ad125 := (by injection e125)
                        have HR125_0 := Aside0.mk hi125_0
                        have HC125_0 := Aside0.mk hl125_0
                        clear hi125_0 hl125_0
                        replace p125 := eq_true p125
                        replace q125 := eq_true q125
                        have ea_ := Option.some.inj (hx124_0.symm.trans hx125_0)
                        injection ea_ with ea_ en_ ec_
                        subst ea_
                        subst ec_
                        clear en_
                        have p126 : 0 ≤ (0 : Int) := (by omega)
                        have q126 : 0 < ((rd_L1 l0 x7_1).length : Int) := of_decide_eq_true (by first | (with_reducible assumption) | assumption)
                        obtain ⟨ad126, e126, hx126_0⟩ := Kd.at_int HR125_0.out 0 p126 q126
                        cases e126
                        have qi126 : (0 < (rd_L1 l0 x7_1).length) = True := eq_true (by omega)
                        (try rw [show ((0 : Int)).toNat = 0 from rfl] at hx126_0)
                        (try rw [Addr.add_zero'] at hx126_0)
                        replace p126 := eq_true p126
                        replace q126 := eq_true q126
                        have p127 : 0 ≤ (x7_1 : Int) := of_decide_eq_true (by first | (with_reducible assumption) | assumption)
                        have q127 : x7_1 < (l0.length : Int) := of_decide_eq_true (by first | (with_reducible assumption) | assumption)
                        obtain ⟨ad127, A127_0, c127_0, e127, hx127_0, hl127_0, hi127_0⟩ := at_L1 HR0.out x7_1 p127 q127
                        obtain rfl : ad124 = ad127 := (by injection e127)
                        have HR127_0 := Aside0.mk hi127_0
                        have HC127_0 := Aside0.mk hl127_0
                        clear hi127_0 hl127_0
                        replace p127 := eq_true p127
                        replace q127 := eq_true q127
                        have ea_ := Option.some.inj (hx124_0.symm.trans hx127_0)
                        injection ea_ with ea_ en_ ec_
                        subst ea_
                        subst ec_
                        clear en_
                        have p128 : 0 ≤ (1 : Int) := (by omega)
                        have q128 : 1 < ((rd_L1 l0 x7_1).length : Int) := of_decide_eq_true (by first | (with_reducible assumption) | assumption)
                        obtain ⟨ad128, e128, hx128_0⟩ := Kd.at_int HR127_0.out 1 p128 q128
                        cases e128
                        (try simp only [show (1 : Int).toNat = 1 from rfl, Nat.reduceMul, Nat.reduceEqDiff, Go.Addr.add, ↓reduceIte] at hx128_0)
                        have qi128 : (1 < (rd_L1 l0 x7_1).length) = True := eq_true (by omega)
                        (try rw [show ((1 : Int)).toNat = 1 from rfl] at hx128_0)
                        replace p128 := eq_true p128
                        replace q128 := eq_true q128
                        have p129 : 0 ≤ (x7_1 : Int) := of_decide_eq_true (by first | (with_reducible assumption) | assumption)
                        have q129 : x7_1 < (l0.length : Int) := of_decide_eq_true (by first | (with_reducible assumption) | assumption)
                        obtain ⟨ad129, A129_0, c129_0, e129, hx129_0, hl129_0, hi129_0⟩ := at_L1 HR0.out x7_1 p129 q129
                        obtain rfl : ad124 = ad129 := (by injection e129)
                        have HR129_0 := Aside0.mk hi129_0
                        have HC129_0 := Aside0.mk hl129_0
                        clear hi129_0 hl129_0
                        replace p129 := eq_true p129
                        replace q129 := eq_true q129
                        have ea_ := Option.some.inj (hx124_0.symm.trans hx129_0)
                        injection ea_ with ea_ en_ ec_
                        subst ea_
                        subst ec_
                        clear en_
                        have p130 : 0 ≤ (0 : Int) := (by omega)
                        have q130 : 0 < ((rd_L1 l0 x7_1).length : Int) := of_decide_eq_true (by first | (with_reducible assumption) | assumption)
                        obtain ⟨ad130, e130, hx130_0⟩ := Kd.at_int HR129_0.out 0 p130 q130
                        cases e130
                        have qi130 : (0 < (rd_L1 l0 x7_1).length) = True := eq_true (by omega)
                        (try rw [show ((0 : Int)).toNat = 0 from rfl] at hx130_0)
                        (try rw [Addr.add_zero'] at hx130_0)
                        replace p130 := eq_true p130
                        replace q130 := eq_true q130
                        have p131 : 0 ≤ (x7_1 : Int) := of_decide_eq_true (by first | (with_reducible assumption) | assumption)
                        have q131 : x7_1 < (l0.length : Int) := of_decide_eq_true (by first | (with_reducible assumption) | assumption)
                        obtain ⟨ad131, A131_0, c131_0, e131, hx131_0, hl131_0, hi131_0⟩ := at_L1 HR0.out x7_1 p131 q131
                        obtain rfl : ad124 = ad131 := (by injection e131)
                        have HR131_0 := Aside0.mk hi131_0
                        have HC131_0 := Aside0.mk hl131_0
                        clear hi131_0 hl131_0
                        replace p131 := eq_true p131
                        replace q131 := eq_true q131
                        have ea_ := Option.some.inj (hx124_0.symm.trans hx131_0)
                        injection ea_ with ea_ en_ ec_
                        subst ea_
                        subst ec_
                        clear en_
                        have p132 : 0 ≤ (1 : Int) := (by omega)
                        have q132 : 1 < ((rd_L1 l0 x7_1).length : Int) := of_decide_eq_true (by first | (with_reducible assumption) | assumption)
                        obtain ⟨ad132, e132, hx132_0⟩ := Kd.at_int HR131_0.out 1 p132 q132
                        cases e132
                        (try simp only [show (1 : Int).toNat = 1 from rfl, Nat.reduceMul, Nat.reduceEqDiff, Go.Addr.add, ↓reduceIte] at hx132_0)
                        have qi132 : (1 < (rd_L1 l0 x7_1).length) = True := eq_true (by omega)
                        (try rw [show ((1 : Int)).toNat = 1 from rfl] at hx132_0)
                        replace p132 := eq_true p132
                        replace q132 := eq_true q132
                        go_wp2
                        go_roundg k1
                        case measure => have := HK1.out; omega
                        case rel => exact ⟨(wrap64 (x7_1 + 1)), (by first | rfl | (simp; done) | (simp [*]; done)), H', ⟨by have := HK1.out; omega⟩, by repeat (first | exact Drawn0.refl _ | apply Drawn0.step)⟩
                    · rw [if_neg c11] at H
                      have c11b0 : ((rd (rd_L1 l0 x7_1) 0) == a2) = false := beq_eq_false_iff_ne.mpr c11
                      have c11b1 : ((rd (rd_L1 l0 x7_1) 0) != a2) = true := bne_iff_ne.mpr c11
                      have H' := Aside0.mk H
                      clear H
                      have p124 : 0 ≤ (x7_1 : Int) := of_decide_eq_true (by first | (with_reducible assumption) | assumption)
                      have q124 : x7_1 < (l0.length : Int) := of_decide_eq_true (by first | (with_reducible assumption) | assumption)
                      obtain ⟨ad124, A124_0, c124_0, e124, hx124_0, hl124_0, hi124_0⟩ := at_L1 HR0.out x7_1 p124 q124
                      cases e124
                      have HR124_0 := Aside0.mk hi124_0
                      have HC124_0 := Aside0.mk hl124_0
                      clear hi124_0 hl124_0
                      replace p124 := eq_true p124
                      replace q124 := eq_true q124
                      have p125 : 0 ≤ (x7_1 : Int) := of_decide_eq_true (by first | (with_reducible assumption) | assumption)
                      have q125 : x7_1 < (l0.length : Int) := of_decide_eq_true (by first | (with_reducible assumption) | assumption)
                      obtain ⟨ad125, A125_0, c125_0, e125, hx125_0, hl125_0, hi125_0⟩ := at_L1 HR0.out x7_1 p125 q125
                      obtain rfl : ad124 = ad125 := (by injection e125)
                      have HR125_0 := Aside0.mk hi125_0
                      have HC125_0 := Aside0.mk hl125_0
                      clear hi125_0 hl125_0
                      replace p125 := eq_true p125
                      replace q125 := eq_true q125
                      have ea_ := Option.some.inj (hx124_0.symm.trans hx125_0)
                      injection ea_ with ea_ en_ ec_
                      subst ea_
                      subst ec_
                      clear en_
                      have p126 : 0 ≤ (0 : Int) := (by omega)
                      have q126 : 0 < ((rd_L1 l0 x7_1).length : Int) := of_decide_eq_true (by first | (with_reducible assumption) | assumption)
                      obtain ⟨ad126, e126, hx126_0⟩ := Kd.at_int HR125_0.out 0 p126 q126
                      cases e126
                      have qi126 : (0 < (rd_L1 l0 x7_1).length) = True := eq_true (by omega)
                      (try rw [show ((0 : Int)).toNat = 0 from rfl] at hx126_0)
                      (try rw [Addr.add_zero'] at hx126_0)
                      replace p126 := eq_true p126
                      replace q126 := eq_true q126
                      have p127 : 0 ≤ (x7_1 : Int) := of_decide_eq_true (by first | (with_reducible assumption) | assumption)
                      have q127 : x7_1 < (l0.length : Int) := of_decide_eq_true (by first | (with_reducible assumption) | assumption)
                      obtain ⟨ad127, A127_0, c127_0, e127, hx127_0, hl127_0, hi127_0⟩ := at_L1 HR0.out x7_1 p127 q127
                      obtain rfl : ad124 = ad127 := (by injection e127)
                      have HR127_0 := Aside0.mk hi127_0
                      have HC127_0 := Aside0.mk hl127_0
                      clear hi127_0 hl127_0
                      replace p127 := eq_true p127
                      replace q127 := eq_true q127
                      have ea_ := Option.some.inj (hx124_0.symm.trans hx127_0)
                      injection ea_ with ea_ en_ ec_
                      subst ea_
                      subst ec_
                      clear en_
                      have p128 : 0 ≤ (1 : Int) := (by omega)
                      have q128 : 1 < ((rd_L1 l0 x7_1).length : Int) := of_decide_eq_true (by first | (with_reducible assumption) | assumption)
                      obtain ⟨ad128, e128, hx128_0⟩ := Kd.at_int HR127_0.out 1 p128 q128
                      cases e128
                      (try simp only [show (1 : Int).toNat = 1 from rfl, Nat.reduceMul, Nat.reduceEqDiff, Go.Addr.add, ↓reduceIte] at hx128_0)
                      have qi128 : (1 < (rd_L1 l0 x7_1).length) = True := eq_true (by omega)
                      (try rw [show ((1 : Int)).toNat = 1 from rfl] at hx128_0)
                      replace p128 := eq_true p128
                      replace q128 := eq_true q128
                      have p129 : 0 ≤ (x7_1 : Int) := of_decide_eq_true (by first | (with_reducible assumption) | assumption)
                      have q129 : x7_1 < (l0.length : Int) := of_decide_eq_true (by first | (with_reducible assumption) | assumption)
                      obtain ⟨ad129, A129_0, c129_0, e129, hx129_0, hl129_0, hi129_0⟩ := at_L1 HR0.out x7_1 p129 q129
                      obtain rfl : ad124 = ad129 := (by injection e129)
                      have HR129_0 := Aside0.mk hi129_0
                      have HC129_0 := Aside0.mk hl129_0
                      clear hi129_0 hl129_0
                      replace p129 := eq_true p129
                      replace q129 := eq_true q129
                      have ea_ := Option.some.inj (hx124_0.symm.trans hx129_0)
                      injection ea_ with ea_ en_ ec_
                      subst ea_
                      subst ec_
                      clear en_
                      have p130 : 0 ≤ (0 : Int) := (by omega)
                      have q130 : 0 < ((rd_L1 l0 x7_1).length : Int) := of_decide_eq_true (by first | (with_reducible assumption) | assumption)
                      obtain ⟨ad130, e130, hx130_0⟩ := Kd.at_int HR129_0.out 0 p130 q130
                      cases e130
                      have qi130 : (0 < (rd_L1 l0 x7_1).length) = True := eq_true (by omega)
                      (try rw [show ((0 : Int)).toNat = 0 from rfl] at hx130_0)
                      (try rw [Addr.add_zero'] at hx130_0)
                      replace p130 := eq_true p130
                      replace q130 := eq_true q130
                      go_wp2
                      go_roundg k1
                      case measure => have := HK1.out; omega
                      case rel => exact ⟨(wrap64 (x7_1 + 1)), (by first | rfl | (simp; done) | (simp [*]; done)), H', ⟨by have := HK1.out; omega⟩, by repeat (first | exact Drawn0.refl _ | apply Drawn0.step)⟩
                · rw [if_neg c9] at H
                  exact absurd H (by simp)
              · rw [if_neg c8] at H
                have c8b0 : ((rd (rd_L1 l0 x7_1) 0) == a1) = false := beq_eq_false_iff_ne.mpr c8
                have c8b1 : ((rd (rd_L1 l0 x7_1) 0) != a1) = true := bne_iff_ne.mpr c8
                by_cases c13 : (rd (rd_L1 l0 x7_1) 0) = a2
                · rw [if_pos c13] at H
                  have c13b0 : ((rd (rd_L1 l0 x7_1) 0) == a2) = true := beq_iff_eq.mpr c13
                  have c13b1 : ((rd (rd_L1 l0 x7_1) 0) != a2) = false := bne_eq_false_iff_eq.mpr c13
                  clear c13
                  by_cases c14 : 1 < ((rd_L1 l0 x7_1).length : Int)
                  · rw [if_pos c14] at H
                    have c14b0 : decide (1 < ((rd_L1 l0 x7_1).length : Int)) = true := decide_eq_true c14
                    have c14b1 : decide (1 < (rd_L1 l0 x7_1).length) = true := decide_eq_true (by omega)
                    clear c14
                    by_cases c15 : (rd (rd_L1 l0 x7_1) 1) = a1
                    · rw [if_pos c15] at H
                      have c15b0 : ((rd (rd_L1 l0 x7_1) 1) == a1) = true := beq_iff_eq.mpr c15
                      have c15b1 : ((rd (rd_L1 l0 x7_1) 1) != a1) = false := bne_eq_false_iff_eq.mpr c15
                      clear c15
                      obtain rfl := Option.some.inj H
                      have p124 : 0 ≤ (x7_1 : Int) := of_decide_eq_true (by first | (with_reducible assumption) | assumption)
                      have q124 : x7_1 < (l0.length : Int) := of_decide_eq_true (by first | (with_reducible assumption) | assumption)
                      obtain ⟨ad124, A124_0, c124_0, e124, hx124_0, hl124_0, hi124_0⟩ := at_L1 HR0.out x7_1 p124 q124
                      cases e124
                      have HR124_0 := Aside0.mk hi124_0
                      have HC124_0 := Aside0.mk hl124_0
                      clear hi124_0 hl124_0
                      replace p124 := eq_true p124
                      replace q124 := eq_true q124
                      have p125 : 0 ≤ (x7_1 : Int) := of_decide_eq_true (by first | (with_reducible assumption) | assumption)
                      have q125 : x7_1 < (l0.length : Int) := of_decide_eq_true (by first | (with_reducible assumption) | assumption)
                      obtain ⟨ad125, A125_0, c125_0, e125, hx125_0, hl125_0, hi125_0⟩ := at_L1 HR0.out x7_1 p125 q125
                      obtain rfl : ad124 = ad125 := (by injection e125)
                      have HR125_0 := Aside0.mk hi125_0
                      have HC125_0 := Aside0.mk hl125_0
                      clear hi125_0 hl125_0
                      replace p125 := eq_true p125
                      replace q125 := eq_true q125
                      have ea_ := Option.some.inj (hx124_0.symm.trans hx125_0)
                      injection ea_ with ea_ en_ ec_
                      subst ea_
                      subst ec_
                      clear en_
                      have p126 : 0 ≤ (0 : Int) := (by omega)
                      have q126 : 0 < ((rd_L1 l0 x7_1).length : Int) := of_decide_eq_true (by first | (with_reducible assumption) | assumption)
                      obtain ⟨ad126, e126, hx126_0⟩ := Kd.at_int HR125_0.out 0 p126 q126
                      cases e126
                      have qi126 : (0 < (rd_L1 l0 x7_1).length) = True := eq_true (by omega)
                      (try rw [show ((0 : Int)).toNat = 0 from rfl] at hx126_0)
                      (try rw [Addr.add_zero'] at hx126_0)
                      replace p126 := eq_true p126
                      replace q126 := eq_true q126
                      have p133 : 0 ≤ (x7_1 : Int) := of_decide_eq_true (by first | (with_reducible assumption) | assumption)
                      have q133 : x7_1 < (l0.length : Int) := of_decide_eq_true (by first | (with_reducible assumption) | assumption)
                      obtain ⟨ad133, A133_0, c133_0, e133, hx133_0, hl133_0, hi133_0⟩ := at_L1 HR0.out x7_1 p133 q133
                      obtain rfl : ad124 = ad133 := (by injection e133)
                      have HR133_0 := Aside0.mk hi133_0
                      have HC133_0 := Aside0.mk hl133_0
                      clear hi133_0 hl133_0
                      replace p133 := eq_true p133
                      replace q133 := eq_true q133
                      have ea_ := Option.some.inj (hx124_0.symm.trans hx133_0)
                      injection ea_ with ea_ en_ ec_
                      subst ea_
                      subst ec_
                      clear en_
                      have p134 : 0 ≤ (0 : Int) := (by omega)
                      have q134 : 0 < ((rd_L1 l0 x7_1).length : Int) := of_decide_eq_true (by first | (with_reducible assumption) | assumption)
                      obtain ⟨ad134, e134, hx134_0⟩ := Kd.at_int HR133_0.out 0 p134 q134
                      cases e134
                      have qi134 : (0 < (rd_L1 l0 x7_1).length) = True := eq_true (by omega)
                      (try rw [show ((0 : Int)).toNat = 0 from rfl] at hx134_0)
                      (try rw [Addr.add_zero'] at hx134_0)
                      replace p134 := eq_true p134
                      replace q134 := eq_true q134
                      have p135 : 0 ≤ (x7_1 : Int) := of_decide_eq_true (by first | (with_reducible assumption) | assumption)
                      have q135 : x7_1 < (l0.length : Int) := of_decide_eq_true (by first | (with_reducible assumption) | assumption)
                      obtain ⟨ad135, A135_0, c135_0, e135, hx135_0, hl135_0, hi135_0⟩ := at_L1 HR0.out x7_1 p135 q135
                      obtain rfl : ad124 = ad135 := (by injection e135)
                      have HR135_0 := Aside0.mk hi135_0
                      have HC135_0 := Aside0.mk hl135_0
                      clear hi135_0 hl135_0
                      replace p135 := eq_true p135
                      replace q135 := eq_true q135
                      have ea_ := Option.some.inj (hx124_0.symm.trans hx135_0)
                      injection ea_ with ea_ en_ ec_
                      subst ea_
                      subst ec_
                      clear en_
                      have p136 : 0 ≤ (1 : Int) := (by omega)
                      have q136 : 1 < ((rd_L1 l0 x7_1).length : Int) := of_decide_eq_true (by first | (with_reducible assumption) | assumption)
                      obtain ⟨ad136, e136, hx136_0⟩ := Kd.at_int HR135_0.out 1 p136 q136
                      cases e136
                      (try simp only [show (1 : Int).toNat = 1 from rfl, Nat.reduceMul, Nat.reduceEqDiff, Go.Addr.add, ↓reduceIte] at hx136_0)
                      have qi136 : (1 < (rd_L1 l0 x7_1).length) = True := eq_true (by omega)
                      (try rw [show ((1 : Int)).toNat = 1 from rfl] at hx136_0)
                      replace p136 := eq_true p136
                      replace q136 := eq_true q136
                      go_wp2
                      go_ret
                      exact ⟨by first | rfl | (simp; done) | (simp [*]; done), by repeat (first | exact Drawn0.refl _ | apply Drawn0.step)⟩
                    · rw [if_neg c15] at H
                      have c15b0 : ((rd (rd_L1 l0 x7_1) 1) == a1) = false := beq_eq_false_iff_ne.mpr c15
                      have c15b1 : ((rd (rd_L1 l0 x7_1) 1) != a1) = true := bne_iff_ne.mpr c15
                      have H' := Aside0.mk H
                      clear H
                      have p124 : 0 ≤ (x7_1 : Int) := of_decide_eq_true (by first | (with_reducible assumption) | assumption)
                      have q124 : x7_1 < (l0.length : Int) := of_decide_eq_true (by first | (with_reducible assumption) | assumption)
                      obtain ⟨ad124, A124_0, c124_0, e124, hx124_0, hl124_0, hi124_0⟩ := at_L1 HR0.out x7_1 p124 q124
                      cases e124
                      have HR124_0 := Aside0.mk hi124_0
                      have HC124_0 := Aside0.mk hl124_0
                      clear hi124_0 hl124_0
                      replace p124 := eq_true p124
                      replace q124 := eq_true q124
                      have p125 : 0 ≤ (x7_1 : Int) := of_decide_eq_true (by first | (with_reducible assumption) | assumption)
                      have q125 : x7_1 < (l0.length : Int) := of_decide_eq_true (by first | (with_reducible assumption) | assumption)
                      obtain ⟨ad125, A125_0, c125_0, e125, hx125_0, hl125_0, hi125_0⟩ := at_L1 HR0.out x7_1 p125 q125
                      obtain rfl : ad124 = ad125 := (by injection e125)
                      have HR125_0 := Aside0.mk hi125_0
                      have HC125_0 := Aside0.mk hl125_0
                      clear hi125_0 hl125_0
                      replace p125 := eq_true p125
                      replace q125 := eq_true q125
                      have ea_ := Option.some.inj (hx124_0.symm.trans hx125_0)
                      injection ea_ with ea_ en_ ec_
                      subst ea_
                      subst ec_
                      clear en_
                      have p126 : 0 ≤ (0 : Int) := (by omega)
                      have q126 : 0 < ((rd_L1 l0 x7_1).length : Int) := of_decide_eq_true (by first | (with_reducible assumption) | assumption)
                      obtain ⟨ad126, e126, hx126_0⟩ := Kd.at_int HR125_0.out 0 p126 q126
                      cases e126
                      have qi126 : (0 < (rd_L1 l0 x7_1).length) = True := eq_true (by omega)
                      (try rw [show ((0 : Int)).toNat = 0 from rfl] at hx126_0)
                      (try rw [Addr.add_zero'] at hx126_0)
                      replace p126 := eq_true p126
                      replace q126 := eq_true q126
                      have p133 : 0 ≤ (x7_1 : Int) := of_decide_eq_true (by first | (with_reducible assumption) | assumption)
                      have q133 : x7_1 < (l0.length : Int) := of_decide_eq_true (by first | (with_reducible assumption) | assumption)
                      obtain ⟨ad133, A133_0, c133_0, e133, hx133_0, hl133_0, hi133_0⟩ := at_L1 HR0.out x7_1 p133 q133
                      obtain rfl : ad124 = ad133 := (by injection e133)
                      have HR133_0 := Aside0.mk hi133_0
                      have HC133_0 := Aside0.mk hl133_0
                      clear hi133_0 hl133_0
                      replace p133 := eq_true p133
                      replace q133 := eq_true q133
                      have ea_ := Option.some.inj (hx124_0.symm.trans hx133_0)
                      injection ea_ with ea_ en_ ec_
                      subst ea_
                      subst ec_
                      clear en_
                      have p134 : 0 ≤ (0 : Int) := (by omega)
                      have q134 : 0 < ((rd_L1 l0 x7_1).length : Int) := of_decide_eq_true (by first | (with_reducible assumption) | assumption)
                      obtain ⟨ad134, e134, hx134_0⟩ := Kd.at_int HR133_0.out 0 p134 q134
                      cases e134
                      have qi134 : (0 < (rd_L1 l0 x7_1).length) = True := eq_true (by omega)
                      (try rw [show ((0 : Int)).toNat = 0 from rfl] at hx134_0)
                      (try rw [Addr.add_zero'] at hx134_0)
                      replace p134 := eq_true p134
                      replace q134 := eq_true q134
                      have p135 : 0 ≤ (x7_1 : Int) := of_decide_eq_true (by first | (with_reducible assumption) | assumption)
                      have q135 : x7_1 < (l0.length : Int) := of_decide_eq_true (by first | (with_reducible assumption) | assumption)
                      obtain ⟨ad135, A135_0, c135_0, e135, hx135_0, hl135_0, hi135_0⟩ := at_L1 HR0.out x7_1 p135 q135
                      obtain rfl : ad124 = ad135 := (by injection e135)
                      have HR135_0 := Aside0.mk hi135_0
                      have HC135_0 := Aside0.mk hl135_0
                      clear hi135_0 hl135_0
                      replace p135 := eq_true p135
                      replace q135 := eq_true q135
                      have ea_ := Option.some.inj (hx124_0.symm.trans hx135_0)
                      injection ea_ with ea_ en_ ec_
                      subst ea_
                      subst ec_
                      clear en_
                      have p136 : 0 ≤ (1 : Int) := (by omega)
                      have q136 : 1 < ((rd_L1 l0 x7_1).length : Int) := of_decide_eq_true (by first | (with_reducible assumption) | assumption)
                      obtain ⟨ad136, e136, hx136_0⟩ := Kd.at_int HR135_0.out 1 p136 q136
                      cases e136
                      (try simp only [show (1 : Int).toNat = 1 from rfl, Nat.reduceMul, Nat.reduceEqDiff, Go.Addr.add, ↓reduceIte] at hx136_0)
                      have qi136 : (1 < (rd_L1 l0 x7_1).length) = True := eq_true (by omega)
                      (try rw [show ((1 : Int)).toNat = 1 from rfl] at hx136_0)
                      replace p136 := eq_true p136
                      replace q136 := eq_true q136
                      go_wp2
                      go_roundg k1
                      case measure => have := HK1.out; omega
                      case rel => exact ⟨(wrap64 (x7_1 + 1)), (by first | rfl | (simp; done) | (simp [*]; done)), H', ⟨by have := HK1.out; omega⟩, by repeat (first | exact Drawn0.refl _ | apply Drawn0.step)⟩
                  · rw [if_neg c14] at H
                    exact absurd H (by simp)
                · rw [if_neg c13] at H
                  have c13b0 : ((rd (rd_L1 l0 x7_1) 0) == a2) = false := beq_eq_false_iff_ne.mpr c13
                  have c13b1 : ((rd (rd_L1 l0 x7_1) 0) != a2) = true := bne_iff_ne.mpr c13
                  have H' := Aside0.mk H
                  clear H
                  have p124 : 0 ≤ (x7_1 : Int) := of_decide_eq_true (by first | (with_reducible assumption) | assumption)
                  have q124 : x7_1 < (l0.length : Int) := of_decide_eq_true (by first | (with_reducible assumption) | assumption)
                  obtain ⟨ad124, A124_0, c124_0, e124, hx124_0, hl124_0, hi124_0⟩ := at_L1 HR0.out x7_1 p124 q124
                  cases e124
                  have HR124_0 := Aside0.mk hi124_0
                  have HC124_0 := Aside0.mk hl124_0
                  clear hi124_0 hl124_0
                  replace p124 := eq_true p124
                  replace q124 := eq_true q124
                  have p125 : 0 ≤ (x7_1 : Int) := of_decide_eq_true (by first | (with_reducible assumption) | assumption)
                  have q125 : x7_1 < (l0.length : Int) := of_decide_eq_true (by first | (with_reducible assumption) | assumption)
                  obtain ⟨ad125, A125_0, c125_0, e125, hx125_0, hl125_0, hi125_0⟩ := at_L1 HR0.out x7_1 p125 q125
                  obtain rfl : ad124 = ad125 := (by injection e125)
                  have HR125_0 := Aside0.mk hi125_0
                  have HC125_0 := Aside0.mk hl125_0
                  clear hi125_0 hl125_0
                  replace p125 := eq_true p125
                  replace q125 := eq_true q125
                  have ea_ := Option.some.inj (hx124_0.symm.trans hx125_0)
                  injection ea_ with ea_ en_ ec_
                  subst ea_
                  subst ec_
                  clear en_
                  have p126 : 0 ≤ (0 : Int) := (by omega)
                  have q126 : 0 < ((rd_L1 l0 x7_1).length : Int) := of_decide_eq_true (by first | (with_reducible assumption) | assumption)
                  obtain ⟨ad126, e126, hx126_0⟩ := Kd.at_int HR125_0.out 0 p126 q126
                  cases e126
                  have qi126 : (0 < (rd_L1 l0 x7_1).length) = True := eq_true (by omega)
                  (try rw [show ((0 : Int)).toNat = 0 from rfl] at hx126_0)
                  (try rw [Addr.add_zero'] at hx126_0)
                  replace p126 := eq_true p126
                  replace q126 := eq_true q126
                  have p133 : 0 ≤ (x7_1 : Int) := of_decide_eq_true (by first | (with_reducible assumption) | assumption)
                  have q133 : x7_1 < (l0.length : Int) := of_decide_eq_true (by first | (with_reducible assumption) | assumption)
                  obtain ⟨ad133, A133_0, c133_0, e133, hx133_0, hl133_0, hi133_0⟩ := at_L1 HR0.out x7_1 p133 q133
                  obtain rfl : ad124 = ad133 := (by injection e133)
                  have HR133_0 := Aside0.mk hi133_0
                  have HC133_0 := Aside0.mk hl133_0
                  clear hi133_0 hl133_0
                  replace p133 := eq_true p133
                  replace q133 := eq_true q133
                  have ea_ := Option.some.inj (hx124_0.symm.trans hx133_0)
                  injection ea_ with ea_ en_ ec_
                  subst ea_
                  subst ec_
                  clear en_
                  have p134 : 0 ≤ (0 : Int) := (by omega)
                  have q134 : 0 < ((rd_L1 l0 x7_1).length : Int) := of_decide_eq_true (by first | (with_reducible assumption) | assumption)
                  obtain ⟨ad134, e134, hx134_0⟩ := Kd.at_int HR133_0.out 0 p134 q134
                  cases e134
                  have qi134 : (0 < (rd_L1 l0 x7_1).length) = True := eq_true (by omega)
                  (try rw [show ((0 : Int)).toNat = 0 from rfl] at hx134_0)
                  (try rw [Addr.add_zero'] at hx134_0)
                  replace p134 := eq_true p134
                  replace q134 := eq_true q134
                  go_wp2
                  go_roundg k1
                  case measure => have := HK1.out; omega
                  case rel => exact ⟨(wrap64 (x7_1 + 1)), (by first | rfl | (simp; done) | (simp [*]; done)), H', ⟨by have := HK1.out; omega⟩, by repeat (first | exact Drawn0.refl _ | apply Drawn0.step)⟩
            · rw [if_neg c7] at H
              exact absurd H (by simp)
          · rw [if_neg c6] at H
            have c6b0 : (((rd_L1 l0 x7_1).length : Int) == 2) = false := beq_eq_false_iff_ne.mpr c6
            have c6b1 : (((rd_L1 l0 x7_1).length : Int) != 2) = true := bne_iff_ne.mpr c6
            have H' := Aside0.mk H
            clear H
            have p124 : 0 ≤ (x7_1 : Int) := of_decide_eq_true (by first | (with_reducible assumption) | assumption)
            have q124 : x7_1 < (l0.length : Int) := of_decide_eq_true (by first | (with_reducible assumption) | assumption)
            obtain ⟨ad124, A124_0, c124_0, e124, hx124_0, hl124_0, hi124_0⟩ := at_L1 HR0.out x7_1 p124 q124
            cases e124
            have HR124_0 := Aside0.mk hi124_0
            have HC124_0 := Aside0.mk hl124_0
            clear hi124_0 hl124_0
            replace p124 := eq_true p124
            replace q124 := eq_true q124
            go_wp2
            go_roundg k1
            case measure => have := HK1.out; omega
            case rel => exact ⟨(wrap64 (x7_1 + 1)), (by first | rfl | (simp; done) | (simp [*]; done)), H', ⟨by have := HK1.out; omega⟩, by repeat (first | exact Drawn0.refl _ | apply Drawn0.step)⟩
        · rw [if_neg c5] at H
          exact absurd H (by simp)
      · rw [if_neg c4] at H
        have c4b0 : decide (x7_1 < (l0.length : Int)) = false := decide_eq_false c4
        clear c4
        obtain rfl := Option.some.inj H
        go_wp2
        go_ret
        exact ⟨by first | rfl | (simp; done) | (simp [*]; done), by repeat (first | exact Drawn0.refl _ | apply Drawn0.step)⟩

end Go.Proofs.Ytfcidjlnokhkjaa.QFnExactRoundWith
