-- Laid by this session's own program (wip/myprint.py), the kit's printer its engine; turned by hand where that fell. Lean checks it.
import Derived.Test.YtfdalcklgfdadaaQFnAmendmentsx0
import Derived.Test.YtfdalcklgfdadaaQFnAmendmentsx1
import Derived.Test.YtfdalcklgfdadaaQFnAmendmentsx2
import Derived.Test.YtfdalcklgfdadaaQFnAmendmentsx3
import Derived.Test.YtfdalcklgfdadaaQFnAmendmentsx4
import Derived.Test.YtfdalcklgfdadaaQFnAmendmentsx5
namespace Go.Proofs.Ytfdalcklgfdadaa.QFnAmendments
open Go.RowKit Go.Proofs.YtfdalcklgfdadaaW.PrintWords Go.Proofs.YtfdalcklgfdadaaW.PrintLast Go.Proofs.YtfdalcklgfdadaaW.PrintMore
attribute [local go_sem] max2_int min2_int max_two min_two max_three min_three max_four min_four   -- for this text's walks alone
set_option linter.unusedVariables false
set_option linter.unusedSimpArgs false

/-! ### laws_FnAmendments: function 9 -/
mutual
def laws_FnAmendments.j0 : Nat → List Int → List Int → List Int → Bool → Bool → Int → Int → List Int → Option (Bool)
  | 0, _, _, _, _, _, _, _, _ => none
  | k + 1, x0, x3, x5, x6, x82, x395000, x395001, x395002 => if x82 = true then (some false) else (if x6 = true then (laws_FnAmendments.j1 k x0 x3 x5 (decide ((x3.length : Int) ≤ 60)) x395000 x395001 x395002) else (laws_FnAmendments.j1 k x0 x3 x5 false x395000 x395001 x395002))
def laws_FnAmendments.j1 : Nat → List Int → List Int → List Int → Bool → Int → Int → List Int → Option (Bool)
  | 0, _, _, _, _, _, _, _ => none
  | k + 1, x0, x3, x5, x88, x395000, x395001, x395002 => if x88 = true then ((impl_Amended.f x5 x395000 x395001 x395002).bind fun bt397 => (if bt397.2 = true then ((laws_sameInts.f k bt397.1 x3).bind fun t401 => (if t401 = true then (laws_FnAmendments.j2 k x0) else (some false))) else (some false))) else (laws_FnAmendments.j2 k x0)
def laws_FnAmendments.j2 : Nat → List Int → Option (Bool)
  | 0, _ => none
  | k + 1, x0 => (spec_DrawDifference.f k x0).bind fun bt402 => ((impl_Difference.f k bt402.1 bt402.2).bind fun bt408 => (if (bt402.2.length : Int) ≤ 60 then ((impl_Amended.f bt402.1 bt408.1 bt408.2.1 bt408.2.2).bind fun bt414 => (if bt414.2 = true then ((laws_sameInts.f k bt414.1 bt402.2).bind fun t418 => (if t418 = true then (if bt408.2.1 > (bt402.1.length : Int) then (some false) else ((laws_sameInts.f k bt402.1 bt402.2).bind fun t419 => (if t419 = true then (if bt408.2.1 = 0 then (if (bt408.2.2.length : Int) = 0 then (laws_FnAmendments.j3 k x0) else (some false)) else (some false)) else (laws_FnAmendments.j3 k x0)))) else (some false))) else (some false))) else (laws_FnAmendments.j3 k x0)))
def laws_FnAmendments.j3 : Nat → List Int → Option (Bool)
  | 0, _ => none
  | k + 1, x0 => (spec_DrawAmendAll.f k x0).bind fun bt420 => ((impl_AmendAll.f k bt420.1 bt420.2).bind fun bt426 => ((spec_DrawClash.f k x0).bind fun bt430 => (if bt426.2 ≥ 0 then (if bt426.2 ≤ (bt420.2.length : Int) then ((impl_Clash.f bt430.1 bt430.2.1 bt430.2.2.1 bt430.2.2.2.1 bt430.2.2.2.2.1 bt430.2.2.2.2.2).bind fun t442 => ((impl_Clash.f bt430.2.2.2.1 bt430.2.2.2.2.1 bt430.2.2.2.2.2 bt430.1 bt430.2.1 bt430.2.2.1).bind fun t443 => (some (t442 == t443)))) else (some false)) else (some false))))
end
def laws_FnAmendments.f (k : Nat) (l0 : List Int) : Option (Bool) := (laws_big.f l0).bind fun t374 => (if t374 = true then (some true) else ((spec_DrawUndo.f k l0).bind fun bt375 => ((impl_Amended.f bt375.1 bt375.2.1 bt375.2.2.1 bt375.2.2.2).bind fun bt384 => ((impl_Undo.f bt375.1 bt375.2.1 bt375.2.2.1 bt375.2.2.2).bind fun bt388 => (if (bt384.2 != bt388.2.2.2) = true then (laws_FnAmendments.j0 k l0 bt375.1 bt384.1 bt384.2 true bt388.1 bt388.2.1 bt388.2.2.1) else ((impl_MayAmend.f bt375.1 bt375.2.1 bt375.2.2.1 bt375.2.2.2).bind fun t395 => (if (bt384.2 != t395) = true then (laws_FnAmendments.j0 k l0 bt375.1 bt384.1 bt384.2 true bt388.1 bt388.2.1 bt388.2.2.1) else (if bt384.2 = true then (if (bt384.1.length : Int) = (wrap64 ((wrap64 ((bt375.1.length : Int) - bt375.2.2.1)) + (bt375.2.2.2.length : Int))) then (if (bt384.1.length : Int) > 60 then (laws_FnAmendments.j0 k l0 bt375.1 bt384.1 bt384.2 true bt388.1 bt388.2.1 bt388.2.2.1) else (laws_FnAmendments.j0 k l0 bt375.1 bt384.1 bt384.2 false bt388.1 bt388.2.1 bt388.2.2.1)) else (laws_FnAmendments.j0 k l0 bt375.1 bt384.1 bt384.2 true bt388.1 bt388.2.1 bt388.2.2.1)) else ((laws_sameInts.f k bt384.1 bt375.1).bind fun t396 => (laws_FnAmendments.j0 k l0 bt375.1 bt384.1 bt384.2 (!t396) bt388.1 bt388.2.1 bt388.2.2.1))))))))))
theorem laws_FnAmendments.mono_l : ∀ k, (∀ y0 y1 y2 y3 y4 y5 y6 y7, LeO (laws_FnAmendments.j0 k y0 y1 y2 y3 y4 y5 y6 y7) (laws_FnAmendments.j0 (k + 1) y0 y1 y2 y3 y4 y5 y6 y7)) ∧ (∀ y0 y1 y2 y3 y4 y5 y6, LeO (laws_FnAmendments.j1 k y0 y1 y2 y3 y4 y5 y6) (laws_FnAmendments.j1 (k + 1) y0 y1 y2 y3 y4 y5 y6)) ∧ (∀ y0, LeO (laws_FnAmendments.j2 k y0) (laws_FnAmendments.j2 (k + 1) y0)) ∧ (∀ y0, LeO (laws_FnAmendments.j3 k y0) (laws_FnAmendments.j3 (k + 1) y0))
  | 0 => ⟨fun _ _ _ _ _ _ _ _ r h => by simp [laws_FnAmendments.j0] at h, fun _ _ _ _ _ _ _ r h => by simp [laws_FnAmendments.j1] at h, fun _ r h => by simp [laws_FnAmendments.j2] at h, fun _ r h => by simp [laws_FnAmendments.j3] at h⟩
  | k + 1 => by
    obtain ⟨ih0, ih1, ih2, ih3⟩ := laws_FnAmendments.mono_l k
    refine ⟨?_, ?_, ?_, ?_⟩
    · intro y0 y1 y2 y3 y4 y5 y6 y7
      unfold laws_FnAmendments.j0
      repeat' first
      | (with_reducible exact ih0 _ _ _ _ _ _ _ _)
      | (with_reducible exact ih1 _ _ _ _ _ _ _)
      | (with_reducible exact ih2 _)
      | (with_reducible exact ih3 _)
      | (with_reducible exact impl_AmendAll.mono _ _ _)
      | (with_reducible exact impl_Difference.mono _ _ _)
      | (with_reducible exact laws_sameInts.mono _ _ _)
      | (with_reducible exact spec_DrawAmendAll.mono _ _)
      | (with_reducible exact spec_DrawClash.mono _ _)
      | (with_reducible exact spec_DrawDifference.mono _ _)
      | (with_reducible exact spec_DrawUndo.mono _ _)
      | (with_reducible exact LeO.refl _)
      | (with_reducible exact LeO.none _)
      | (with_reducible refine LeO.ite ?_ ?_)
      | (with_reducible refine LeO.bind ?_ (fun _ => ?_))
      | exact ih0 _ _ _ _ _ _ _ _
      | exact ih1 _ _ _ _ _ _ _
      | exact ih2 _
      | exact ih3 _
      | exact impl_AmendAll.mono _ _ _
      | exact impl_Difference.mono _ _ _
      | exact laws_sameInts.mono _ _ _
      | exact spec_DrawAmendAll.mono _ _
      | exact spec_DrawClash.mono _ _
      | exact spec_DrawDifference.mono _ _
      | exact spec_DrawUndo.mono _ _
      | exact LeO.none _
      | refine LeO.ite ?_ ?_
      | refine LeO.bind ?_ (fun _ => ?_)
    · intro y0 y1 y2 y3 y4 y5 y6
      unfold laws_FnAmendments.j1
      repeat' first
      | (with_reducible exact ih0 _ _ _ _ _ _ _ _)
      | (with_reducible exact ih1 _ _ _ _ _ _ _)
      | (with_reducible exact ih2 _)
      | (with_reducible exact ih3 _)
      | (with_reducible exact impl_AmendAll.mono _ _ _)
      | (with_reducible exact impl_Difference.mono _ _ _)
      | (with_reducible exact laws_sameInts.mono _ _ _)
      | (with_reducible exact spec_DrawAmendAll.mono _ _)
      | (with_reducible exact spec_DrawClash.mono _ _)
      | (with_reducible exact spec_DrawDifference.mono _ _)
      | (with_reducible exact spec_DrawUndo.mono _ _)
      | (with_reducible exact LeO.refl _)
      | (with_reducible exact LeO.none _)
      | (with_reducible refine LeO.ite ?_ ?_)
      | (with_reducible refine LeO.bind ?_ (fun _ => ?_))
      | exact ih0 _ _ _ _ _ _ _ _
      | exact ih1 _ _ _ _ _ _ _
      | exact ih2 _
      | exact ih3 _
      | exact impl_AmendAll.mono _ _ _
      | exact impl_Difference.mono _ _ _
      | exact laws_sameInts.mono _ _ _
      | exact spec_DrawAmendAll.mono _ _
      | exact spec_DrawClash.mono _ _
      | exact spec_DrawDifference.mono _ _
      | exact spec_DrawUndo.mono _ _
      | exact LeO.none _
      | refine LeO.ite ?_ ?_
      | refine LeO.bind ?_ (fun _ => ?_)
    · intro y0
      unfold laws_FnAmendments.j2
      repeat' first
      | (with_reducible exact ih0 _ _ _ _ _ _ _ _)
      | (with_reducible exact ih1 _ _ _ _ _ _ _)
      | (with_reducible exact ih2 _)
      | (with_reducible exact ih3 _)
      | (with_reducible exact impl_AmendAll.mono _ _ _)
      | (with_reducible exact impl_Difference.mono _ _ _)
      | (with_reducible exact laws_sameInts.mono _ _ _)
      | (with_reducible exact spec_DrawAmendAll.mono _ _)
      | (with_reducible exact spec_DrawClash.mono _ _)
      | (with_reducible exact spec_DrawDifference.mono _ _)
      | (with_reducible exact spec_DrawUndo.mono _ _)
      | (with_reducible exact LeO.refl _)
      | (with_reducible exact LeO.none _)
      | (with_reducible refine LeO.ite ?_ ?_)
      | (with_reducible refine LeO.bind ?_ (fun _ => ?_))
      | exact ih0 _ _ _ _ _ _ _ _
      | exact ih1 _ _ _ _ _ _ _
      | exact ih2 _
      | exact ih3 _
      | exact impl_AmendAll.mono _ _ _
      | exact impl_Difference.mono _ _ _
      | exact laws_sameInts.mono _ _ _
      | exact spec_DrawAmendAll.mono _ _
      | exact spec_DrawClash.mono _ _
      | exact spec_DrawDifference.mono _ _
      | exact spec_DrawUndo.mono _ _
      | exact LeO.none _
      | refine LeO.ite ?_ ?_
      | refine LeO.bind ?_ (fun _ => ?_)
    · intro y0
      unfold laws_FnAmendments.j3
      repeat' first
      | (with_reducible exact ih0 _ _ _ _ _ _ _ _)
      | (with_reducible exact ih1 _ _ _ _ _ _ _)
      | (with_reducible exact ih2 _)
      | (with_reducible exact ih3 _)
      | (with_reducible exact impl_AmendAll.mono _ _ _)
      | (with_reducible exact impl_Difference.mono _ _ _)
      | (with_reducible exact laws_sameInts.mono _ _ _)
      | (with_reducible exact spec_DrawAmendAll.mono _ _)
      | (with_reducible exact spec_DrawClash.mono _ _)
      | (with_reducible exact spec_DrawDifference.mono _ _)
      | (with_reducible exact spec_DrawUndo.mono _ _)
      | (with_reducible exact LeO.refl _)
      | (with_reducible exact LeO.none _)
      | (with_reducible refine LeO.ite ?_ ?_)
      | (with_reducible refine LeO.bind ?_ (fun _ => ?_))
      | exact ih0 _ _ _ _ _ _ _ _
      | exact ih1 _ _ _ _ _ _ _
      | exact ih2 _
      | exact ih3 _
      | exact impl_AmendAll.mono _ _ _
      | exact impl_Difference.mono _ _ _
      | exact laws_sameInts.mono _ _ _
      | exact spec_DrawAmendAll.mono _ _
      | exact spec_DrawClash.mono _ _
      | exact spec_DrawDifference.mono _ _
      | exact spec_DrawUndo.mono _ _
      | exact LeO.none _
      | refine LeO.ite ?_ ?_
      | refine LeO.bind ?_ (fun _ => ?_)
theorem laws_FnAmendments.mono : ∀ a0 k, LeO (laws_FnAmendments.f k a0) (laws_FnAmendments.f (k + 1) a0) := by
  intro a0 k
  obtain ⟨ih0, ih1, ih2, ih3⟩ := laws_FnAmendments.mono_l k
  unfold laws_FnAmendments.f
  repeat' first
      | (with_reducible exact ih0 _ _ _ _ _ _ _ _)
      | (with_reducible exact ih1 _ _ _ _ _ _ _)
      | (with_reducible exact ih2 _)
      | (with_reducible exact ih3 _)
      | (with_reducible exact impl_AmendAll.mono _ _ _)
      | (with_reducible exact impl_Difference.mono _ _ _)
      | (with_reducible exact laws_sameInts.mono _ _ _)
      | (with_reducible exact spec_DrawAmendAll.mono _ _)
      | (with_reducible exact spec_DrawClash.mono _ _)
      | (with_reducible exact spec_DrawDifference.mono _ _)
      | (with_reducible exact spec_DrawUndo.mono _ _)
      | (with_reducible exact LeO.refl _)
      | (with_reducible exact LeO.none _)
      | (with_reducible refine LeO.ite ?_ ?_)
      | (with_reducible refine LeO.bind ?_ (fun _ => ?_))
      | exact ih0 _ _ _ _ _ _ _ _
      | exact ih1 _ _ _ _ _ _ _
      | exact ih2 _
      | exact ih3 _
      | exact impl_AmendAll.mono _ _ _
      | exact impl_Difference.mono _ _ _
      | exact laws_sameInts.mono _ _ _
      | exact spec_DrawAmendAll.mono _ _
      | exact spec_DrawClash.mono _ _
      | exact spec_DrawDifference.mono _ _
      | exact spec_DrawUndo.mono _ _
      | exact LeO.none _
      | refine LeO.ite ?_ ?_
      | refine LeO.bind ?_ (fun _ => ?_)
def laws_FnAmendments.T21 : Bool × List (List Nat × List Nat) := (true, [([], []), ([0], [0]), ([1], [1]), ([2], [2]), ([2], [2]), ([4, 2], [2, 4]), ([3, 5, 2], [2, 3, 5]), ([2, 6], [2, 6]), ([7, 2], [7]), ([8], [8]), ([8], [8]), ([9, 10, 8, 8], [8, 9, 10]), ([8], [8]), ([8], [8]), ([12, 13, 11, 8], [8, 12, 13]), ([11, 14, 8], [8, 11, 14]), ([8, 15], [8, 15]), ([16, 14, 0, 1, 2, 3, 4, 5, 6, 7, 8, 9, 10, 11, 12, 13, 14, 15, 16], [16])])
def laws_FnAmendments.B21 : List Nat := [0, 1, 3, 7, 7, 23, 63, 127, 255, 511, 511, 2047, 511, 511, 16383, 32767, 65535, 131071]
theorem laws_FnAmendments.tab21 : rtab .any (opsOf Try.f9 21) = laws_FnAmendments.T21 := by kernel_rfl
theorem laws_FnAmendments.bits21 : waitsOk laws_FnAmendments.T21.2 laws_FnAmendments.B21 = true := by kernel_rfl
theorem laws_FnAmendments.j0_no : ∀ k a0 a1 a2 a3 a5 a6 a7, laws_FnAmendments.j0 k a0 a1 a2 a3 true a5 a6 a7 = some true → False := by
  intro k a0 a1 a2 a3 a5 a6 a7
  cases k <;> simp [laws_FnAmendments.j0]
set_option maxHeartbeats 8000000 in
set_option maxRecDepth 100000 in
theorem laws_FnAmendments.calls (k : Nat) (A0 : Option Addr) (c0 : Nat) (l0 : List Int) (r : Bool) (w : World) (hr0 : Kd.C (Kd.int .u8) w A0 l0.length l0) (hc0 : l0.length ≤ c0) (hr_ : r = true) (h : laws_FnAmendments.f k l0 = some r) :
    Calls Try.prog 9 #[.slice A0 l0.length c0] w fun e w' => e = .returned (.bool r) ∧ Below w.heap.size w w' := by
  have hu28 := Try.underlying28
  have HR0 := Aside0.mk hr0
  have HC0 := Aside0.mk hc0
  clear hr0 hc0
  have HB := Aside0.mk (Below.refl w.heap.size w)
  have H : ((laws_big.f l0).bind fun t374 => (if t374 = true then (some true) else ((spec_DrawUndo.f k l0).bind fun bt375 => ((impl_Amended.f bt375.1 bt375.2.1 bt375.2.2.1 bt375.2.2.2).bind fun bt384 => ((impl_Undo.f bt375.1 bt375.2.1 bt375.2.2.1 bt375.2.2.2).bind fun bt388 => (if (bt384.2 != bt388.2.2.2) = true then (laws_FnAmendments.j0 k l0 bt375.1 bt384.1 bt384.2 true bt388.1 bt388.2.1 bt388.2.2.1) else ((impl_MayAmend.f bt375.1 bt375.2.1 bt375.2.2.1 bt375.2.2.2).bind fun t395 => (if (bt384.2 != t395) = true then (laws_FnAmendments.j0 k l0 bt375.1 bt384.1 bt384.2 true bt388.1 bt388.2.1 bt388.2.2.1) else (if bt384.2 = true then (if (bt384.1.length : Int) = (wrap64 ((wrap64 ((bt375.1.length : Int) - bt375.2.2.1)) + (bt375.2.2.2.length : Int))) then (if (bt384.1.length : Int) > 60 then (laws_FnAmendments.j0 k l0 bt375.1 bt384.1 bt384.2 true bt388.1 bt388.2.1 bt388.2.2.1) else (laws_FnAmendments.j0 k l0 bt375.1 bt384.1 bt384.2 false bt388.1 bt388.2.1 bt388.2.2.1)) else (laws_FnAmendments.j0 k l0 bt375.1 bt384.1 bt384.2 true bt388.1 bt388.2.1 bt388.2.2.1)) else ((laws_sameInts.f k bt384.1 bt375.1).bind fun t396 => (laws_FnAmendments.j0 k l0 bt375.1 bt384.1 bt384.2 (!t396) bt388.1 bt388.2.1 bt388.2.2.1))))))))))) = some r := h
  clear h
  replace H := Option.bind_eq_some_iff.mp H
  obtain ⟨t374, A20, H⟩ := H
  replace H : (if t374 = true then (some true) else ((spec_DrawUndo.f k l0).bind fun bt375 => ((impl_Amended.f bt375.1 bt375.2.1 bt375.2.2.1 bt375.2.2.2).bind fun bt384 => ((impl_Undo.f bt375.1 bt375.2.1 bt375.2.2.1 bt375.2.2.2).bind fun bt388 => (if (bt384.2 != bt388.2.2.2) = true then (laws_FnAmendments.j0 k l0 bt375.1 bt384.1 bt384.2 true bt388.1 bt388.2.1 bt388.2.2.1) else ((impl_MayAmend.f bt375.1 bt375.2.1 bt375.2.2.1 bt375.2.2.2).bind fun t395 => (if (bt384.2 != t395) = true then (laws_FnAmendments.j0 k l0 bt375.1 bt384.1 bt384.2 true bt388.1 bt388.2.1 bt388.2.2.1) else (if bt384.2 = true then (if (bt384.1.length : Int) = (wrap64 ((wrap64 ((bt375.1.length : Int) - bt375.2.2.1)) + (bt375.2.2.2.length : Int))) then (if (bt384.1.length : Int) > 60 then (laws_FnAmendments.j0 k l0 bt375.1 bt384.1 bt384.2 true bt388.1 bt388.2.1 bt388.2.2.1) else (laws_FnAmendments.j0 k l0 bt375.1 bt384.1 bt384.2 false bt388.1 bt388.2.1 bt388.2.2.1)) else (laws_FnAmendments.j0 k l0 bt375.1 bt384.1 bt384.2 true bt388.1 bt388.2.1 bt388.2.2.1)) else ((laws_sameInts.f k bt384.1 bt375.1).bind fun t396 => (laws_FnAmendments.j0 k l0 bt375.1 bt384.1 bt384.2 (!t396) bt388.1 bt388.2.1 bt388.2.2.1)))))))))) = some r := H
  have A2 := Aside0.mk A20
  clear A20
  by_cases c3 : t374 = true
  · subst c3
    have H1 : (some true) = some r := by rw [if_pos rfl] at H; exact H
    clear H
    have H := H1
    clear H1
    obtain rfl := Option.some.inj H
    go_enter Try.func9, Try.ntmps9
    go_wp2_with (first | ((with_reducible refine gate_callee (f := 39) rfl ?_); refine goesL_ (some 23) rfl rfl Try.func39 (by kernel_rfl) rfl #[.slice A0 l0.length c0] rfl (by (try simp only [List.map_toArray, List.map_cons, List.map_nil]); first | done | rfl | (simp only [List.length_drop, List.length_take]; rfl)) ?_; (with_reducible refine (laws_big.calls _ _ l0 true _ ?side1 ?side2 A2.out).mono ?_); (case side1 => repeat (first | exact HR0.out | (with_reducible refine Kd.C_alloc ?_ _) | (with_reducible refine Kd.C_drewN ?_ _) | (with_reducible refine Kd.C_drew ?_))); (case side2 => exact HC0.out); rintro e w' ⟨rfl, ⟨nd, rfl⟩⟩; refine ⟨_, rfl, ?_⟩))
    go_ret
    exact ⟨by first | rfl | (simp [errW_none, errW_some] <;> rfl) | (simp [*, errW_none, errW_some] <;> rfl), by repeat (first | (with_reducible first | exact HB.out | apply below_alloc | apply pw_below_drewN | apply below_drew1) | exact HB.out)⟩
  · replace c3 := Bool.eq_false_iff.mpr c3
    subst c3
    have H1 : ((spec_DrawUndo.f k l0).bind fun bt375 => ((impl_Amended.f bt375.1 bt375.2.1 bt375.2.2.1 bt375.2.2.2).bind fun bt384 => ((impl_Undo.f bt375.1 bt375.2.1 bt375.2.2.1 bt375.2.2.2).bind fun bt388 => (if (bt384.2 != bt388.2.2.2) = true then (laws_FnAmendments.j0 k l0 bt375.1 bt384.1 bt384.2 true bt388.1 bt388.2.1 bt388.2.2.1) else ((impl_MayAmend.f bt375.1 bt375.2.1 bt375.2.2.1 bt375.2.2.2).bind fun t395 => (if (bt384.2 != t395) = true then (laws_FnAmendments.j0 k l0 bt375.1 bt384.1 bt384.2 true bt388.1 bt388.2.1 bt388.2.2.1) else (if bt384.2 = true then (if (bt384.1.length : Int) = (wrap64 ((wrap64 ((bt375.1.length : Int) - bt375.2.2.1)) + (bt375.2.2.2.length : Int))) then (if (bt384.1.length : Int) > 60 then (laws_FnAmendments.j0 k l0 bt375.1 bt384.1 bt384.2 true bt388.1 bt388.2.1 bt388.2.2.1) else (laws_FnAmendments.j0 k l0 bt375.1 bt384.1 bt384.2 false bt388.1 bt388.2.1 bt388.2.2.1)) else (laws_FnAmendments.j0 k l0 bt375.1 bt384.1 bt384.2 true bt388.1 bt388.2.1 bt388.2.2.1)) else ((laws_sameInts.f k bt384.1 bt375.1).bind fun t396 => (laws_FnAmendments.j0 k l0 bt375.1 bt384.1 bt384.2 (!t396) bt388.1 bt388.2.1 bt388.2.2.1))))))))) = some r := by rw [if_neg (show ¬ (false = true) by decide)] at H; exact H
    clear H
    have H := H1
    clear H1
    replace H := Option.bind_eq_some_iff.mp H
    obtain ⟨⟨t375, t378, t379, t380⟩, A40, H⟩ := H
    replace H : ((impl_Amended.f t375 t378 t379 t380).bind fun bt384 => ((impl_Undo.f t375 t378 t379 t380).bind fun bt388 => (if (bt384.2 != bt388.2.2.2) = true then (laws_FnAmendments.j0 k l0 t375 bt384.1 bt384.2 true bt388.1 bt388.2.1 bt388.2.2.1) else ((impl_MayAmend.f t375 t378 t379 t380).bind fun t395 => (if (bt384.2 != t395) = true then (laws_FnAmendments.j0 k l0 t375 bt384.1 bt384.2 true bt388.1 bt388.2.1 bt388.2.2.1) else (if bt384.2 = true then (if (bt384.1.length : Int) = (wrap64 ((wrap64 ((t375.length : Int) - t379)) + (t380.length : Int))) then (if (bt384.1.length : Int) > 60 then (laws_FnAmendments.j0 k l0 t375 bt384.1 bt384.2 true bt388.1 bt388.2.1 bt388.2.2.1) else (laws_FnAmendments.j0 k l0 t375 bt384.1 bt384.2 false bt388.1 bt388.2.1 bt388.2.2.1)) else (laws_FnAmendments.j0 k l0 t375 bt384.1 bt384.2 true bt388.1 bt388.2.1 bt388.2.2.1)) else ((laws_sameInts.f k bt384.1 t375).bind fun t396 => (laws_FnAmendments.j0 k l0 t375 bt384.1 bt384.2 (!t396) bt388.1 bt388.2.1 bt388.2.2.1)))))))) = some r := H
    have A4 := Aside0.mk A40
    clear A40
    replace H := Option.bind_eq_some_iff.mp H
    obtain ⟨⟨t384, t387⟩, A50, H⟩ := H
    replace H : ((impl_Undo.f t375 t378 t379 t380).bind fun bt388 => (if (t387 != bt388.2.2.2) = true then (laws_FnAmendments.j0 k l0 t375 t384 t387 true bt388.1 bt388.2.1 bt388.2.2.1) else ((impl_MayAmend.f t375 t378 t379 t380).bind fun t395 => (if (t387 != t395) = true then (laws_FnAmendments.j0 k l0 t375 t384 t387 true bt388.1 bt388.2.1 bt388.2.2.1) else (if t387 = true then (if (t384.length : Int) = (wrap64 ((wrap64 ((t375.length : Int) - t379)) + (t380.length : Int))) then (if (t384.length : Int) > 60 then (laws_FnAmendments.j0 k l0 t375 t384 t387 true bt388.1 bt388.2.1 bt388.2.2.1) else (laws_FnAmendments.j0 k l0 t375 t384 t387 false bt388.1 bt388.2.1 bt388.2.2.1)) else (laws_FnAmendments.j0 k l0 t375 t384 t387 true bt388.1 bt388.2.1 bt388.2.2.1)) else ((laws_sameInts.f k t384 t375).bind fun t396 => (laws_FnAmendments.j0 k l0 t375 t384 t387 (!t396) bt388.1 bt388.2.1 bt388.2.2.1))))))) = some r := H
    have A5 := Aside0.mk A50
    clear A50
    replace H := Option.bind_eq_some_iff.mp H
    obtain ⟨⟨t388, t389, t390, t393⟩, A60, H⟩ := H
    replace H : (if (t387 != t393) = true then (laws_FnAmendments.j0 k l0 t375 t384 t387 true t388 t389 t390) else ((impl_MayAmend.f t375 t378 t379 t380).bind fun t395 => (if (t387 != t395) = true then (laws_FnAmendments.j0 k l0 t375 t384 t387 true t388 t389 t390) else (if t387 = true then (if (t384.length : Int) = (wrap64 ((wrap64 ((t375.length : Int) - t379)) + (t380.length : Int))) then (if (t384.length : Int) > 60 then (laws_FnAmendments.j0 k l0 t375 t384 t387 true t388 t389 t390) else (laws_FnAmendments.j0 k l0 t375 t384 t387 false t388 t389 t390)) else (laws_FnAmendments.j0 k l0 t375 t384 t387 true t388 t389 t390)) else ((laws_sameInts.f k t384 t375).bind fun t396 => (laws_FnAmendments.j0 k l0 t375 t384 t387 (!t396) t388 t389 t390)))))) = some r := H
    have A6 := Aside0.mk A60
    clear A60
    have HC7 := Aside0.mk H
    clear H
    go_enter Try.func9, Try.ntmps9
    go_upto_region 6 with (first | ((with_reducible refine gate_callee (f := 39) rfl ?_); refine goesL_ (some 23) rfl rfl Try.func39 (by kernel_rfl) rfl #[.slice A0 l0.length c0] rfl (by (try simp only [List.map_toArray, List.map_cons, List.map_nil]); first | done | rfl | (simp only [List.length_drop, List.length_take]; rfl)) ?_; (with_reducible refine (laws_big.calls _ _ l0 false _ ?side1 ?side2 A2.out).mono ?_); (case side1 => repeat (first | exact HR0.out | (with_reducible refine Kd.C_alloc ?_ _) | (with_reducible refine Kd.C_drewN ?_ _) | (with_reducible refine Kd.C_drew ?_))); (case side2 => exact HC0.out); rintro e w' ⟨rfl, ⟨nd, rfl⟩⟩; refine ⟨_, rfl, ?_⟩) | ((with_reducible refine gate_callee (f := 40) rfl ?_); refine goesL_ (some 26) rfl rfl Try.func40 (by kernel_rfl) rfl #[.slice A0 l0.length c0] rfl (by (try simp only [List.map_toArray, List.map_cons, List.map_nil]); first | done | rfl | (simp only [List.length_drop, List.length_take]; rfl)) ?_; (with_reducible refine (spec_DrawUndo.calls k _ _ l0 t375 t378 t379 t380 _ ?side1 ?side2 A4.out).mono ?_); (case side1 => repeat (first | exact HR0.out | (with_reducible refine Kd.C_alloc ?_ _) | (with_reducible refine Kd.C_drewN ?_ _) | (with_reducible refine Kd.C_drew ?_))); (case side2 => exact HC0.out); rintro e w8 ⟨v376, v381, rfl, ho0, ho1, hb⟩; refine ⟨_, rfl, ?_⟩; have n0_ := Aside0.mk (Kd.R_lower ho0 (below_size (by repeat (first | (with_reducible first | exact HB.out | apply below_alloc | apply pw_below_drewN | apply below_drew1) | exact HB.out)))); have n1_ := Aside0.mk (Kd.R_lower ho1 (below_size (by repeat (first | (with_reducible first | exact HB.out | apply below_alloc | apply pw_below_drewN | apply below_drew1) | exact HB.out)))); have n2_ := Aside0.mk (below_step (by repeat (first | (with_reducible first | exact HB.out | apply below_alloc | apply pw_below_drewN | apply below_drew1) | exact HB.out)) hb); clear HB; have HO377 := n0_; have HO382 := n1_; have HB := n2_; clear n0_ n1_ n2_; (try clear hb); (try clear hb2); (try clear hk); (try clear hi); (try clear ho0); (try clear ho1)) | ((with_reducible refine gate_dst (N := 4) rfl ?_); (try (refine gate_guard (by rfl) ?_; dsimp only)); refine box_event ?hg (N := 4) ?hd (cs := #[.int .i64 0, .int .i64 0, .slice none 0 0]) (t := 28) ?hr ?_; (case hd => rfl); (case hg => rfl); (case hr => first | (go_simp; done) | (go_simp; rfl)); intro gb383 hg w9 hbox hb; have n0_ := Aside0.mk (Kd.R_below (by (with_reducible repeat (first | apply Kd.R_alloc | apply Kd.R_drewN | apply Kd.R_drew)); exact HO377.out) hb); have n1_ := Aside0.mk (Kd.R_below (by (with_reducible repeat (first | apply Kd.R_alloc | apply Kd.R_drewN | apply Kd.R_drew)); exact HO382.out) hb); have n2_ := Aside0.mk (below_step (by repeat (first | (with_reducible first | exact HB.out | apply below_alloc | apply pw_below_drewN | apply below_drew1) | exact HB.out)) hb); have n3_ := Aside0.mk (hbox); have n4_ := Aside0.mk ((by rw [hg]; exact (below_size (by repeat (first | (with_reducible first | exact HB.out | apply below_alloc | apply pw_below_drewN | apply below_drew1) | exact HB.out))) : w.heap.size ≤ gb383)); have n5_ := Aside0.mk ((by rw [hg]; exact (below_size (by repeat (first | (with_reducible first | exact HB.out | apply below_alloc | apply pw_below_drewN | apply below_drew1) | exact HB.out))) : w.heap.size ≤ gb383)); clear HO377; clear HO382; clear HB; have HO377 := n0_; have HO382 := n1_; have HB := n2_; have BK383 := n3_; have GW383 := n4_; have GE383 := n5_; clear n0_ n1_ n2_ n3_ n4_ n5_; clear hb hbox hg; have hcz10_0 : w9.cell? ⟨gb383, 0, none⟩ = some (.int .i64 0) := (blk_cell BK383.out 0).trans rfl; have hcz10_1 : w9.cell? ⟨gb383, 1, none⟩ = some (.int .i64 0) := (blk_cell BK383.out 1).trans rfl; have hcz10_2 : w9.cell? ⟨gb383, 2, none⟩ = some (.slice none 0 0) := (blk_cell BK383.out 2).trans rfl; have hfz10_0 := blk_frozen BK383.out 0; have hfz10_1 := blk_frozen BK383.out 1; have hfz10_2 := blk_frozen BK383.out 2; obtain ⟨Ao11, co11, eo11⟩ := Kd.R_slice HO382.out; subst eo11; obtain ⟨Ao12, co12, eo12⟩ := Kd.R_slice HO377.out; subst eo12) | ((with_reducible refine gate_callee (f := 31) rfl ?_); refine goesL_ (some 32) rfl rfl Try.func31 (by kernel_rfl) rfl #[.slice Ao12 t375.length co12, .agg #[.int .i64 t378, .int .i64 t379, .slice Ao11 t380.length co11]] rfl (by (try simp only [List.map_toArray, List.map_cons, List.map_nil]); first | done | rfl | (simp only [List.length_drop, List.length_take]; rfl)) ?_; (with_reducible refine (impl_Amended.calls _ _ t375 t378 t379 _ _ t380 t384 t387 _ ?side1 ?side2 ?side3 ?side4 A5.out).mono ?_); (case side1 => refine (Kd.R_reads' (e := 3) (base := w.heap.size) (ok := fun k_ => some k_ ≠ (.slice Ao11 t380.length co11 : Value).ownBlock) (n := t375.length) (c := co12) ?_).2.2; exact (by (with_reducible repeat (first | apply Kd.R_alloc | apply Kd.R_drewN | apply Kd.R_drew)); exact (Kd.R_mono (Kd.R_far (p := ⟨gb383, 2, none⟩) (Kd.R_far (p := ⟨gb383, 1, none⟩) (Kd.R_far (p := ⟨gb383, 0, none⟩) (Kd.R_types HO377.out BK383.out (by decide)) (fun _ hk => hk.2) (.int .i64 t378)) (fun _ hk => hk.2) (.int .i64 t379)) (fun _ hk => hk.2) (.slice Ao11 t380.length co11)) (fun _ h_ => h_.1)))); (case side2 => exact (Kd.R_reads' HO377.out).2.1); (case side3 => refine (Kd.R_reads' (e := 3) (base := w.heap.size) (ok := fun k_ => some k_ ≠ (.slice Ao12 t375.length co12 : Value).ownBlock) (n := t380.length) (c := co11) ?_).2.2; exact (by (with_reducible repeat (first | apply Kd.R_alloc | apply Kd.R_drewN | apply Kd.R_drew)); exact (Kd.R_mono (Kd.R_far (p := ⟨gb383, 2, none⟩) (Kd.R_far (p := ⟨gb383, 1, none⟩) (Kd.R_far (p := ⟨gb383, 0, none⟩) (Kd.R_types HO382.out BK383.out (by decide)) (fun _ hk => hk.2) (.int .i64 t378)) (fun _ hk => hk.2) (.int .i64 t379)) (fun _ hk => hk.2) (.slice Ao11 t380.length co11)) (fun _ h_ => h_.1)))); (case side4 => exact (Kd.R_reads' HO382.out).2.1); rintro e w13 ⟨v385, rfl, ho0, hb⟩; refine ⟨_, rfl, ?_⟩; have n0_ := Aside0.mk (Kd.R_elder' (by (with_reducible repeat (first | apply Kd.R_alloc | apply Kd.R_drewN | apply Kd.R_drew)); exact (Kd.R_mono (Kd.R_far (p := ⟨gb383, 2, none⟩) (Kd.R_far (p := ⟨gb383, 1, none⟩) (Kd.R_far (p := ⟨gb383, 0, none⟩) (Kd.R_types HO377.out BK383.out (by decide)) (fun _ hk => hk.2) (.int .i64 t378)) (fun _ hk => hk.2) (.int .i64 t379)) (fun _ hk => hk.2) (.slice Ao11 t380.length co11)) (fun _ h_ => h_.1))) (Kd.R_base ho0) hb); have n1_ := Aside0.mk (Kd.R_elder' (by (with_reducible repeat (first | apply Kd.R_alloc | apply Kd.R_drewN | apply Kd.R_drew)); exact (Kd.R_mono (Kd.R_far (p := ⟨gb383, 2, none⟩) (Kd.R_far (p := ⟨gb383, 1, none⟩) (Kd.R_far (p := ⟨gb383, 0, none⟩) (Kd.R_types HO382.out BK383.out (by decide)) (fun _ hk => hk.2) (.int .i64 t378)) (fun _ hk => hk.2) (.int .i64 t379)) (fun _ hk => hk.2) (.slice Ao11 t380.length co11)) (fun _ h_ => h_.1))) (Kd.R_base ho0) hb); have n2_ := Aside0.mk (Kd.R_lower (Kd.R_new' (Kd.R_new' ho0 (Kd.R_lt (by (with_reducible repeat (first | apply Kd.R_alloc | apply Kd.R_drewN | apply Kd.R_drew)); exact (Kd.R_mono (Kd.R_far (p := ⟨gb383, 2, none⟩) (Kd.R_far (p := ⟨gb383, 1, none⟩) (Kd.R_far (p := ⟨gb383, 0, none⟩) (Kd.R_types HO377.out BK383.out (by decide)) (fun _ hk => hk.2) (.int .i64 t378)) (fun _ hk => hk.2) (.int .i64 t379)) (fun _ hk => hk.2) (.slice Ao11 t380.length co11)) (fun _ h_ => h_.1))))) (Kd.R_lt (by (with_reducible repeat (first | apply Kd.R_alloc | apply Kd.R_drewN | apply Kd.R_drew)); exact (Kd.R_mono (Kd.R_far (p := ⟨gb383, 2, none⟩) (Kd.R_far (p := ⟨gb383, 1, none⟩) (Kd.R_far (p := ⟨gb383, 0, none⟩) (Kd.R_types HO382.out BK383.out (by decide)) (fun _ hk => hk.2) (.int .i64 t378)) (fun _ hk => hk.2) (.int .i64 t379)) (fun _ hk => hk.2) (.slice Ao11 t380.length co11)) (fun _ h_ => h_.1))))) (below_size (by repeat (first | (with_reducible first | exact HB.out | apply below_alloc | apply pw_below_drewN | apply below_drew1 | refine below_set ?_ GE383.out) | exact HB.out)))); have n3_ := Aside0.mk (blk_below (g := gb383) (o := .cells #[.int .i64 t378, .int .i64 t379, .slice Ao11 t380.length co11] 28 (0, 0)) (by (with_reducible repeat (first | refine blk_drewN ?_ _ | refine blk_drew ?_ | refine blk_alloc ?_ _)); refine blk_put (cs := #[.int .i64 t378, .int .i64 t379, .slice none 0 0]) ?_ 2 _ rfl; (with_reducible repeat (first | refine blk_drewN ?_ _ | refine blk_drew ?_ | refine blk_alloc ?_ _)); refine blk_put (cs := #[.int .i64 t378, .int .i64 0, .slice none 0 0]) ?_ 1 _ rfl; (with_reducible repeat (first | refine blk_drewN ?_ _ | refine blk_drew ?_ | refine blk_alloc ?_ _)); refine blk_put (cs := #[.int .i64 0, .int .i64 0, .slice none 0 0]) ?_ 0 _ rfl; (with_reducible repeat (first | refine blk_drewN ?_ _ | refine blk_drew ?_ | refine blk_alloc ?_ _)); exact BK383.out) hb); have n4_ := Aside0.mk (below_step (by repeat (first | (with_reducible first | exact HB.out | apply below_alloc | apply pw_below_drewN | apply below_drew1 | refine below_set ?_ GE383.out) | exact HB.out)) hb); clear HO377; clear HO382; clear BK383; clear HB; have HO377 := n0_; have HO382 := n1_; have HO386 := n2_; have BK383 := n3_; have HB := n4_; clear n0_ n1_ n2_ n3_ n4_; (try clear hb); (try clear hb2); (try clear hk); (try clear hi); (try clear ho0); have hcz14_0 : w13.cell? ⟨gb383, 0, none⟩ = some (.int .i64 t378) := (blk_cell BK383.out 0).trans rfl; have hcz14_1 : w13.cell? ⟨gb383, 1, none⟩ = some (.int .i64 t379) := (blk_cell BK383.out 1).trans rfl; have hcz14_2 : w13.cell? ⟨gb383, 2, none⟩ = some (.slice Ao11 t380.length co11) := (blk_cell BK383.out 2).trans rfl; have hfz14_0 := blk_frozen BK383.out 0; have hfz14_1 := blk_frozen BK383.out 1; have hfz14_2 := blk_frozen BK383.out 2) | ((with_reducible refine gate_callee (f := 29) rfl ?_); refine goesL_ (some 38) rfl rfl Try.func29 (by kernel_rfl) rfl #[.slice Ao12 t375.length co12, .agg #[.int .i64 t378, .int .i64 t379, .slice Ao11 t380.length co11]] rfl (by (try simp only [List.map_toArray, List.map_cons, List.map_nil]); first | done | rfl | (simp only [List.length_drop, List.length_take]; rfl)) ?_; (with_reducible refine (impl_Undo.calls _ _ t375 t378 t379 _ _ t380 t388 t389 t390 t393 _ ?side1 ?side2 ?side3 ?side4 A6.out).mono ?_); (case side1 => repeat (first | exact (Kd.R_reads' HO377.out).2.2 | (with_reducible refine Kd.C_alloc ?_ _) | (with_reducible refine Kd.C_drewN ?_ _) | (with_reducible refine Kd.C_drew ?_))); (case side2 => exact (Kd.R_reads' HO377.out).2.1); (case side3 => repeat (first | exact (Kd.R_reads' HO382.out).2.2 | (with_reducible refine Kd.C_alloc ?_ _) | (with_reducible refine Kd.C_drewN ?_ _) | (with_reducible refine Kd.C_drew ?_))); (case side4 => exact (Kd.R_reads' HO382.out).2.1); rintro e w15 ⟨v391, rfl, ho0, hb⟩; refine ⟨_, rfl, ?_⟩; have n0_ := Aside0.mk (Kd.R_elder' (by (with_reducible repeat (first | apply Kd.R_alloc | apply Kd.R_drewN | apply Kd.R_drew)); exact HO377.out) (Kd.R_base ho0) hb); have n1_ := Aside0.mk (Kd.R_elder' (by (with_reducible repeat (first | apply Kd.R_alloc | apply Kd.R_drewN | apply Kd.R_drew)); exact HO382.out) (Kd.R_base ho0) hb); have n2_ := Aside0.mk (Kd.R_elder' (by (with_reducible repeat (first | apply Kd.R_alloc | apply Kd.R_drewN | apply Kd.R_drew)); exact HO386.out) (Kd.R_base ho0) hb); have n3_ := Aside0.mk (Kd.R_lower (Kd.R_new' (Kd.R_new' (Kd.R_new' ho0 (Kd.R_lt (by (with_reducible repeat (first | apply Kd.R_alloc | apply Kd.R_drewN | apply Kd.R_drew)); exact HO377.out))) (Kd.R_lt (by (with_reducible repeat (first | apply Kd.R_alloc | apply Kd.R_drewN | apply Kd.R_drew)); exact HO382.out))) (Kd.R_lt (by (with_reducible repeat (first | apply Kd.R_alloc | apply Kd.R_drewN | apply Kd.R_drew)); exact HO386.out))) (below_size (by repeat (first | (with_reducible first | exact HB.out | apply below_alloc | apply pw_below_drewN | apply below_drew1 | refine below_set ?_ GE383.out) | exact HB.out)))); have n4_ := Aside0.mk (blk_below (g := gb383) (o := .cells #[.int .i64 t378, .int .i64 t379, .slice Ao11 t380.length co11] 28 (0, 0)) (by (with_reducible repeat (first | refine blk_drewN ?_ _ | refine blk_drew ?_ | refine blk_alloc ?_ _)); exact BK383.out) hb); have n5_ := Aside0.mk (below_step (by repeat (first | (with_reducible first | exact HB.out | apply below_alloc | apply pw_below_drewN | apply below_drew1 | refine below_set ?_ GE383.out) | exact HB.out)) hb); clear HO377; clear HO382; clear HO386; clear BK383; clear HB; have HO377 := n0_; have HO382 := n1_; have HO386 := n2_; have HO392 := n3_; have BK383 := n4_; have HB := n5_; clear n0_ n1_ n2_ n3_ n4_ n5_; (try clear hb); (try clear hb2); (try clear hk); (try clear hi); (try clear ho0)) | ((with_reducible refine gate_dst (N := 7) rfl ?_); (try (refine gate_guard (by rfl) ?_; dsimp only)); refine box_event ?hg (N := 7) ?hd (cs := #[.int .i64 0, .int .i64 0, .slice none 0 0]) (t := 28) ?hr ?_; (case hd => rfl); (case hg => rfl); (case hr => first | (go_simp; done) | (go_simp; rfl)); intro gb394 hg w16 hbox hb; have n0_ := Aside0.mk (Kd.R_below (by (with_reducible repeat (first | apply Kd.R_alloc | apply Kd.R_drewN | apply Kd.R_drew)); exact HO377.out) hb); have n1_ := Aside0.mk (Kd.R_below (by (with_reducible repeat (first | apply Kd.R_alloc | apply Kd.R_drewN | apply Kd.R_drew)); exact HO382.out) hb); have n2_ := Aside0.mk (Kd.R_below (by (with_reducible repeat (first | apply Kd.R_alloc | apply Kd.R_drewN | apply Kd.R_drew)); exact HO386.out) hb); have n3_ := Aside0.mk (Kd.R_below (by (with_reducible repeat (first | apply Kd.R_alloc | apply Kd.R_drewN | apply Kd.R_drew)); exact HO392.out) hb); have n4_ := Aside0.mk (blk_below (g := gb383) (o := .cells #[.int .i64 t378, .int .i64 t379, .slice Ao11 t380.length co11] 28 (0, 0)) (by (with_reducible repeat (first | refine blk_drewN ?_ _ | refine blk_drew ?_ | refine blk_alloc ?_ _)); exact BK383.out) hb); have n5_ := Aside0.mk (below_step (by repeat (first | (with_reducible first | exact HB.out | apply below_alloc | apply pw_below_drewN | apply below_drew1 | refine below_set ?_ GE383.out) | exact HB.out)) hb); have n6_ := Aside0.mk (hbox); have n7_ := Aside0.mk ((by rw [hg]; exact (below_size (by repeat (first | (with_reducible first | exact HB.out | apply below_alloc | apply pw_below_drewN | apply below_drew1 | refine below_set ?_ GE383.out) | exact HB.out))) : w.heap.size ≤ gb394)); have n8_ := Aside0.mk ((by rw [hg]; exact (below_size (by repeat (first | (with_reducible first | exact HB.out | apply below_alloc | apply pw_below_drewN | apply below_drew1 | refine below_set ?_ GE383.out) | exact HB.out))) : w.heap.size ≤ gb394)); have n9_ := Aside0.mk ((by rw [hg]; exact Nat.ne_of_lt (blk_lt (g := gb383) (o := .cells #[.int .i64 t378, .int .i64 t379, .slice Ao11 t380.length co11] 28 (0, 0)) (by (with_reducible repeat (first | refine blk_drewN ?_ _ | refine blk_drew ?_ | refine blk_alloc ?_ _)); exact BK383.out)) : gb383 ≠ gb394)); have n10_ := Aside0.mk ((by rw [hg]; exact Nat.ne_of_gt (blk_lt (g := gb383) (o := .cells #[.int .i64 t378, .int .i64 t379, .slice Ao11 t380.length co11] 28 (0, 0)) (by (with_reducible repeat (first | refine blk_drewN ?_ _ | refine blk_drew ?_ | refine blk_alloc ?_ _)); exact BK383.out)) : gb394 ≠ gb383)); clear HO377; clear HO382; clear HO386; clear HO392; clear BK383; clear HB; have HO377 := n0_; have HO382 := n1_; have HO386 := n2_; have HO392 := n3_; have BK383 := n4_; have HB := n5_; have BK394 := n6_; have GW394 := n7_; have GE394 := n8_; have NB383_394 := n9_; have NB394_383 := n10_; clear n0_ n1_ n2_ n3_ n4_ n5_ n6_ n7_ n8_ n9_ n10_; clear hb hbox hg; have hnb17 := NB394_383.out; have hnc17 := NB383_394.out; have hcz18_0 : w16.cell? ⟨gb394, 0, none⟩ = some (.int .i64 0) := (blk_cell BK394.out 0).trans rfl; have hcz18_1 : w16.cell? ⟨gb394, 1, none⟩ = some (.int .i64 0) := (blk_cell BK394.out 1).trans rfl; have hcz18_2 : w16.cell? ⟨gb394, 2, none⟩ = some (.slice none 0 0) := (blk_cell BK394.out 2).trans rfl; have hfz18_0 := blk_frozen BK394.out 0; have hfz18_1 := blk_frozen BK394.out 1; have hfz18_2 := blk_frozen BK394.out 2; obtain ⟨Ao19, co19, eo19⟩ := Kd.R_slice HO392.out; subst eo19))
    (try simp only [Act.put, List.setIfInBounds_toArray, List.set_cons_zero, List.set_cons_succ])
    go_cut [82] (fun v82 wc => ∃ (kq : Nat) (x82_6 : Bool), v82 = .bool x82_6 ∧ Aside0 (laws_FnAmendments.j0 kq l0 t375 t384 t387 x82_6 t388 t389 t390 = some r) ∧ Aside0 (kq ≤ k) ∧ Aside0 (Kd.R (Kd.int .i64) 3 wc w.heap.size (fun k_ => some k_ ≠ (v385 : Value).ownBlock ∧ some k_ ≠ ((.slice Ao11 t380.length co11) : Value).ownBlock ∧ some k_ ≠ ((.slice Ao19 t390.length co19) : Value).ownBlock) (.slice Ao12 t375.length co12) t375) ∧ Aside0 (Kd.R (Kd.int .i64) 3 wc w.heap.size (fun k_ => some k_ ≠ ((.slice Ao12 t375.length co12) : Value).ownBlock ∧ some k_ ≠ ((.slice Ao11 t380.length co11) : Value).ownBlock ∧ some k_ ≠ ((.slice Ao19 t390.length co19) : Value).ownBlock) v385 t384) ∧ Aside0 (Kd.R (Kd.int .i64) 3 wc w.heap.size (fun k_ => some k_ ≠ ((.slice Ao12 t375.length co12) : Value).ownBlock ∧ some k_ ≠ (v385 : Value).ownBlock ∧ some k_ ≠ ((.slice Ao19 t390.length co19) : Value).ownBlock) (.slice Ao11 t380.length co11) t380) ∧ Aside0 (Kd.R (Kd.int .i64) 3 wc w.heap.size (fun k_ => some k_ ≠ ((.slice Ao12 t375.length co12) : Value).ownBlock ∧ some k_ ≠ (v385 : Value).ownBlock ∧ some k_ ≠ ((.slice Ao11 t380.length co11) : Value).ownBlock) (.slice Ao19 t390.length co19) t390) ∧ Aside0 (wc.heap[gb383]? = some (.cells #[.int .i64 t378, .int .i64 t379, (.slice Ao11 t380.length co11)] 28 (0, 0))) ∧ Aside0 (wc.heap[gb394]? = some (.cells #[.int .i64 t388, .int .i64 t389, (.slice Ao19 t390.length co19)] 28 (0, 0))) ∧ Aside0 (Below w.heap.size w wc))
    case first =>
      have H := HC7.out
      clear HC7
      by_cases c20 : (t387 != t393) = true
      · rw [if_pos c20] at H
        have c20b0 : (t387 != t393) = true := c20
        (try (have c20b1 : decide (t387 = t393) = false := by simpa using c20))
        (try (have c20b2 : (t387 == t393) = false := by simpa using c20))
        (try (have c20b3 : ¬ (t387 = t393) := by simpa using c20))
        clear c20
        (first | rw [c20b0] | (simp only [i64_w, i32_w]; rw [c20b0]) | skip)
        exact absurd (H.trans (congrArg some hr_)) (fun h_ => laws_FnAmendments.j0_no _ _ _ _ _ _ _ _ h_)
      · rw [if_neg c20] at H
        have c20b0 : (t387 != t393) = false := by simpa using c20
        (try (have c20b1 : decide (t387 = t393) = true := by simpa using c20))
        (try (have c20b2 : (t387 == t393) = true := by simpa using c20))
        clear c20
        (first | rw [c20b0] | (simp only [i64_w, i32_w]; rw [c20b0]) | skip)
        replace H := Option.bind_eq_some_iff.mp H
        obtain ⟨t395, A210, H⟩ := H
        replace H : (if (t387 != t395) = true then (laws_FnAmendments.j0 k l0 t375 t384 t387 true t388 t389 t390) else (if t387 = true then (if (t384.length : Int) = (wrap64 ((wrap64 ((t375.length : Int) - t379)) + (t380.length : Int))) then (if (t384.length : Int) > 60 then (laws_FnAmendments.j0 k l0 t375 t384 t387 true t388 t389 t390) else (laws_FnAmendments.j0 k l0 t375 t384 t387 false t388 t389 t390)) else (laws_FnAmendments.j0 k l0 t375 t384 t387 true t388 t389 t390)) else ((laws_sameInts.f k t384 t375).bind fun t396 => (laws_FnAmendments.j0 k l0 t375 t384 t387 (!t396) t388 t389 t390)))) = some r := H
        have A21 := Aside0.mk A210
        clear A210
        by_cases c22 : (t387 != t395) = true
        · rw [if_pos c22] at H
          have c22b0 : (t387 != t395) = true := c22
          (try (have c22b1 : decide (t387 = t395) = false := by simpa using c22))
          (try (have c22b2 : (t387 == t395) = false := by simpa using c22))
          (try (have c22b3 : ¬ (t387 = t395) := by simpa using c22))
          clear c22
          exact absurd (H.trans (congrArg some hr_)) (fun h_ => laws_FnAmendments.j0_no _ _ _ _ _ _ _ _ h_)
        · rw [if_neg c22] at H
          have c22b0 : (t387 != t395) = false := by simpa using c22
          (try (have c22b1 : decide (t387 = t395) = true := by simpa using c22))
          (try (have c22b2 : (t387 == t395) = true := by simpa using c22))
          clear c22
          by_cases c26 : t387 = true
          · subst c26
            have H1 : (if (t384.length : Int) = (wrap64 ((wrap64 ((t375.length : Int) - t379)) + (t380.length : Int))) then (if (t384.length : Int) > 60 then (laws_FnAmendments.j0 k l0 t375 t384 true true t388 t389 t390) else (laws_FnAmendments.j0 k l0 t375 t384 true false t388 t389 t390)) else (laws_FnAmendments.j0 k l0 t375 t384 true true t388 t389 t390)) = some r := by rw [if_pos rfl] at H; exact H
            clear H
            have H := H1
            clear H1
            by_cases c27 : (t384.length : Int) = (wrap64 ((wrap64 ((t375.length : Int) - t379)) + (t380.length : Int)))
            · rw [if_pos c27] at H
              have c27b0 : ((t384.length : Int) == (wrap64 ((wrap64 ((t375.length : Int) - t379)) + (t380.length : Int)))) = true := beq_iff_eq.mpr c27
              have c27b1 : ((t384.length : Int) != (wrap64 ((wrap64 ((t375.length : Int) - t379)) + (t380.length : Int)))) = false := bne_eq_false_iff_eq.mpr c27
              clear c27
              by_cases c28 : (t384.length : Int) > 60
              · rw [if_pos c28] at H
                have c28b0 : decide (60 < (t384.length : Int)) = true := decide_eq_true c28
                have c28b1 : decide (60 < t384.length) = true := decide_eq_true (by omega)
                clear c28
                exact absurd (H.trans (congrArg some hr_)) (fun h_ => laws_FnAmendments.j0_no _ _ _ _ _ _ _ _ h_)
              · rw [if_neg c28] at H
                have c28b0 : decide (60 < (t384.length : Int)) = false := decide_eq_false c28
                have c28b1 : decide (60 < t384.length) = false := decide_eq_false (by omega)
                clear c28
                have H' := Aside0.mk H
                clear H
                have hnb34 := NB383_394.out
                have hnc34 := NB394_383.out
                have hcz35_0 : w16.cell? ⟨gb383, 0, none⟩ = some (.int .i64 t378) := (blk_cell BK383.out 0).trans rfl
                have hcz35_1 : w16.cell? ⟨gb383, 1, none⟩ = some (.int .i64 t379) := (blk_cell BK383.out 1).trans rfl
                have hcz35_2 : w16.cell? ⟨gb383, 2, none⟩ = some (.slice Ao11 t380.length co11) := (blk_cell BK383.out 2).trans rfl
                have hfz35_0 := blk_frozen BK383.out 0
                have hfz35_1 := blk_frozen BK383.out 1
                have hfz35_2 := blk_frozen BK383.out 2
                go_wp2_with (first | (go_at_call 18; (with_reducible refine (impl_MayAmend.calls _ _ t375 t378 t379 _ _ t380 t395 _ ?side1 ?side2 ?side3 ?side4 A21.out).mono ?_); (case side1 => refine (Kd.R_reads' (e := 3) (base := w.heap.size) (ok := fun k_ => ((some k_ ≠ (.slice Ao11 t380.length co11 : Value).ownBlock ∧ some k_ ≠ (v385 : Value).ownBlock) ∧ some k_ ≠ (.slice Ao19 t390.length co19 : Value).ownBlock)) (n := t375.length) (c := co12) ?_).2.2; exact (by (with_reducible repeat (first | apply Kd.R_alloc | apply Kd.R_drewN | apply Kd.R_drew)); exact (Kd.R_mono (Kd.R_far (p := ⟨gb394, 2, none⟩) (Kd.R_far (p := ⟨gb394, 1, none⟩) (Kd.R_far (p := ⟨gb394, 0, none⟩) (Kd.R_types HO377.out BK394.out (by decide)) (fun _ hk => hk.2) (.int .i64 t388)) (fun _ hk => hk.2) (.int .i64 t389)) (fun _ hk => hk.2) (.slice Ao19 t390.length co19)) (fun _ h_ => h_.1)))); (case side2 => exact (Kd.R_reads' HO377.out).2.1); (case side3 => refine (Kd.R_reads' (e := 3) (base := w.heap.size) (ok := fun k_ => ((some k_ ≠ (.slice Ao12 t375.length co12 : Value).ownBlock ∧ some k_ ≠ (v385 : Value).ownBlock) ∧ some k_ ≠ (.slice Ao19 t390.length co19 : Value).ownBlock)) (n := t380.length) (c := co11) ?_).2.2; exact (by (with_reducible repeat (first | apply Kd.R_alloc | apply Kd.R_drewN | apply Kd.R_drew)); exact (Kd.R_mono (Kd.R_far (p := ⟨gb394, 2, none⟩) (Kd.R_far (p := ⟨gb394, 1, none⟩) (Kd.R_far (p := ⟨gb394, 0, none⟩) (Kd.R_types HO382.out BK394.out (by decide)) (fun _ hk => hk.2) (.int .i64 t388)) (fun _ hk => hk.2) (.int .i64 t389)) (fun _ hk => hk.2) (.slice Ao19 t390.length co19)) (fun _ h_ => h_.1)))); (case side4 => exact (Kd.R_reads' HO382.out).2.1); rintro e w36 ⟨rfl, hb⟩; have n0_ := Aside0.mk (Kd.R_below (by (with_reducible repeat (first | apply Kd.R_alloc | apply Kd.R_drewN | apply Kd.R_drew)); exact (Kd.R_mono (Kd.R_far (p := ⟨gb394, 2, none⟩) (Kd.R_far (p := ⟨gb394, 1, none⟩) (Kd.R_far (p := ⟨gb394, 0, none⟩) (Kd.R_types HO377.out BK394.out (by decide)) (fun _ hk => hk.2) (.int .i64 t388)) (fun _ hk => hk.2) (.int .i64 t389)) (fun _ hk => hk.2) (.slice Ao19 t390.length co19)) (fun _ h_ => h_.1))) hb); have n1_ := Aside0.mk (Kd.R_below (by (with_reducible repeat (first | apply Kd.R_alloc | apply Kd.R_drewN | apply Kd.R_drew)); exact (Kd.R_mono (Kd.R_far (p := ⟨gb394, 2, none⟩) (Kd.R_far (p := ⟨gb394, 1, none⟩) (Kd.R_far (p := ⟨gb394, 0, none⟩) (Kd.R_types HO382.out BK394.out (by decide)) (fun _ hk => hk.2) (.int .i64 t388)) (fun _ hk => hk.2) (.int .i64 t389)) (fun _ hk => hk.2) (.slice Ao19 t390.length co19)) (fun _ h_ => h_.1))) hb); have n2_ := Aside0.mk (Kd.R_below (by (with_reducible repeat (first | apply Kd.R_alloc | apply Kd.R_drewN | apply Kd.R_drew)); exact (Kd.R_mono (Kd.R_far (p := ⟨gb394, 2, none⟩) (Kd.R_far (p := ⟨gb394, 1, none⟩) (Kd.R_far (p := ⟨gb394, 0, none⟩) (Kd.R_types HO386.out BK394.out (by decide)) (fun _ hk => hk.2) (.int .i64 t388)) (fun _ hk => hk.2) (.int .i64 t389)) (fun _ hk => hk.2) (.slice Ao19 t390.length co19)) (fun _ h_ => h_.1))) hb); have n3_ := Aside0.mk (Kd.R_below (by (with_reducible repeat (first | apply Kd.R_alloc | apply Kd.R_drewN | apply Kd.R_drew)); exact (Kd.R_mono (Kd.R_far (p := ⟨gb394, 2, none⟩) (Kd.R_far (p := ⟨gb394, 1, none⟩) (Kd.R_far (p := ⟨gb394, 0, none⟩) (Kd.R_types HO392.out BK394.out (by decide)) (fun _ hk => hk.2) (.int .i64 t388)) (fun _ hk => hk.2) (.int .i64 t389)) (fun _ hk => hk.2) (.slice Ao19 t390.length co19)) (fun _ h_ => h_.1))) hb); have n4_ := Aside0.mk (blk_below (g := gb383) (o := .cells #[.int .i64 t378, .int .i64 t379, .slice Ao11 t380.length co11] 28 (0, 0)) (by (with_reducible repeat (first | refine blk_drewN ?_ _ | refine blk_drew ?_ | refine blk_alloc ?_ _)); refine blk_far ?_ NB383_394.out _; (with_reducible repeat (first | refine blk_drewN ?_ _ | refine blk_drew ?_ | refine blk_alloc ?_ _)); refine blk_far ?_ NB383_394.out _; (with_reducible repeat (first | refine blk_drewN ?_ _ | refine blk_drew ?_ | refine blk_alloc ?_ _)); refine blk_far ?_ NB383_394.out _; (with_reducible repeat (first | refine blk_drewN ?_ _ | refine blk_drew ?_ | refine blk_alloc ?_ _)); exact BK383.out) hb); have n5_ := Aside0.mk (blk_below (g := gb394) (o := .cells #[.int .i64 t388, .int .i64 t389, .slice Ao19 t390.length co19] 28 (0, 0)) (by (with_reducible repeat (first | refine blk_drewN ?_ _ | refine blk_drew ?_ | refine blk_alloc ?_ _)); refine blk_put (cs := #[.int .i64 t388, .int .i64 t389, .slice none 0 0]) ?_ 2 _ rfl; (with_reducible repeat (first | refine blk_drewN ?_ _ | refine blk_drew ?_ | refine blk_alloc ?_ _)); refine blk_put (cs := #[.int .i64 t388, .int .i64 0, .slice none 0 0]) ?_ 1 _ rfl; (with_reducible repeat (first | refine blk_drewN ?_ _ | refine blk_drew ?_ | refine blk_alloc ?_ _)); refine blk_put (cs := #[.int .i64 0, .int .i64 0, .slice none 0 0]) ?_ 0 _ rfl; (with_reducible repeat (first | refine blk_drewN ?_ _ | refine blk_drew ?_ | refine blk_alloc ?_ _)); exact BK394.out) hb); have n6_ := Aside0.mk (below_step (by repeat (first | (with_reducible first | exact HB.out | apply below_alloc | apply pw_below_drewN | apply below_drew1 | refine below_set ?_ GE383.out | refine below_set ?_ GE394.out) | exact HB.out)) hb); clear HO377; clear HO382; clear HO386; clear HO392; clear BK383; clear BK394; clear HB; have HO377 := n0_; have HO382 := n1_; have HO386 := n2_; have HO392 := n3_; have BK383 := n4_; have BK394 := n5_; have HB := n6_; clear n0_ n1_ n2_ n3_ n4_ n5_ n6_; (try clear hb); (try clear hb2); (try clear hk); (try clear hi); obtain ⟨Ao37, co37, eo37⟩ := Kd.R_slice HO386.out; subst eo37; have hcz38_0 : w36.cell? ⟨gb383, 0, none⟩ = some (.int .i64 t378) := (blk_cell BK383.out 0).trans rfl; have hcz38_1 : w36.cell? ⟨gb383, 1, none⟩ = some (.int .i64 t379) := (blk_cell BK383.out 1).trans rfl; have hcz38_2 : w36.cell? ⟨gb383, 2, none⟩ = some (.slice Ao11 t380.length co11) := (blk_cell BK383.out 2).trans rfl; have hfz38_0 := blk_frozen BK383.out 0; have hfz38_1 := blk_frozen BK383.out 1; have hfz38_2 := blk_frozen BK383.out 2))
                go_meet
                case rel => exact ⟨_, (false), (by first | rfl | (simp; done) | (simp [*]; done)), H', ⟨by first | omega | exact Nat.le_refl _⟩, ⟨by (with_reducible repeat (first | apply Kd.R_alloc | apply Kd.R_drewN | apply Kd.R_drew)); exact Kd.R_mono HO377.out (fun _ hk => ⟨hk.1.2, ⟨hk.1.1, hk.2⟩⟩)⟩, ⟨by (with_reducible repeat (first | apply Kd.R_alloc | apply Kd.R_drewN | apply Kd.R_drew)); exact Kd.R_mono HO386.out (fun _ hk => ⟨hk.1.1.2, ⟨hk.1.2, hk.2⟩⟩)⟩, ⟨by (with_reducible repeat (first | apply Kd.R_alloc | apply Kd.R_drewN | apply Kd.R_drew)); exact Kd.R_mono HO382.out (fun _ hk => ⟨hk.1.1, ⟨hk.1.2, hk.2⟩⟩)⟩, ⟨by (with_reducible repeat (first | apply Kd.R_alloc | apply Kd.R_drewN | apply Kd.R_drew)); exact Kd.R_mono HO392.out (fun _ hk => ⟨hk.1.1.2, ⟨hk.2, hk.1.2⟩⟩)⟩, ⟨by (with_reducible repeat (first | refine blk_drewN ?_ _ | refine blk_drew ?_ | refine blk_alloc ?_ _)); exact BK383.out⟩, ⟨by (with_reducible repeat (first | refine blk_drewN ?_ _ | refine blk_drew ?_ | refine blk_alloc ?_ _)); exact BK394.out⟩, ⟨by repeat (first | (with_reducible first | exact HB.out | apply below_alloc | apply pw_below_drewN | apply below_drew1 | refine below_set ?_ GE383.out | refine below_set ?_ GE394.out) | exact HB.out)⟩⟩
            · rw [if_neg c27] at H
              have c27b0 : ((t384.length : Int) == (wrap64 ((wrap64 ((t375.length : Int) - t379)) + (t380.length : Int)))) = false := beq_eq_false_iff_ne.mpr c27
              have c27b1 : ((t384.length : Int) != (wrap64 ((wrap64 ((t375.length : Int) - t379)) + (t380.length : Int)))) = true := bne_iff_ne.mpr c27
              exact absurd (H.trans (congrArg some hr_)) (fun h_ => laws_FnAmendments.j0_no _ _ _ _ _ _ _ _ h_)
          · replace c26 := Bool.eq_false_iff.mpr c26
            subst c26
            have H1 : ((laws_sameInts.f k t384 t375).bind fun t396 => (laws_FnAmendments.j0 k l0 t375 t384 false (!t396) t388 t389 t390)) = some r := by rw [if_neg (show ¬ (false = true) by decide)] at H; exact H
            clear H
            have H := H1
            clear H1
            replace H := Option.bind_eq_some_iff.mp H
            obtain ⟨t396, A440, H⟩ := H
            replace H : (laws_FnAmendments.j0 k l0 t375 t384 false (!t396) t388 t389 t390) = some r := H
            have A44 := Aside0.mk A440
            clear A440
            have H' := Aside0.mk H
            clear H
            have hnb45 := NB383_394.out
            have hnc45 := NB394_383.out
            have hcz46_0 : w16.cell? ⟨gb383, 0, none⟩ = some (.int .i64 t378) := (blk_cell BK383.out 0).trans rfl
            have hcz46_1 : w16.cell? ⟨gb383, 1, none⟩ = some (.int .i64 t379) := (blk_cell BK383.out 1).trans rfl
            have hcz46_2 : w16.cell? ⟨gb383, 2, none⟩ = some (.slice Ao11 t380.length co11) := (blk_cell BK383.out 2).trans rfl
            have hfz46_0 := blk_frozen BK383.out 0
            have hfz46_1 := blk_frozen BK383.out 1
            have hfz46_2 := blk_frozen BK383.out 2
            go_wp2_with (first | (go_at_call 18; (with_reducible refine (impl_MayAmend.calls _ _ t375 t378 t379 _ _ t380 t395 _ ?side1 ?side2 ?side3 ?side4 A21.out).mono ?_); (case side1 => refine (Kd.R_reads' (e := 3) (base := w.heap.size) (ok := fun k_ => ((some k_ ≠ (.slice Ao11 t380.length co11 : Value).ownBlock ∧ some k_ ≠ (v385 : Value).ownBlock) ∧ some k_ ≠ (.slice Ao19 t390.length co19 : Value).ownBlock)) (n := t375.length) (c := co12) ?_).2.2; exact (by (with_reducible repeat (first | apply Kd.R_alloc | apply Kd.R_drewN | apply Kd.R_drew)); exact (Kd.R_mono (Kd.R_far (p := ⟨gb394, 2, none⟩) (Kd.R_far (p := ⟨gb394, 1, none⟩) (Kd.R_far (p := ⟨gb394, 0, none⟩) (Kd.R_types HO377.out BK394.out (by decide)) (fun _ hk => hk.2) (.int .i64 t388)) (fun _ hk => hk.2) (.int .i64 t389)) (fun _ hk => hk.2) (.slice Ao19 t390.length co19)) (fun _ h_ => h_.1)))); (case side2 => exact (Kd.R_reads' HO377.out).2.1); (case side3 => refine (Kd.R_reads' (e := 3) (base := w.heap.size) (ok := fun k_ => ((some k_ ≠ (.slice Ao12 t375.length co12 : Value).ownBlock ∧ some k_ ≠ (v385 : Value).ownBlock) ∧ some k_ ≠ (.slice Ao19 t390.length co19 : Value).ownBlock)) (n := t380.length) (c := co11) ?_).2.2; exact (by (with_reducible repeat (first | apply Kd.R_alloc | apply Kd.R_drewN | apply Kd.R_drew)); exact (Kd.R_mono (Kd.R_far (p := ⟨gb394, 2, none⟩) (Kd.R_far (p := ⟨gb394, 1, none⟩) (Kd.R_far (p := ⟨gb394, 0, none⟩) (Kd.R_types HO382.out BK394.out (by decide)) (fun _ hk => hk.2) (.int .i64 t388)) (fun _ hk => hk.2) (.int .i64 t389)) (fun _ hk => hk.2) (.slice Ao19 t390.length co19)) (fun _ h_ => h_.1)))); (case side4 => exact (Kd.R_reads' HO382.out).2.1); rintro e w47 ⟨rfl, hb⟩; have n0_ := Aside0.mk (Kd.R_below (by (with_reducible repeat (first | apply Kd.R_alloc | apply Kd.R_drewN | apply Kd.R_drew)); exact (Kd.R_mono (Kd.R_far (p := ⟨gb394, 2, none⟩) (Kd.R_far (p := ⟨gb394, 1, none⟩) (Kd.R_far (p := ⟨gb394, 0, none⟩) (Kd.R_types HO377.out BK394.out (by decide)) (fun _ hk => hk.2) (.int .i64 t388)) (fun _ hk => hk.2) (.int .i64 t389)) (fun _ hk => hk.2) (.slice Ao19 t390.length co19)) (fun _ h_ => h_.1))) hb); have n1_ := Aside0.mk (Kd.R_below (by (with_reducible repeat (first | apply Kd.R_alloc | apply Kd.R_drewN | apply Kd.R_drew)); exact (Kd.R_mono (Kd.R_far (p := ⟨gb394, 2, none⟩) (Kd.R_far (p := ⟨gb394, 1, none⟩) (Kd.R_far (p := ⟨gb394, 0, none⟩) (Kd.R_types HO382.out BK394.out (by decide)) (fun _ hk => hk.2) (.int .i64 t388)) (fun _ hk => hk.2) (.int .i64 t389)) (fun _ hk => hk.2) (.slice Ao19 t390.length co19)) (fun _ h_ => h_.1))) hb); have n2_ := Aside0.mk (Kd.R_below (by (with_reducible repeat (first | apply Kd.R_alloc | apply Kd.R_drewN | apply Kd.R_drew)); exact (Kd.R_mono (Kd.R_far (p := ⟨gb394, 2, none⟩) (Kd.R_far (p := ⟨gb394, 1, none⟩) (Kd.R_far (p := ⟨gb394, 0, none⟩) (Kd.R_types HO386.out BK394.out (by decide)) (fun _ hk => hk.2) (.int .i64 t388)) (fun _ hk => hk.2) (.int .i64 t389)) (fun _ hk => hk.2) (.slice Ao19 t390.length co19)) (fun _ h_ => h_.1))) hb); have n3_ := Aside0.mk (Kd.R_below (by (with_reducible repeat (first | apply Kd.R_alloc | apply Kd.R_drewN | apply Kd.R_drew)); exact (Kd.R_mono (Kd.R_far (p := ⟨gb394, 2, none⟩) (Kd.R_far (p := ⟨gb394, 1, none⟩) (Kd.R_far (p := ⟨gb394, 0, none⟩) (Kd.R_types HO392.out BK394.out (by decide)) (fun _ hk => hk.2) (.int .i64 t388)) (fun _ hk => hk.2) (.int .i64 t389)) (fun _ hk => hk.2) (.slice Ao19 t390.length co19)) (fun _ h_ => h_.1))) hb); have n4_ := Aside0.mk (blk_below (g := gb383) (o := .cells #[.int .i64 t378, .int .i64 t379, .slice Ao11 t380.length co11] 28 (0, 0)) (by (with_reducible repeat (first | refine blk_drewN ?_ _ | refine blk_drew ?_ | refine blk_alloc ?_ _)); refine blk_far ?_ NB383_394.out _; (with_reducible repeat (first | refine blk_drewN ?_ _ | refine blk_drew ?_ | refine blk_alloc ?_ _)); refine blk_far ?_ NB383_394.out _; (with_reducible repeat (first | refine blk_drewN ?_ _ | refine blk_drew ?_ | refine blk_alloc ?_ _)); refine blk_far ?_ NB383_394.out _; (with_reducible repeat (first | refine blk_drewN ?_ _ | refine blk_drew ?_ | refine blk_alloc ?_ _)); exact BK383.out) hb); have n5_ := Aside0.mk (blk_below (g := gb394) (o := .cells #[.int .i64 t388, .int .i64 t389, .slice Ao19 t390.length co19] 28 (0, 0)) (by (with_reducible repeat (first | refine blk_drewN ?_ _ | refine blk_drew ?_ | refine blk_alloc ?_ _)); refine blk_put (cs := #[.int .i64 t388, .int .i64 t389, .slice none 0 0]) ?_ 2 _ rfl; (with_reducible repeat (first | refine blk_drewN ?_ _ | refine blk_drew ?_ | refine blk_alloc ?_ _)); refine blk_put (cs := #[.int .i64 t388, .int .i64 0, .slice none 0 0]) ?_ 1 _ rfl; (with_reducible repeat (first | refine blk_drewN ?_ _ | refine blk_drew ?_ | refine blk_alloc ?_ _)); refine blk_put (cs := #[.int .i64 0, .int .i64 0, .slice none 0 0]) ?_ 0 _ rfl; (with_reducible repeat (first | refine blk_drewN ?_ _ | refine blk_drew ?_ | refine blk_alloc ?_ _)); exact BK394.out) hb); have n6_ := Aside0.mk (below_step (by repeat (first | (with_reducible first | exact HB.out | apply below_alloc | apply pw_below_drewN | apply below_drew1 | refine below_set ?_ GE383.out | refine below_set ?_ GE394.out) | exact HB.out)) hb); clear HO377; clear HO382; clear HO386; clear HO392; clear BK383; clear BK394; clear HB; have HO377 := n0_; have HO382 := n1_; have HO386 := n2_; have HO392 := n3_; have BK383 := n4_; have BK394 := n5_; have HB := n6_; clear n0_ n1_ n2_ n3_ n4_ n5_ n6_; (try clear hb); (try clear hb2); (try clear hk); (try clear hi); obtain ⟨Ao48, co48, eo48⟩ := Kd.R_slice HO386.out; subst eo48) | (go_at_call 41; (with_reducible refine (laws_sameInts.calls k _ _ t384 _ _ t375 t396 _ ?side1 ?side2 ?side3 ?side4 A44.out).mono ?_); (case side1 => repeat (first | exact (Kd.R_reads' HO386.out).2.2 | (with_reducible refine Kd.C_alloc ?_ _) | (with_reducible refine Kd.C_drewN ?_ _) | (with_reducible refine Kd.C_drew ?_))); (case side2 => exact (Kd.R_reads' HO386.out).2.1); (case side3 => repeat (first | exact (Kd.R_reads' HO377.out).2.2 | (with_reducible refine Kd.C_alloc ?_ _) | (with_reducible refine Kd.C_drewN ?_ _) | (with_reducible refine Kd.C_drew ?_))); (case side4 => exact (Kd.R_reads' HO377.out).2.1); rintro e w' ⟨rfl, ⟨nd, rfl⟩⟩))
            go_meet
            case rel => exact ⟨_, (!t396), (by first | rfl | (simp; done) | (simp [*]; done)), H', ⟨by first | omega | exact Nat.le_refl _⟩, ⟨by (with_reducible repeat (first | apply Kd.R_alloc | apply Kd.R_drewN | apply Kd.R_drew)); exact Kd.R_mono HO377.out (fun _ hk => ⟨hk.1.2, ⟨hk.1.1, hk.2⟩⟩)⟩, ⟨by (with_reducible repeat (first | apply Kd.R_alloc | apply Kd.R_drewN | apply Kd.R_drew)); exact Kd.R_mono HO386.out (fun _ hk => ⟨hk.1.1.2, ⟨hk.1.2, hk.2⟩⟩)⟩, ⟨by (with_reducible repeat (first | apply Kd.R_alloc | apply Kd.R_drewN | apply Kd.R_drew)); exact Kd.R_mono HO382.out (fun _ hk => ⟨hk.1.1, ⟨hk.1.2, hk.2⟩⟩)⟩, ⟨by (with_reducible repeat (first | apply Kd.R_alloc | apply Kd.R_drewN | apply Kd.R_drew)); exact Kd.R_mono HO392.out (fun _ hk => ⟨hk.1.1.2, ⟨hk.2, hk.1.2⟩⟩)⟩, ⟨by (with_reducible repeat (first | refine blk_drewN ?_ _ | refine blk_drew ?_ | refine blk_alloc ?_ _)); exact BK383.out⟩, ⟨by (with_reducible repeat (first | refine blk_drewN ?_ _ | refine blk_drew ?_ | refine blk_alloc ?_ _)); exact BK394.out⟩, ⟨by repeat (first | (with_reducible first | exact HB.out | apply below_alloc | apply pw_below_drewN | apply below_drew1 | refine below_set ?_ GE383.out | refine below_set ?_ GE394.out) | exact HB.out)⟩⟩
    case rest =>
      clear HC7
      try clear c1
      try clear c2
      try clear p2
      try clear c3
      try clear c4
      try clear p6
      try clear c9
      try clear c17
      try clear c20
      try clear c20b0
      try clear c20b1
      try clear c20b2
      try clear c22
      try clear c22b0
      try clear c22b1
      try clear c22b2
      try clear c23
      try clear c26
      try clear c27
      try clear c27b0
      try clear c27b1
      try clear c28
      try clear c28b0
      try clear c28b1
      try clear c29
      try clear c31
      try clear c34
      try clear c39
      try clear c40
      try clear c45
      try clear hcz10_0
      try clear hcz10_1
      try clear hcz10_2
      try clear hcz14_0
      try clear hcz14_1
      try clear hcz14_2
      try clear hcz18_0
      try clear hcz18_1
      try clear hcz18_2
      try clear hcz24_0
      try clear hcz24_1
      try clear hcz24_2
      try clear hcz30_0
      try clear hcz30_1
      try clear hcz30_2
      try clear hcz33_0
      try clear hcz33_1
      try clear hcz33_2
      try clear hcz35_0
      try clear hcz35_1
      try clear hcz35_2
      try clear hcz38_0
      try clear hcz38_1
      try clear hcz38_2
      try clear hcz40_0
      try clear hcz40_1
      try clear hcz40_2
      try clear hcz43_0
      try clear hcz43_1
      try clear hcz43_2
      try clear hcz46_0
      try clear hcz46_1
      try clear hcz46_2
      try clear hfz10_0
      try clear hfz10_1
      try clear hfz10_2
      try clear hfz14_0
      try clear hfz14_1
      try clear hfz14_2
      try clear hfz18_0
      try clear hfz18_1
      try clear hfz18_2
      try clear hfz24_0
      try clear hfz24_1
      try clear hfz24_2
      try clear hfz30_0
      try clear hfz30_1
      try clear hfz30_2
      try clear hfz33_0
      try clear hfz33_1
      try clear hfz33_2
      try clear hfz35_0
      try clear hfz35_1
      try clear hfz35_2
      try clear hfz38_0
      try clear hfz38_1
      try clear hfz38_2
      try clear hfz40_0
      try clear hfz40_1
      try clear hfz40_2
      try clear hfz43_0
      try clear hfz43_1
      try clear hfz43_2
      try clear hfz46_0
      try clear hfz46_1
      try clear hfz46_2
      obtain ⟨kq, x82_6, rfl, HA, HJ6, HO_3, HO_5, HO_384002, HO_395002, BK383, BK394, HB⟩ := hcut
      cases kq with
      | zero => exact absurd HA.out (by simp [laws_FnAmendments.j0])
      | succ kj6 =>
        have H := HA.out
        clear HA
        simp only [laws_FnAmendments.j0] at H
        by_cases c49 : x82_6 = true
        · subst c49
          have H1 : (some false) = some r := by rw [if_pos rfl] at H; exact H
          clear H
          have H := H1
          clear H1
          exact absurd ((Option.some.inj H).trans hr_) (by decide)
        · replace c49 := Bool.eq_false_iff.mpr c49
          subst c49
          have H1 : (if t387 = true then (laws_FnAmendments.j1 kj6 l0 t375 t384 (decide ((t375.length : Int) ≤ 60)) t388 t389 t390) else (laws_FnAmendments.j1 kj6 l0 t375 t384 false t388 t389 t390)) = some r := by rw [if_neg (show ¬ (false = true) by decide)] at H; exact H
          clear H
          have H := H1
          clear H1
          have HC50 := Aside0.mk H
          clear H
          go_upto_region 8 with (fail)
          go_cut [88] (fun v88 wc => ∃ (kq : Nat) (x88_49 : Bool), v88 = .bool x88_49 ∧ Aside0 (laws_FnAmendments.j1 kq l0 t375 t384 x88_49 t388 t389 t390 = some r) ∧ Aside0 (kq ≤ kj6) ∧ Aside0 (Kd.R (Kd.int .i64) 3 wc w.heap.size (fun k_ => some k_ ≠ (v385 : Value).ownBlock ∧ some k_ ≠ ((.slice Ao11 t380.length co11) : Value).ownBlock ∧ some k_ ≠ ((.slice Ao19 t390.length co19) : Value).ownBlock) (.slice Ao12 t375.length co12) t375) ∧ Aside0 (Kd.R (Kd.int .i64) 3 wc w.heap.size (fun k_ => some k_ ≠ ((.slice Ao12 t375.length co12) : Value).ownBlock ∧ some k_ ≠ ((.slice Ao11 t380.length co11) : Value).ownBlock ∧ some k_ ≠ ((.slice Ao19 t390.length co19) : Value).ownBlock) v385 t384) ∧ Aside0 (Kd.R (Kd.int .i64) 3 wc w.heap.size (fun k_ => some k_ ≠ ((.slice Ao12 t375.length co12) : Value).ownBlock ∧ some k_ ≠ (v385 : Value).ownBlock ∧ some k_ ≠ ((.slice Ao19 t390.length co19) : Value).ownBlock) (.slice Ao11 t380.length co11) t380) ∧ Aside0 (Kd.R (Kd.int .i64) 3 wc w.heap.size (fun k_ => some k_ ≠ ((.slice Ao12 t375.length co12) : Value).ownBlock ∧ some k_ ≠ (v385 : Value).ownBlock ∧ some k_ ≠ ((.slice Ao11 t380.length co11) : Value).ownBlock) (.slice Ao19 t390.length co19) t390) ∧ Aside0 (wc.heap[gb383]? = some (.cells #[.int .i64 t378, .int .i64 t379, (.slice Ao11 t380.length co11)] 28 (0, 0))) ∧ Aside0 (wc.heap[gb394]? = some (.cells #[.int .i64 t388, .int .i64 t389, (.slice Ao19 t390.length co19)] 28 (0, 0))) ∧ Aside0 (Below w.heap.size w wc))
          case first =>
            have H := HC50.out
            clear HC50
            by_cases c51 : t387 = true
            · subst c51
              have H1 : (laws_FnAmendments.j1 kj6 l0 t375 t384 (decide ((t375.length : Int) ≤ 60)) t388 t389 t390) = some r := by rw [if_pos rfl] at H; exact H
              clear H
              have H := H1
              clear H1
              have H' := Aside0.mk H
              clear H
              go_wp2
              go_meet
              case rel => exact ⟨_, (decide ((t375.length : Int) ≤ 60)), (by first | rfl | (simp; done) | (simp [*]; done)), H', ⟨by have := HJ6.out; first | omega | exact Nat.le_refl _⟩, ⟨by (with_reducible repeat (first | apply Kd.R_alloc | apply Kd.R_drewN | apply Kd.R_drew)); exact HO_3.out⟩, ⟨by (with_reducible repeat (first | apply Kd.R_alloc | apply Kd.R_drewN | apply Kd.R_drew)); exact HO_5.out⟩, ⟨by (with_reducible repeat (first | apply Kd.R_alloc | apply Kd.R_drewN | apply Kd.R_drew)); exact HO_384002.out⟩, ⟨by (with_reducible repeat (first | apply Kd.R_alloc | apply Kd.R_drewN | apply Kd.R_drew)); exact HO_395002.out⟩, ⟨by (with_reducible repeat (first | refine blk_drewN ?_ _ | refine blk_drew ?_ | refine blk_alloc ?_ _)); exact BK383.out⟩, ⟨by (with_reducible repeat (first | refine blk_drewN ?_ _ | refine blk_drew ?_ | refine blk_alloc ?_ _)); exact BK394.out⟩, ⟨by repeat (first | (with_reducible first | exact HB.out | apply below_alloc | apply pw_below_drewN | apply below_drew1 | refine below_set ?_ GE383.out | refine below_set ?_ GE394.out) | exact HB.out)⟩⟩
            · replace c51 := Bool.eq_false_iff.mpr c51
              subst c51
              have H1 : (laws_FnAmendments.j1 kj6 l0 t375 t384 false t388 t389 t390) = some r := by rw [if_neg (show ¬ (false = true) by decide)] at H; exact H
              clear H
              have H := H1
              clear H1
              have H' := Aside0.mk H
              clear H
              go_wp2
              go_meet
              case rel => exact ⟨_, (false), (by first | rfl | (simp; done) | (simp [*]; done)), H', ⟨by have := HJ6.out; first | omega | exact Nat.le_refl _⟩, ⟨by (with_reducible repeat (first | apply Kd.R_alloc | apply Kd.R_drewN | apply Kd.R_drew)); exact HO_3.out⟩, ⟨by (with_reducible repeat (first | apply Kd.R_alloc | apply Kd.R_drewN | apply Kd.R_drew)); exact HO_5.out⟩, ⟨by (with_reducible repeat (first | apply Kd.R_alloc | apply Kd.R_drewN | apply Kd.R_drew)); exact HO_384002.out⟩, ⟨by (with_reducible repeat (first | apply Kd.R_alloc | apply Kd.R_drewN | apply Kd.R_drew)); exact HO_395002.out⟩, ⟨by (with_reducible repeat (first | refine blk_drewN ?_ _ | refine blk_drew ?_ | refine blk_alloc ?_ _)); exact BK383.out⟩, ⟨by (with_reducible repeat (first | refine blk_drewN ?_ _ | refine blk_drew ?_ | refine blk_alloc ?_ _)); exact BK394.out⟩, ⟨by repeat (first | (with_reducible first | exact HB.out | apply below_alloc | apply pw_below_drewN | apply below_drew1 | refine below_set ?_ GE383.out | refine below_set ?_ GE394.out) | exact HB.out)⟩⟩
          case rest =>
            clear HC50
            try clear c1
            try clear c2
            try clear p2
            try clear c3
            try clear c4
            try clear c5
            try clear p6
            try clear c9
            try clear c17
            try clear c20
            try clear c20b0
            try clear c20b1
            try clear c20b2
            try clear c22
            try clear c22b0
            try clear c22b1
            try clear c22b2
            try clear c23
            try clear c26
            try clear c27
            try clear c27b0
            try clear c27b1
            try clear c28
            try clear c28b0
            try clear c28b1
            try clear c29
            try clear c31
            try clear c34
            try clear c39
            try clear c40
            try clear c45
            try clear c49
            try clear c51
            try clear hcz10_0
            try clear hcz10_1
            try clear hcz10_2
            try clear hcz14_0
            try clear hcz14_1
            try clear hcz14_2
            try clear hcz18_0
            try clear hcz18_1
            try clear hcz18_2
            try clear hcz24_0
            try clear hcz24_1
            try clear hcz24_2
            try clear hcz30_0
            try clear hcz30_1
            try clear hcz30_2
            try clear hcz33_0
            try clear hcz33_1
            try clear hcz33_2
            try clear hcz35_0
            try clear hcz35_1
            try clear hcz35_2
            try clear hcz38_0
            try clear hcz38_1
            try clear hcz38_2
            try clear hcz40_0
            try clear hcz40_1
            try clear hcz40_2
            try clear hcz43_0
            try clear hcz43_1
            try clear hcz43_2
            try clear hcz46_0
            try clear hcz46_1
            try clear hcz46_2
            try clear hfz10_0
            try clear hfz10_1
            try clear hfz10_2
            try clear hfz14_0
            try clear hfz14_1
            try clear hfz14_2
            try clear hfz18_0
            try clear hfz18_1
            try clear hfz18_2
            try clear hfz24_0
            try clear hfz24_1
            try clear hfz24_2
            try clear hfz30_0
            try clear hfz30_1
            try clear hfz30_2
            try clear hfz33_0
            try clear hfz33_1
            try clear hfz33_2
            try clear hfz35_0
            try clear hfz35_1
            try clear hfz35_2
            try clear hfz38_0
            try clear hfz38_1
            try clear hfz38_2
            try clear hfz40_0
            try clear hfz40_1
            try clear hfz40_2
            try clear hfz43_0
            try clear hfz43_1
            try clear hfz43_2
            try clear hfz46_0
            try clear hfz46_1
            try clear hfz46_2
            try clear p2
            try clear p6
            obtain ⟨kq, x88_49, rfl, HA, HJ49, HO_3, HO_5, HO_384002, HO_395002, BK383, BK394, HB⟩ := hcut
            cases kq with
            | zero => exact absurd HA.out (by simp [laws_FnAmendments.j1])
            | succ kj49 =>
              have H := HA.out
              clear HA
              simp only [laws_FnAmendments.j1] at H
              have HC52 := Aside0.mk H
              clear H
              go_upto_if 88 with (fail)
              go_cut [] (fun wc => ∃ (kq : Nat), Aside0 (laws_FnAmendments.j2 kq l0 = some r) ∧ Aside0 (kq ≤ kj49) ∧ Aside0 (Kd.R (Kd.int .i64) 3 wc w.heap.size (fun k_ => some k_ ≠ ((.slice Ao19 t390.length co19) : Value).ownBlock) (.slice Ao11 t380.length co11) t380) ∧ Aside0 (Kd.R (Kd.int .i64) 3 wc w.heap.size (fun k_ => some k_ ≠ ((.slice Ao11 t380.length co11) : Value).ownBlock) (.slice Ao19 t390.length co19) t390) ∧ Aside0 (wc.heap[gb383]? = some (.cells #[.int .i64 t378, .int .i64 t379, (.slice Ao11 t380.length co11)] 28 (0, 0))) ∧ Aside0 (wc.heap[gb394]? = some (.cells #[.int .i64 t388, .int .i64 t389, (.slice Ao19 t390.length co19)] 28 (0, 0))) ∧ Aside0 (Below w.heap.size w wc))
              case first =>
                have H := HC52.out
                clear HC52
                by_cases c53 : x88_49 = true
                · subst c53
                  have H1 : ((impl_Amended.f t384 t388 t389 t390).bind fun bt397 => (if bt397.2 = true then ((laws_sameInts.f kj49 bt397.1 t375).bind fun t401 => (if t401 = true then (laws_FnAmendments.j2 kj49 l0) else (some false))) else (some false))) = some r := by rw [if_pos rfl] at H; exact H
                  clear H
                  have H := H1
                  clear H1
                  replace H := Option.bind_eq_some_iff.mp H
                  obtain ⟨⟨t397, t400⟩, A540, H⟩ := H
                  replace H : (if t400 = true then ((laws_sameInts.f kj49 t397 t375).bind fun t401 => (if t401 = true then (laws_FnAmendments.j2 kj49 l0) else (some false))) else (some false)) = some r := H
                  have A54 := Aside0.mk A540
                  clear A540
                  by_cases c55 : t400 = true
                  · subst c55
                    have H1 : ((laws_sameInts.f kj49 t397 t375).bind fun t401 => (if t401 = true then (laws_FnAmendments.j2 kj49 l0) else (some false))) = some r := by rw [if_pos rfl] at H; exact H
                    clear H
                    have H := H1
                    clear H1
                    replace H := Option.bind_eq_some_iff.mp H
                    obtain ⟨t401, A560, H⟩ := H
                    replace H : (if t401 = true then (laws_FnAmendments.j2 kj49 l0) else (some false)) = some r := H
                    have A56 := Aside0.mk A560
                    clear A560
                    by_cases c57 : t401 = true
                    · subst c57
                      have H1 : (laws_FnAmendments.j2 kj49 l0) = some r := by rw [if_pos rfl] at H; exact H
                      clear H
                      have H := H1
                      clear H1
                      have H' := Aside0.mk H
                      clear H
                      have hnb58 := NB394_383.out
                      have hnc58 := NB383_394.out
                      have hcz59_0 : wc.cell? ⟨gb394, 0, none⟩ = some (.int .i64 t388) := (blk_cell BK394.out 0).trans rfl
                      have hcz59_1 : wc.cell? ⟨gb394, 1, none⟩ = some (.int .i64 t389) := (blk_cell BK394.out 1).trans rfl
                      have hcz59_2 : wc.cell? ⟨gb394, 2, none⟩ = some (.slice Ao19 t390.length co19) := (blk_cell BK394.out 2).trans rfl
                      have hfz59_0 := blk_frozen BK394.out 0
                      have hfz59_1 := blk_frozen BK394.out 1
                      have hfz59_2 := blk_frozen BK394.out 2
                      obtain ⟨Ao60, co60, eo60⟩ := Kd.R_slice HO_5.out
                      subst eo60
                      go_wp2_with (first | ((with_reducible refine gate_callee (f := 31) rfl ?_); refine goesL_ (some 92) rfl rfl Try.func31 (by kernel_rfl) rfl #[.slice Ao60 t384.length co60, .agg #[.int .i64 t388, .int .i64 t389, .slice Ao19 t390.length co19]] rfl (by (try simp only [List.map_toArray, List.map_cons, List.map_nil]); first | done | rfl | (simp only [List.length_drop, List.length_take]; rfl)) ?_; (with_reducible refine (impl_Amended.calls _ _ t384 t388 t389 _ _ t390 t397 true _ ?side1 ?side2 ?side3 ?side4 A54.out).mono ?_); (case side1 => repeat (first | exact (Kd.R_reads' HO_5.out).2.2 | (with_reducible refine Kd.C_alloc ?_ _) | (with_reducible refine Kd.C_drewN ?_ _) | (with_reducible refine Kd.C_drew ?_))); (case side2 => exact (Kd.R_reads' HO_5.out).2.1); (case side3 => repeat (first | exact (Kd.R_reads' HO_395002.out).2.2 | (with_reducible refine Kd.C_alloc ?_ _) | (with_reducible refine Kd.C_drewN ?_ _) | (with_reducible refine Kd.C_drew ?_))); (case side4 => exact (Kd.R_reads' HO_395002.out).2.1); rintro e w61 ⟨v398, rfl, ho0, hb⟩; refine ⟨_, rfl, ?_⟩; have n0_ := Aside0.mk (Kd.R_elder' (by (with_reducible repeat (first | apply Kd.R_alloc | apply Kd.R_drewN | apply Kd.R_drew)); exact HO_3.out) (Kd.R_base ho0) hb); have n1_ := Aside0.mk (Kd.R_elder' (by (with_reducible repeat (first | apply Kd.R_alloc | apply Kd.R_drewN | apply Kd.R_drew)); exact HO_5.out) (Kd.R_base ho0) hb); have n2_ := Aside0.mk (Kd.R_elder' (by (with_reducible repeat (first | apply Kd.R_alloc | apply Kd.R_drewN | apply Kd.R_drew)); exact HO_384002.out) (Kd.R_base ho0) hb); have n3_ := Aside0.mk (Kd.R_elder' (by (with_reducible repeat (first | apply Kd.R_alloc | apply Kd.R_drewN | apply Kd.R_drew)); exact HO_395002.out) (Kd.R_base ho0) hb); have n4_ := Aside0.mk (Kd.R_lower (Kd.R_new' (Kd.R_new' (Kd.R_new' (Kd.R_new' ho0 (Kd.R_lt (by (with_reducible repeat (first | apply Kd.R_alloc | apply Kd.R_drewN | apply Kd.R_drew)); exact HO_3.out))) (Kd.R_lt (by (with_reducible repeat (first | apply Kd.R_alloc | apply Kd.R_drewN | apply Kd.R_drew)); exact HO_5.out))) (Kd.R_lt (by (with_reducible repeat (first | apply Kd.R_alloc | apply Kd.R_drewN | apply Kd.R_drew)); exact HO_384002.out))) (Kd.R_lt (by (with_reducible repeat (first | apply Kd.R_alloc | apply Kd.R_drewN | apply Kd.R_drew)); exact HO_395002.out))) (below_size (by repeat (first | (with_reducible first | exact HB.out | apply below_alloc | apply pw_below_drewN | apply below_drew1 | refine below_set ?_ GE383.out | refine below_set ?_ GE394.out) | exact HB.out)))); have n5_ := Aside0.mk (blk_below (g := gb383) (o := .cells #[.int .i64 t378, .int .i64 t379, .slice Ao11 t380.length co11] 28 (0, 0)) (by (with_reducible repeat (first | refine blk_drewN ?_ _ | refine blk_drew ?_ | refine blk_alloc ?_ _)); exact BK383.out) hb); have n6_ := Aside0.mk (blk_below (g := gb394) (o := .cells #[.int .i64 t388, .int .i64 t389, .slice Ao19 t390.length co19] 28 (0, 0)) (by (with_reducible repeat (first | refine blk_drewN ?_ _ | refine blk_drew ?_ | refine blk_alloc ?_ _)); exact BK394.out) hb); have n7_ := Aside0.mk (below_step (by repeat (first | (with_reducible first | exact HB.out | apply below_alloc | apply pw_below_drewN | apply below_drew1 | refine below_set ?_ GE383.out | refine below_set ?_ GE394.out) | exact HB.out)) hb); clear HO_3; clear HO_5; clear HO_384002; clear HO_395002; clear BK383; clear BK394; clear HB; have HO_3 := n0_; have HO_5 := n1_; have HO_384002 := n2_; have HO_395002 := n3_; have HO399 := n4_; have BK383 := n5_; have BK394 := n6_; have HB := n7_; clear n0_ n1_ n2_ n3_ n4_ n5_ n6_ n7_; (try clear hb); (try clear hb2); (try clear hk); (try clear hi); (try clear ho0); obtain ⟨Ao62, co62, eo62⟩ := Kd.R_slice HO399.out; subst eo62) | (go_at_call 41; (with_reducible refine (laws_sameInts.calls kj49 _ _ t397 _ _ t375 true _ ?side1 ?side2 ?side3 ?side4 A56.out).mono ?_); (case side1 => repeat (first | exact (Kd.R_reads' HO399.out).2.2 | (with_reducible refine Kd.C_alloc ?_ _) | (with_reducible refine Kd.C_drewN ?_ _) | (with_reducible refine Kd.C_drew ?_))); (case side2 => exact (Kd.R_reads' HO399.out).2.1); (case side3 => repeat (first | exact (Kd.R_reads' HO_3.out).2.2 | (with_reducible refine Kd.C_alloc ?_ _) | (with_reducible refine Kd.C_drewN ?_ _) | (with_reducible refine Kd.C_drew ?_))); (case side4 => exact (Kd.R_reads' HO_3.out).2.1); rintro e w' ⟨rfl, ⟨nd, rfl⟩⟩))
                      go_meet
                      case rel => exact ⟨_, H', ⟨by have := HJ6.out; have := HJ49.out; first | omega | exact Nat.le_refl _⟩, ⟨by (with_reducible repeat (first | apply Kd.R_alloc | apply Kd.R_drewN | apply Kd.R_drew)); exact Kd.R_mono HO_384002.out (fun _ hk => hk.1.2.2)⟩, ⟨by (with_reducible repeat (first | apply Kd.R_alloc | apply Kd.R_drewN | apply Kd.R_drew)); exact Kd.R_mono HO_395002.out (fun _ hk => hk.1.2.2)⟩, ⟨by (with_reducible repeat (first | refine blk_drewN ?_ _ | refine blk_drew ?_ | refine blk_alloc ?_ _)); exact BK383.out⟩, ⟨by (with_reducible repeat (first | refine blk_drewN ?_ _ | refine blk_drew ?_ | refine blk_alloc ?_ _)); exact BK394.out⟩, ⟨by repeat (first | (with_reducible first | exact HB.out | apply below_alloc | apply pw_below_drewN | apply below_drew1 | refine below_set ?_ GE383.out | refine below_set ?_ GE394.out) | exact HB.out)⟩⟩
                    · replace c57 := Bool.eq_false_iff.mpr c57
                      subst c57
                      have H1 : (some false) = some r := by rw [if_neg (show ¬ (false = true) by decide)] at H; exact H
                      clear H
                      have H := H1
                      clear H1
                      exact absurd ((Option.some.inj H).trans hr_) (by decide)
                  · replace c55 := Bool.eq_false_iff.mpr c55
                    subst c55
                    have H1 : (some false) = some r := by rw [if_neg (show ¬ (false = true) by decide)] at H; exact H
                    clear H
                    have H := H1
                    clear H1
                    exact absurd ((Option.some.inj H).trans hr_) (by decide)
                · replace c53 := Bool.eq_false_iff.mpr c53
                  subst c53
                  have H1 : (laws_FnAmendments.j2 kj49 l0) = some r := by rw [if_neg (show ¬ (false = true) by decide)] at H; exact H
                  clear H
                  have H := H1
                  clear H1
                  have H' := Aside0.mk H
                  clear H
                  go_wp2
                  go_meet
                  case rel => exact ⟨_, H', ⟨by have := HJ6.out; have := HJ49.out; first | omega | exact Nat.le_refl _⟩, ⟨by (with_reducible repeat (first | apply Kd.R_alloc | apply Kd.R_drewN | apply Kd.R_drew)); exact Kd.R_mono HO_384002.out (fun _ hk => hk.2.2)⟩, ⟨by (with_reducible repeat (first | apply Kd.R_alloc | apply Kd.R_drewN | apply Kd.R_drew)); exact Kd.R_mono HO_395002.out (fun _ hk => hk.2.2)⟩, ⟨by (with_reducible repeat (first | refine blk_drewN ?_ _ | refine blk_drew ?_ | refine blk_alloc ?_ _)); exact BK383.out⟩, ⟨by (with_reducible repeat (first | refine blk_drewN ?_ _ | refine blk_drew ?_ | refine blk_alloc ?_ _)); exact BK394.out⟩, ⟨by repeat (first | (with_reducible first | exact HB.out | apply below_alloc | apply pw_below_drewN | apply below_drew1 | refine below_set ?_ GE383.out | refine below_set ?_ GE394.out) | exact HB.out)⟩⟩
              case rest =>
                clear HC52
                try clear c1
                try clear c2
                try clear p2
                try clear c3
                try clear c4
                try clear c5
                try clear c6
                try clear p6
                try clear c9
                try clear c17
                try clear c20
                try clear c20b0
                try clear c20b1
                try clear c20b2
                try clear c22
                try clear c22b0
                try clear c22b1
                try clear c22b2
                try clear c23
                try clear c26
                try clear c27
                try clear c27b0
                try clear c27b1
                try clear c28
                try clear c28b0
                try clear c28b1
                try clear c29
                try clear c31
                try clear c34
                try clear c39
                try clear c40
                try clear c45
                try clear c49
                try clear c51
                try clear c53
                try clear c55
                try clear c57
                try clear c58
                try clear c63
                try clear p64
                try clear c68
                try clear hcz10_0
                try clear hcz10_1
                try clear hcz10_2
                try clear hcz14_0
                try clear hcz14_1
                try clear hcz14_2
                try clear hcz18_0
                try clear hcz18_1
                try clear hcz18_2
                try clear hcz24_0
                try clear hcz24_1
                try clear hcz24_2
                try clear hcz30_0
                try clear hcz30_1
                try clear hcz30_2
                try clear hcz33_0
                try clear hcz33_1
                try clear hcz33_2
                try clear hcz35_0
                try clear hcz35_1
                try clear hcz35_2
                try clear hcz38_0
                try clear hcz38_1
                try clear hcz38_2
                try clear hcz40_0
                try clear hcz40_1
                try clear hcz40_2
                try clear hcz43_0
                try clear hcz43_1
                try clear hcz43_2
                try clear hcz46_0
                try clear hcz46_1
                try clear hcz46_2
                try clear hcz59_0
                try clear hcz59_1
                try clear hcz59_2
                try clear hcz64_0
                try clear hcz64_1
                try clear hcz64_2
                try clear hcz69_0
                try clear hcz69_1
                try clear hcz69_2
                try clear hfz10_0
                try clear hfz10_1
                try clear hfz10_2
                try clear hfz14_0
                try clear hfz14_1
                try clear hfz14_2
                try clear hfz18_0
                try clear hfz18_1
                try clear hfz18_2
                try clear hfz24_0
                try clear hfz24_1
                try clear hfz24_2
                try clear hfz30_0
                try clear hfz30_1
                try clear hfz30_2
                try clear hfz33_0
                try clear hfz33_1
                try clear hfz33_2
                try clear hfz35_0
                try clear hfz35_1
                try clear hfz35_2
                try clear hfz38_0
                try clear hfz38_1
                try clear hfz38_2
                try clear hfz40_0
                try clear hfz40_1
                try clear hfz40_2
                try clear hfz43_0
                try clear hfz43_1
                try clear hfz43_2
                try clear hfz46_0
                try clear hfz46_1
                try clear hfz46_2
                try clear hfz59_0
                try clear hfz59_1
                try clear hfz59_2
                try clear hfz64_0
                try clear hfz64_1
                try clear hfz64_2
                try clear hfz69_0
                try clear hfz69_1
                try clear hfz69_2
                try clear p2
                try clear p6
                obtain ⟨kq, HA, HJ51, HO_384002, HO_395002, BK383, BK394, HB⟩ := hcut
                cases kq with
                | zero => exact absurd HA.out (by simp [laws_FnAmendments.j2])
                | succ kj51 =>
                  have H := HA.out
                  clear HA
                  simp only [laws_FnAmendments.j2] at H
                  replace H := Option.bind_eq_some_iff.mp H
                  obtain ⟨⟨t402, t403⟩, A720, H⟩ := H
                  replace H : ((impl_Difference.f kj51 t402 t403).bind fun bt408 => (if (t403.length : Int) ≤ 60 then ((impl_Amended.f t402 bt408.1 bt408.2.1 bt408.2.2).bind fun bt414 => (if bt414.2 = true then ((laws_sameInts.f kj51 bt414.1 t403).bind fun t418 => (if t418 = true then (if bt408.2.1 > (t402.length : Int) then (some false) else ((laws_sameInts.f kj51 t402 t403).bind fun t419 => (if t419 = true then (if bt408.2.1 = 0 then (if (bt408.2.2.length : Int) = 0 then (laws_FnAmendments.j3 kj51 l0) else (some false)) else (some false)) else (laws_FnAmendments.j3 kj51 l0)))) else (some false))) else (some false))) else (laws_FnAmendments.j3 kj51 l0))) = some r := H
                  have A72 := Aside0.mk A720
                  clear A720
                  replace H := Option.bind_eq_some_iff.mp H
                  obtain ⟨⟨t408, t409, t410⟩, A730, H⟩ := H
                  replace H : (if (t403.length : Int) ≤ 60 then ((impl_Amended.f t402 t408 t409 t410).bind fun bt414 => (if bt414.2 = true then ((laws_sameInts.f kj51 bt414.1 t403).bind fun t418 => (if t418 = true then (if t409 > (t402.length : Int) then (some false) else ((laws_sameInts.f kj51 t402 t403).bind fun t419 => (if t419 = true then (if t409 = 0 then (if (t410.length : Int) = 0 then (laws_FnAmendments.j3 kj51 l0) else (some false)) else (some false)) else (laws_FnAmendments.j3 kj51 l0)))) else (some false))) else (some false))) else (laws_FnAmendments.j3 kj51 l0)) = some r := H
                  have A73 := Aside0.mk A730
                  clear A730
                  have HC74 := Aside0.mk H
                  clear H
                  go_upto_if 113 with (first | ((with_reducible refine gate_callee (f := 42) rfl ?_); refine goesL_ (some 105) rfl rfl Try.func42 (by kernel_rfl) rfl #[.slice A0 l0.length c0] rfl (by (try simp only [List.map_toArray, List.map_cons, List.map_nil]); first | done | rfl | (simp only [List.length_drop, List.length_take]; rfl)) ?_; (with_reducible refine (spec_DrawDifference.calls kj51 _ _ l0 t402 t403 _ ?side1 ?side2 A72.out).mono ?_); (case side1 => repeat (first | exact (Kd.C_below HR0.out HB.out) | (with_reducible refine Kd.C_alloc ?_ _) | (with_reducible refine Kd.C_drewN ?_ _) | (with_reducible refine Kd.C_drew ?_))); (case side2 => exact HC0.out); rintro e w75 ⟨v404, v406, rfl, ho0, ho1, hb⟩; refine ⟨_, rfl, ?_⟩; have n0_ := Aside0.mk (Kd.R_mono (Kd.R_told (Kd.R_told (Kd.R_old (by (with_reducible repeat (first | apply Kd.R_alloc | apply Kd.R_drewN | apply Kd.R_drew)); exact HO_384002.out) hb) (Kd.R_base ho0)) (Kd.R_base ho1)) (fun _ h_ => h_.1)); have n1_ := Aside0.mk (Kd.R_mono (Kd.R_told (Kd.R_told (Kd.R_old (by (with_reducible repeat (first | apply Kd.R_alloc | apply Kd.R_drewN | apply Kd.R_drew)); exact HO_395002.out) hb) (Kd.R_base ho0)) (Kd.R_base ho1)) (fun _ h_ => h_.1)); have n2_ := Aside0.mk (Kd.R_lower (Kd.R_new' (Kd.R_new' ho0 (Kd.R_lt (by (with_reducible repeat (first | apply Kd.R_alloc | apply Kd.R_drewN | apply Kd.R_drew)); exact HO_384002.out))) (Kd.R_lt (by (with_reducible repeat (first | apply Kd.R_alloc | apply Kd.R_drewN | apply Kd.R_drew)); exact HO_395002.out))) (below_size (by repeat (first | (with_reducible first | exact HB.out | apply below_alloc | apply pw_below_drewN | apply below_drew1 | refine below_set ?_ GE383.out | refine below_set ?_ GE394.out) | exact HB.out)))); have n3_ := Aside0.mk (Kd.R_lower (Kd.R_new' (Kd.R_new' ho1 (Kd.R_lt (by (with_reducible repeat (first | apply Kd.R_alloc | apply Kd.R_drewN | apply Kd.R_drew)); exact HO_384002.out))) (Kd.R_lt (by (with_reducible repeat (first | apply Kd.R_alloc | apply Kd.R_drewN | apply Kd.R_drew)); exact HO_395002.out))) (below_size (by repeat (first | (with_reducible first | exact HB.out | apply below_alloc | apply pw_below_drewN | apply below_drew1 | refine below_set ?_ GE383.out | refine below_set ?_ GE394.out) | exact HB.out)))); have n4_ := Aside0.mk (blk_below (g := gb383) (o := .cells #[.int .i64 t378, .int .i64 t379, .slice Ao11 t380.length co11] 28 (0, 0)) (by (with_reducible repeat (first | refine blk_drewN ?_ _ | refine blk_drew ?_ | refine blk_alloc ?_ _)); exact BK383.out) hb); have n5_ := Aside0.mk (blk_below (g := gb394) (o := .cells #[.int .i64 t388, .int .i64 t389, .slice Ao19 t390.length co19] 28 (0, 0)) (by (with_reducible repeat (first | refine blk_drewN ?_ _ | refine blk_drew ?_ | refine blk_alloc ?_ _)); exact BK394.out) hb); have n6_ := Aside0.mk (below_step (by repeat (first | (with_reducible first | exact HB.out | apply below_alloc | apply pw_below_drewN | apply below_drew1 | refine below_set ?_ GE383.out | refine below_set ?_ GE394.out) | exact HB.out)) hb); clear HO_384002; clear HO_395002; clear BK383; clear BK394; clear HB; have HO_384002 := n0_; have HO_395002 := n1_; have HO405 := n2_; have HO407 := n3_; have BK383 := n4_; have BK394 := n5_; have HB := n6_; clear n0_ n1_ n2_ n3_ n4_ n5_ n6_; (try clear hb); (try clear hb2); (try clear hk); (try clear hi); (try clear ho0); (try clear ho1); obtain ⟨Ao76, co76, eo76⟩ := Kd.R_slice HO405.out; subst eo76; obtain ⟨Ao77, co77, eo77⟩ := Kd.R_slice HO407.out; subst eo77) | ((with_reducible refine gate_callee (f := 24) rfl ?_); refine goesL_ (some 110) rfl rfl Try.func24 (by kernel_rfl) rfl #[.slice Ao76 t402.length co76, .slice Ao77 t403.length co77] rfl (by (try simp only [List.map_toArray, List.map_cons, List.map_nil]); first | done | rfl | (simp only [List.length_drop, List.length_take]; rfl)) ?_; (with_reducible refine (impl_Difference.calls kj51 _ _ t402 _ _ t403 t408 t409 t410 _ ?side1 ?side2 ?side3 ?side4 A73.out).mono ?_); (case side1 => repeat (first | exact (Kd.R_reads' HO405.out).2.2 | (with_reducible refine Kd.C_alloc ?_ _) | (with_reducible refine Kd.C_drewN ?_ _) | (with_reducible refine Kd.C_drew ?_))); (case side2 => exact (Kd.R_reads' HO405.out).2.1); (case side3 => repeat (first | exact (Kd.R_reads' HO407.out).2.2 | (with_reducible refine Kd.C_alloc ?_ _) | (with_reducible refine Kd.C_drewN ?_ _) | (with_reducible refine Kd.C_drew ?_))); (case side4 => exact (Kd.R_reads' HO407.out).2.1); rintro e w78 ⟨v411, rfl, ho0, hb⟩; refine ⟨_, rfl, ?_⟩; have n0_ := Aside0.mk (Kd.R_elder' (by (with_reducible repeat (first | apply Kd.R_alloc | apply Kd.R_drewN | apply Kd.R_drew)); exact HO_384002.out) (Kd.R_base ho0) hb); have n1_ := Aside0.mk (Kd.R_elder' (by (with_reducible repeat (first | apply Kd.R_alloc | apply Kd.R_drewN | apply Kd.R_drew)); exact HO_395002.out) (Kd.R_base ho0) hb); have n2_ := Aside0.mk (Kd.R_elder' (by (with_reducible repeat (first | apply Kd.R_alloc | apply Kd.R_drewN | apply Kd.R_drew)); exact HO405.out) (Kd.R_base ho0) hb); have n3_ := Aside0.mk (Kd.R_elder' (by (with_reducible repeat (first | apply Kd.R_alloc | apply Kd.R_drewN | apply Kd.R_drew)); exact HO407.out) (Kd.R_base ho0) hb); have n4_ := Aside0.mk (Kd.R_lower (Kd.R_new' (Kd.R_new' (Kd.R_new' (Kd.R_new' ho0 (Kd.R_lt (by (with_reducible repeat (first | apply Kd.R_alloc | apply Kd.R_drewN | apply Kd.R_drew)); exact HO_384002.out))) (Kd.R_lt (by (with_reducible repeat (first | apply Kd.R_alloc | apply Kd.R_drewN | apply Kd.R_drew)); exact HO_395002.out))) (Kd.R_lt (by (with_reducible repeat (first | apply Kd.R_alloc | apply Kd.R_drewN | apply Kd.R_drew)); exact HO405.out))) (Kd.R_lt (by (with_reducible repeat (first | apply Kd.R_alloc | apply Kd.R_drewN | apply Kd.R_drew)); exact HO407.out))) (below_size (by repeat (first | (with_reducible first | exact HB.out | apply below_alloc | apply pw_below_drewN | apply below_drew1 | refine below_set ?_ GE383.out | refine below_set ?_ GE394.out) | exact HB.out)))); have n5_ := Aside0.mk (blk_below (g := gb383) (o := .cells #[.int .i64 t378, .int .i64 t379, .slice Ao11 t380.length co11] 28 (0, 0)) (by (with_reducible repeat (first | refine blk_drewN ?_ _ | refine blk_drew ?_ | refine blk_alloc ?_ _)); exact BK383.out) hb); have n6_ := Aside0.mk (blk_below (g := gb394) (o := .cells #[.int .i64 t388, .int .i64 t389, .slice Ao19 t390.length co19] 28 (0, 0)) (by (with_reducible repeat (first | refine blk_drewN ?_ _ | refine blk_drew ?_ | refine blk_alloc ?_ _)); exact BK394.out) hb); have n7_ := Aside0.mk (below_step (by repeat (first | (with_reducible first | exact HB.out | apply below_alloc | apply pw_below_drewN | apply below_drew1 | refine below_set ?_ GE383.out | refine below_set ?_ GE394.out) | exact HB.out)) hb); clear HO_384002; clear HO_395002; clear HO405; clear HO407; clear BK383; clear BK394; clear HB; have HO_384002 := n0_; have HO_395002 := n1_; have HO405 := n2_; have HO407 := n3_; have HO412 := n4_; have BK383 := n5_; have BK394 := n6_; have HB := n7_; clear n0_ n1_ n2_ n3_ n4_ n5_ n6_ n7_; (try clear hb); (try clear hb2); (try clear hk); (try clear hi); (try clear ho0)) | ((with_reducible refine gate_dst (N := 13) rfl ?_); (try (refine gate_guard (by rfl) ?_; dsimp only)); refine box_event ?hg (N := 13) ?hd (cs := #[.int .i64 0, .int .i64 0, .slice none 0 0]) (t := 28) ?hr ?_; (case hd => rfl); (case hg => rfl); (case hr => first | (go_simp; done) | (go_simp; rfl)); intro gb413 hg w79 hbox hb; have n0_ := Aside0.mk (Kd.R_below (by (with_reducible repeat (first | apply Kd.R_alloc | apply Kd.R_drewN | apply Kd.R_drew)); exact HO_384002.out) hb); have n1_ := Aside0.mk (Kd.R_below (by (with_reducible repeat (first | apply Kd.R_alloc | apply Kd.R_drewN | apply Kd.R_drew)); exact HO_395002.out) hb); have n2_ := Aside0.mk (Kd.R_below (by (with_reducible repeat (first | apply Kd.R_alloc | apply Kd.R_drewN | apply Kd.R_drew)); exact HO405.out) hb); have n3_ := Aside0.mk (Kd.R_below (by (with_reducible repeat (first | apply Kd.R_alloc | apply Kd.R_drewN | apply Kd.R_drew)); exact HO407.out) hb); have n4_ := Aside0.mk (Kd.R_below (by (with_reducible repeat (first | apply Kd.R_alloc | apply Kd.R_drewN | apply Kd.R_drew)); exact HO412.out) hb); have n5_ := Aside0.mk (blk_below (g := gb383) (o := .cells #[.int .i64 t378, .int .i64 t379, .slice Ao11 t380.length co11] 28 (0, 0)) (by (with_reducible repeat (first | refine blk_drewN ?_ _ | refine blk_drew ?_ | refine blk_alloc ?_ _)); exact BK383.out) hb); have n6_ := Aside0.mk (blk_below (g := gb394) (o := .cells #[.int .i64 t388, .int .i64 t389, .slice Ao19 t390.length co19] 28 (0, 0)) (by (with_reducible repeat (first | refine blk_drewN ?_ _ | refine blk_drew ?_ | refine blk_alloc ?_ _)); exact BK394.out) hb); have n7_ := Aside0.mk (below_step (by repeat (first | (with_reducible first | exact HB.out | apply below_alloc | apply pw_below_drewN | apply below_drew1 | refine below_set ?_ GE383.out | refine below_set ?_ GE394.out) | exact HB.out)) hb); have n8_ := Aside0.mk (hbox); have n9_ := Aside0.mk ((by rw [hg]; exact (below_size (by repeat (first | (with_reducible first | exact HB.out | apply below_alloc | apply pw_below_drewN | apply below_drew1 | refine below_set ?_ GE383.out | refine below_set ?_ GE394.out) | exact HB.out))) : w.heap.size ≤ gb413)); have n10_ := Aside0.mk ((by rw [hg]; exact (below_size (by repeat (first | (with_reducible first | exact HB.out | apply below_alloc | apply pw_below_drewN | apply below_drew1 | refine below_set ?_ GE383.out | refine below_set ?_ GE394.out) | exact HB.out))) : w.heap.size ≤ gb413)); have n11_ := Aside0.mk ((by rw [hg]; exact Nat.ne_of_lt (blk_lt (g := gb383) (o := .cells #[.int .i64 t378, .int .i64 t379, .slice Ao11 t380.length co11] 28 (0, 0)) (by (with_reducible repeat (first | refine blk_drewN ?_ _ | refine blk_drew ?_ | refine blk_alloc ?_ _)); exact BK383.out)) : gb383 ≠ gb413)); have n12_ := Aside0.mk ((by rw [hg]; exact Nat.ne_of_gt (blk_lt (g := gb383) (o := .cells #[.int .i64 t378, .int .i64 t379, .slice Ao11 t380.length co11] 28 (0, 0)) (by (with_reducible repeat (first | refine blk_drewN ?_ _ | refine blk_drew ?_ | refine blk_alloc ?_ _)); exact BK383.out)) : gb413 ≠ gb383)); have n13_ := Aside0.mk ((by rw [hg]; exact Nat.ne_of_lt (blk_lt (g := gb394) (o := .cells #[.int .i64 t388, .int .i64 t389, .slice Ao19 t390.length co19] 28 (0, 0)) (by (with_reducible repeat (first | refine blk_drewN ?_ _ | refine blk_drew ?_ | refine blk_alloc ?_ _)); exact BK394.out)) : gb394 ≠ gb413)); have n14_ := Aside0.mk ((by rw [hg]; exact Nat.ne_of_gt (blk_lt (g := gb394) (o := .cells #[.int .i64 t388, .int .i64 t389, .slice Ao19 t390.length co19] 28 (0, 0)) (by (with_reducible repeat (first | refine blk_drewN ?_ _ | refine blk_drew ?_ | refine blk_alloc ?_ _)); exact BK394.out)) : gb413 ≠ gb394)); clear HO_384002; clear HO_395002; clear HO405; clear HO407; clear HO412; clear BK383; clear BK394; clear HB; have HO_384002 := n0_; have HO_395002 := n1_; have HO405 := n2_; have HO407 := n3_; have HO412 := n4_; have BK383 := n5_; have BK394 := n6_; have HB := n7_; have BK413 := n8_; have GW413 := n9_; have GE413 := n10_; have NB383_413 := n11_; have NB413_383 := n12_; have NB394_413 := n13_; have NB413_394 := n14_; clear n0_ n1_ n2_ n3_ n4_ n5_ n6_ n7_ n8_ n9_ n10_ n11_ n12_ n13_ n14_; clear hb hbox hg; have hnb80 := NB413_383.out; have hnc80 := NB383_413.out; have hnb81 := NB413_394.out; have hnc81 := NB394_413.out; have hcz82_0 : w79.cell? ⟨gb413, 0, none⟩ = some (.int .i64 0) := (blk_cell BK413.out 0).trans rfl; have hcz82_1 : w79.cell? ⟨gb413, 1, none⟩ = some (.int .i64 0) := (blk_cell BK413.out 1).trans rfl; have hcz82_2 : w79.cell? ⟨gb413, 2, none⟩ = some (.slice none 0 0) := (blk_cell BK413.out 2).trans rfl; have hfz82_0 := blk_frozen BK413.out 0; have hfz82_1 := blk_frozen BK413.out 1; have hfz82_2 := blk_frozen BK413.out 2; obtain ⟨Ao83, co83, eo83⟩ := Kd.R_slice HO412.out; subst eo83))
                  (try simp only [Act.put, List.setIfInBounds_toArray, List.set_cons_zero, List.set_cons_succ])
                  go_cut [] (fun wc => ∃ (kq : Nat), Aside0 (laws_FnAmendments.j3 kq l0 = some r) ∧ Aside0 (kq ≤ kj51) ∧ Aside0 (Kd.R (Kd.int .i64) 3 wc w.heap.size (fun k_ => some k_ ≠ ((.slice Ao19 t390.length co19) : Value).ownBlock ∧ some k_ ≠ ((.slice Ao83 t410.length co83) : Value).ownBlock) (.slice Ao11 t380.length co11) t380) ∧ Aside0 (Kd.R (Kd.int .i64) 3 wc w.heap.size (fun k_ => some k_ ≠ ((.slice Ao11 t380.length co11) : Value).ownBlock ∧ some k_ ≠ ((.slice Ao83 t410.length co83) : Value).ownBlock) (.slice Ao19 t390.length co19) t390) ∧ Aside0 (Kd.R (Kd.int .i64) 3 wc w.heap.size (fun k_ => some k_ ≠ ((.slice Ao11 t380.length co11) : Value).ownBlock ∧ some k_ ≠ ((.slice Ao19 t390.length co19) : Value).ownBlock) (.slice Ao83 t410.length co83) t410) ∧ Aside0 (wc.heap[gb383]? = some (.cells #[.int .i64 t378, .int .i64 t379, (.slice Ao11 t380.length co11)] 28 (0, 0))) ∧ Aside0 (wc.heap[gb394]? = some (.cells #[.int .i64 t388, .int .i64 t389, (.slice Ao19 t390.length co19)] 28 (0, 0))) ∧ Aside0 (wc.heap[gb413]? = some (.cells #[.int .i64 t408, .int .i64 t409, (.slice Ao83 t410.length co83)] 28 (0, 0))) ∧ Aside0 (Below w.heap.size w wc))
                  case first =>
                    have H := HC74.out
                    clear HC74
                    by_cases c84 : (t403.length : Int) ≤ 60
                    · rw [if_pos c84] at H
                      have c84b0 : decide ((t403.length : Int) ≤ 60) = true := decide_eq_true c84
                      have c84b1 : decide (t403.length ≤ 60) = true := decide_eq_true (by omega)
                      clear c84
                      (first | rw [c84b0] | (simp only [i64_w, i32_w]; rw [c84b0]) | skip)
                      replace H := Option.bind_eq_some_iff.mp H
                      obtain ⟨⟨t414, t417⟩, A850, H⟩ := H
                      replace H : (if t417 = true then ((laws_sameInts.f kj51 t414 t403).bind fun t418 => (if t418 = true then (if t409 > (t402.length : Int) then (some false) else ((laws_sameInts.f kj51 t402 t403).bind fun t419 => (if t419 = true then (if t409 = 0 then (if (t410.length : Int) = 0 then (laws_FnAmendments.j3 kj51 l0) else (some false)) else (some false)) else (laws_FnAmendments.j3 kj51 l0)))) else (some false))) else (some false)) = some r := H
                      have A85 := Aside0.mk A850
                      clear A850
                      by_cases c86 : t417 = true
                      · subst c86
                        have H1 : ((laws_sameInts.f kj51 t414 t403).bind fun t418 => (if t418 = true then (if t409 > (t402.length : Int) then (some false) else ((laws_sameInts.f kj51 t402 t403).bind fun t419 => (if t419 = true then (if t409 = 0 then (if (t410.length : Int) = 0 then (laws_FnAmendments.j3 kj51 l0) else (some false)) else (some false)) else (laws_FnAmendments.j3 kj51 l0)))) else (some false))) = some r := by rw [if_pos rfl] at H; exact H
                        clear H
                        have H := H1
                        clear H1
                        replace H := Option.bind_eq_some_iff.mp H
                        obtain ⟨t418, A870, H⟩ := H
                        replace H : (if t418 = true then (if t409 > (t402.length : Int) then (some false) else ((laws_sameInts.f kj51 t402 t403).bind fun t419 => (if t419 = true then (if t409 = 0 then (if (t410.length : Int) = 0 then (laws_FnAmendments.j3 kj51 l0) else (some false)) else (some false)) else (laws_FnAmendments.j3 kj51 l0)))) else (some false)) = some r := H
                        have A87 := Aside0.mk A870
                        clear A870
                        by_cases c88 : t418 = true
                        · subst c88
                          have H1 : (if t409 > (t402.length : Int) then (some false) else ((laws_sameInts.f kj51 t402 t403).bind fun t419 => (if t419 = true then (if t409 = 0 then (if (t410.length : Int) = 0 then (laws_FnAmendments.j3 kj51 l0) else (some false)) else (some false)) else (laws_FnAmendments.j3 kj51 l0)))) = some r := by rw [if_pos rfl] at H; exact H
                          clear H
                          have H := H1
                          clear H1
                          by_cases c89 : t409 > (t402.length : Int)
                          · rw [if_pos c89] at H
                            have c89b0 : decide ((t402.length : Int) < t409) = true := decide_eq_true c89
                            clear c89
                            exact absurd ((Option.some.inj H).trans hr_) (by decide)
                          · rw [if_neg c89] at H
                            have c89b0 : decide ((t402.length : Int) < t409) = false := decide_eq_false c89
                            clear c89
                            replace H := Option.bind_eq_some_iff.mp H
                            obtain ⟨t419, A960, H⟩ := H
                            replace H : (if t419 = true then (if t409 = 0 then (if (t410.length : Int) = 0 then (laws_FnAmendments.j3 kj51 l0) else (some false)) else (some false)) else (laws_FnAmendments.j3 kj51 l0)) = some r := H
                            have A96 := Aside0.mk A960
                            clear A960
                            by_cases c97 : t419 = true
                            · subst c97
                              have H1 : (if t409 = 0 then (if (t410.length : Int) = 0 then (laws_FnAmendments.j3 kj51 l0) else (some false)) else (some false)) = some r := by rw [if_pos rfl] at H; exact H
                              clear H
                              have H := H1
                              clear H1
                              by_cases c98 : t409 = 0
                              · rw [if_pos c98] at H
                                have c98b0 : (t409 == 0) = true := beq_iff_eq.mpr c98
                                have c98b1 : (t409 != 0) = false := bne_eq_false_iff_eq.mpr c98
                                clear c98
                                by_cases c99 : (t410.length : Int) = 0
                                · rw [if_pos c99] at H
                                  have c99b0 : ((t410.length : Int) == 0) = true := beq_iff_eq.mpr c99
                                  have c99b1 : ((t410.length : Int) != 0) = false := bne_eq_false_iff_eq.mpr c99
                                  clear c99
                                  have H' := Aside0.mk H
                                  clear H
                                  have hnb100 := NB413_383.out
                                  have hnc100 := NB383_413.out
                                  have hnb101 := NB413_394.out
                                  have hnc101 := NB394_413.out
                                  have hcz102_0 : w79.cell? ⟨gb413, 0, none⟩ = some (.int .i64 0) := (blk_cell BK413.out 0).trans rfl
                                  have hcz102_1 : w79.cell? ⟨gb413, 1, none⟩ = some (.int .i64 0) := (blk_cell BK413.out 1).trans rfl
                                  have hcz102_2 : w79.cell? ⟨gb413, 2, none⟩ = some (.slice none 0 0) := (blk_cell BK413.out 2).trans rfl
                                  have hfz102_0 := blk_frozen BK413.out 0
                                  have hfz102_1 := blk_frozen BK413.out 1
                                  have hfz102_2 := blk_frozen BK413.out 2
                                  go_wp2_with (first | ((with_reducible refine gate_callee (f := 31) rfl ?_); refine goesL_ (some 117) rfl rfl Try.func31 (by kernel_rfl) rfl #[.slice Ao76 t402.length co76, .agg #[.int .i64 t408, .int .i64 t409, .slice Ao83 t410.length co83]] rfl (by (try simp only [List.map_toArray, List.map_cons, List.map_nil]); first | done | rfl | (simp only [List.length_drop, List.length_take]; rfl)) ?_; (with_reducible refine (impl_Amended.calls _ _ t402 t408 t409 _ _ t410 t414 true _ ?side1 ?side2 ?side3 ?side4 A85.out).mono ?_); (case side1 => refine (Kd.R_reads' (e := 3) (base := w.heap.size) (ok := fun k_ => (((some k_ ≠ (.slice Ao77 t403.length co77 : Value).ownBlock ∧ some k_ ≠ (.slice Ao11 t380.length co11 : Value).ownBlock) ∧ some k_ ≠ (.slice Ao19 t390.length co19 : Value).ownBlock) ∧ some k_ ≠ (.slice Ao83 t410.length co83 : Value).ownBlock)) (n := t402.length) (c := co76) ?_).2.2; exact (by (with_reducible repeat (first | apply Kd.R_alloc | apply Kd.R_drewN | apply Kd.R_drew)); exact (Kd.R_mono (Kd.R_far (p := ⟨gb413, 2, none⟩) (Kd.R_far (p := ⟨gb413, 1, none⟩) (Kd.R_far (p := ⟨gb413, 0, none⟩) (Kd.R_types HO405.out BK413.out (by decide)) (fun _ hk => hk.2) (.int .i64 t408)) (fun _ hk => hk.2) (.int .i64 t409)) (fun _ hk => hk.2) (.slice Ao83 t410.length co83)) (fun _ h_ => h_.1)))); (case side2 => exact (Kd.R_reads' HO405.out).2.1); (case side3 => refine (Kd.R_reads' (e := 3) (base := w.heap.size) (ok := fun k_ => ((((True ∧ some k_ ≠ (.slice Ao11 t380.length co11 : Value).ownBlock) ∧ some k_ ≠ (.slice Ao19 t390.length co19 : Value).ownBlock) ∧ some k_ ≠ (.slice Ao76 t402.length co76 : Value).ownBlock) ∧ some k_ ≠ (.slice Ao77 t403.length co77 : Value).ownBlock)) (n := t410.length) (c := co83) ?_).2.2; exact (by (with_reducible repeat (first | apply Kd.R_alloc | apply Kd.R_drewN | apply Kd.R_drew)); exact (Kd.R_mono (Kd.R_far (p := ⟨gb413, 2, none⟩) (Kd.R_far (p := ⟨gb413, 1, none⟩) (Kd.R_far (p := ⟨gb413, 0, none⟩) (Kd.R_types HO412.out BK413.out (by decide)) (fun _ hk => hk.2) (.int .i64 t408)) (fun _ hk => hk.2) (.int .i64 t409)) (fun _ hk => hk.2) (.slice Ao83 t410.length co83)) (fun _ h_ => h_.1)))); (case side4 => exact (Kd.R_reads' HO412.out).2.1); rintro e w103 ⟨v415, rfl, ho0, hb⟩; refine ⟨_, rfl, ?_⟩; have n0_ := Aside0.mk (Kd.R_elder' (by (with_reducible repeat (first | apply Kd.R_alloc | apply Kd.R_drewN | apply Kd.R_drew)); exact (Kd.R_mono (Kd.R_far (p := ⟨gb413, 2, none⟩) (Kd.R_far (p := ⟨gb413, 1, none⟩) (Kd.R_far (p := ⟨gb413, 0, none⟩) (Kd.R_types HO_384002.out BK413.out (by decide)) (fun _ hk => hk.2) (.int .i64 t408)) (fun _ hk => hk.2) (.int .i64 t409)) (fun _ hk => hk.2) (.slice Ao83 t410.length co83)) (fun _ h_ => h_.1))) (Kd.R_base ho0) hb); have n1_ := Aside0.mk (Kd.R_elder' (by (with_reducible repeat (first | apply Kd.R_alloc | apply Kd.R_drewN | apply Kd.R_drew)); exact (Kd.R_mono (Kd.R_far (p := ⟨gb413, 2, none⟩) (Kd.R_far (p := ⟨gb413, 1, none⟩) (Kd.R_far (p := ⟨gb413, 0, none⟩) (Kd.R_types HO_395002.out BK413.out (by decide)) (fun _ hk => hk.2) (.int .i64 t408)) (fun _ hk => hk.2) (.int .i64 t409)) (fun _ hk => hk.2) (.slice Ao83 t410.length co83)) (fun _ h_ => h_.1))) (Kd.R_base ho0) hb); have n2_ := Aside0.mk (Kd.R_elder' (by (with_reducible repeat (first | apply Kd.R_alloc | apply Kd.R_drewN | apply Kd.R_drew)); exact (Kd.R_mono (Kd.R_far (p := ⟨gb413, 2, none⟩) (Kd.R_far (p := ⟨gb413, 1, none⟩) (Kd.R_far (p := ⟨gb413, 0, none⟩) (Kd.R_types HO405.out BK413.out (by decide)) (fun _ hk => hk.2) (.int .i64 t408)) (fun _ hk => hk.2) (.int .i64 t409)) (fun _ hk => hk.2) (.slice Ao83 t410.length co83)) (fun _ h_ => h_.1))) (Kd.R_base ho0) hb); have n3_ := Aside0.mk (Kd.R_elder' (by (with_reducible repeat (first | apply Kd.R_alloc | apply Kd.R_drewN | apply Kd.R_drew)); exact (Kd.R_mono (Kd.R_far (p := ⟨gb413, 2, none⟩) (Kd.R_far (p := ⟨gb413, 1, none⟩) (Kd.R_far (p := ⟨gb413, 0, none⟩) (Kd.R_types HO407.out BK413.out (by decide)) (fun _ hk => hk.2) (.int .i64 t408)) (fun _ hk => hk.2) (.int .i64 t409)) (fun _ hk => hk.2) (.slice Ao83 t410.length co83)) (fun _ h_ => h_.1))) (Kd.R_base ho0) hb); have n4_ := Aside0.mk (Kd.R_elder' (by (with_reducible repeat (first | apply Kd.R_alloc | apply Kd.R_drewN | apply Kd.R_drew)); exact (Kd.R_mono (Kd.R_far (p := ⟨gb413, 2, none⟩) (Kd.R_far (p := ⟨gb413, 1, none⟩) (Kd.R_far (p := ⟨gb413, 0, none⟩) (Kd.R_types HO412.out BK413.out (by decide)) (fun _ hk => hk.2) (.int .i64 t408)) (fun _ hk => hk.2) (.int .i64 t409)) (fun _ hk => hk.2) (.slice Ao83 t410.length co83)) (fun _ h_ => h_.1))) (Kd.R_base ho0) hb); have n5_ := Aside0.mk (Kd.R_lower (Kd.R_new' (Kd.R_new' (Kd.R_new' (Kd.R_new' (Kd.R_new' ho0 (Kd.R_lt (by (with_reducible repeat (first | apply Kd.R_alloc | apply Kd.R_drewN | apply Kd.R_drew)); exact (Kd.R_mono (Kd.R_far (p := ⟨gb413, 2, none⟩) (Kd.R_far (p := ⟨gb413, 1, none⟩) (Kd.R_far (p := ⟨gb413, 0, none⟩) (Kd.R_types HO_384002.out BK413.out (by decide)) (fun _ hk => hk.2) (.int .i64 t408)) (fun _ hk => hk.2) (.int .i64 t409)) (fun _ hk => hk.2) (.slice Ao83 t410.length co83)) (fun _ h_ => h_.1))))) (Kd.R_lt (by (with_reducible repeat (first | apply Kd.R_alloc | apply Kd.R_drewN | apply Kd.R_drew)); exact (Kd.R_mono (Kd.R_far (p := ⟨gb413, 2, none⟩) (Kd.R_far (p := ⟨gb413, 1, none⟩) (Kd.R_far (p := ⟨gb413, 0, none⟩) (Kd.R_types HO_395002.out BK413.out (by decide)) (fun _ hk => hk.2) (.int .i64 t408)) (fun _ hk => hk.2) (.int .i64 t409)) (fun _ hk => hk.2) (.slice Ao83 t410.length co83)) (fun _ h_ => h_.1))))) (Kd.R_lt (by (with_reducible repeat (first | apply Kd.R_alloc | apply Kd.R_drewN | apply Kd.R_drew)); exact (Kd.R_mono (Kd.R_far (p := ⟨gb413, 2, none⟩) (Kd.R_far (p := ⟨gb413, 1, none⟩) (Kd.R_far (p := ⟨gb413, 0, none⟩) (Kd.R_types HO405.out BK413.out (by decide)) (fun _ hk => hk.2) (.int .i64 t408)) (fun _ hk => hk.2) (.int .i64 t409)) (fun _ hk => hk.2) (.slice Ao83 t410.length co83)) (fun _ h_ => h_.1))))) (Kd.R_lt (by (with_reducible repeat (first | apply Kd.R_alloc | apply Kd.R_drewN | apply Kd.R_drew)); exact (Kd.R_mono (Kd.R_far (p := ⟨gb413, 2, none⟩) (Kd.R_far (p := ⟨gb413, 1, none⟩) (Kd.R_far (p := ⟨gb413, 0, none⟩) (Kd.R_types HO407.out BK413.out (by decide)) (fun _ hk => hk.2) (.int .i64 t408)) (fun _ hk => hk.2) (.int .i64 t409)) (fun _ hk => hk.2) (.slice Ao83 t410.length co83)) (fun _ h_ => h_.1))))) (Kd.R_lt (by (with_reducible repeat (first | apply Kd.R_alloc | apply Kd.R_drewN | apply Kd.R_drew)); exact (Kd.R_mono (Kd.R_far (p := ⟨gb413, 2, none⟩) (Kd.R_far (p := ⟨gb413, 1, none⟩) (Kd.R_far (p := ⟨gb413, 0, none⟩) (Kd.R_types HO412.out BK413.out (by decide)) (fun _ hk => hk.2) (.int .i64 t408)) (fun _ hk => hk.2) (.int .i64 t409)) (fun _ hk => hk.2) (.slice Ao83 t410.length co83)) (fun _ h_ => h_.1))))) (below_size (by repeat (first | (with_reducible first | exact HB.out | apply below_alloc | apply pw_below_drewN | apply below_drew1 | refine below_set ?_ GE383.out | refine below_set ?_ GE394.out | refine below_set ?_ GE413.out) | exact HB.out)))); have n6_ := Aside0.mk (blk_below (g := gb383) (o := .cells #[.int .i64 t378, .int .i64 t379, .slice Ao11 t380.length co11] 28 (0, 0)) (by (with_reducible repeat (first | refine blk_drewN ?_ _ | refine blk_drew ?_ | refine blk_alloc ?_ _)); refine blk_far ?_ NB383_413.out _; (with_reducible repeat (first | refine blk_drewN ?_ _ | refine blk_drew ?_ | refine blk_alloc ?_ _)); refine blk_far ?_ NB383_413.out _; (with_reducible repeat (first | refine blk_drewN ?_ _ | refine blk_drew ?_ | refine blk_alloc ?_ _)); refine blk_far ?_ NB383_413.out _; (with_reducible repeat (first | refine blk_drewN ?_ _ | refine blk_drew ?_ | refine blk_alloc ?_ _)); exact BK383.out) hb); have n7_ := Aside0.mk (blk_below (g := gb394) (o := .cells #[.int .i64 t388, .int .i64 t389, .slice Ao19 t390.length co19] 28 (0, 0)) (by (with_reducible repeat (first | refine blk_drewN ?_ _ | refine blk_drew ?_ | refine blk_alloc ?_ _)); refine blk_far ?_ NB394_413.out _; (with_reducible repeat (first | refine blk_drewN ?_ _ | refine blk_drew ?_ | refine blk_alloc ?_ _)); refine blk_far ?_ NB394_413.out _; (with_reducible repeat (first | refine blk_drewN ?_ _ | refine blk_drew ?_ | refine blk_alloc ?_ _)); refine blk_far ?_ NB394_413.out _; (with_reducible repeat (first | refine blk_drewN ?_ _ | refine blk_drew ?_ | refine blk_alloc ?_ _)); exact BK394.out) hb); have n8_ := Aside0.mk (blk_below (g := gb413) (o := .cells #[.int .i64 t408, .int .i64 t409, .slice Ao83 t410.length co83] 28 (0, 0)) (by (with_reducible repeat (first | refine blk_drewN ?_ _ | refine blk_drew ?_ | refine blk_alloc ?_ _)); refine blk_put (cs := #[.int .i64 t408, .int .i64 t409, .slice none 0 0]) ?_ 2 _ rfl; (with_reducible repeat (first | refine blk_drewN ?_ _ | refine blk_drew ?_ | refine blk_alloc ?_ _)); refine blk_put (cs := #[.int .i64 t408, .int .i64 0, .slice none 0 0]) ?_ 1 _ rfl; (with_reducible repeat (first | refine blk_drewN ?_ _ | refine blk_drew ?_ | refine blk_alloc ?_ _)); refine blk_put (cs := #[.int .i64 0, .int .i64 0, .slice none 0 0]) ?_ 0 _ rfl; (with_reducible repeat (first | refine blk_drewN ?_ _ | refine blk_drew ?_ | refine blk_alloc ?_ _)); exact BK413.out) hb); have n9_ := Aside0.mk (below_step (by repeat (first | (with_reducible first | exact HB.out | apply below_alloc | apply pw_below_drewN | apply below_drew1 | refine below_set ?_ GE383.out | refine below_set ?_ GE394.out | refine below_set ?_ GE413.out) | exact HB.out)) hb); clear HO_384002; clear HO_395002; clear HO405; clear HO407; clear HO412; clear BK383; clear BK394; clear BK413; clear HB; have HO_384002 := n0_; have HO_395002 := n1_; have HO405 := n2_; have HO407 := n3_; have HO412 := n4_; have HO416 := n5_; have BK383 := n6_; have BK394 := n7_; have BK413 := n8_; have HB := n9_; clear n0_ n1_ n2_ n3_ n4_ n5_ n6_ n7_ n8_ n9_; (try clear hb); (try clear hb2); (try clear hk); (try clear hi); (try clear ho0); obtain ⟨Ao104, co104, eo104⟩ := Kd.R_slice HO416.out; subst eo104) | (go_at_call 41; (with_reducible refine (laws_sameInts.calls kj51 _ _ t414 _ _ t403 true _ ?side1 ?side2 ?side3 ?side4 A87.out).mono ?_); (case side1 => repeat (first | exact (Kd.R_reads' HO416.out).2.2 | (with_reducible refine Kd.C_alloc ?_ _) | (with_reducible refine Kd.C_drewN ?_ _) | (with_reducible refine Kd.C_drew ?_))); (case side2 => exact (Kd.R_reads' HO416.out).2.1); (case side3 => repeat (first | exact (Kd.R_reads' HO407.out).2.2 | (with_reducible refine Kd.C_alloc ?_ _) | (with_reducible refine Kd.C_drewN ?_ _) | (with_reducible refine Kd.C_drew ?_))); (case side4 => exact (Kd.R_reads' HO407.out).2.1); rintro e w' ⟨rfl, ⟨nd, rfl⟩⟩; have hcz105_0 : w103.cell? ⟨gb413, 0, none⟩ = some (.int .i64 t408) := (blk_cell BK413.out 0).trans rfl; have hcz105_1 : w103.cell? ⟨gb413, 1, none⟩ = some (.int .i64 t409) := (blk_cell BK413.out 1).trans rfl; have hcz105_2 : w103.cell? ⟨gb413, 2, none⟩ = some (.slice Ao83 t410.length co83) := (blk_cell BK413.out 2).trans rfl; have hfz105_0 := blk_frozen BK413.out 0; have hfz105_1 := blk_frozen BK413.out 1; have hfz105_2 := blk_frozen BK413.out 2) | (go_at_call 41; (with_reducible refine (laws_sameInts.calls kj51 _ _ t402 _ _ t403 true _ ?side1 ?side2 ?side3 ?side4 A96.out).mono ?_); (case side1 => repeat (first | exact (Kd.R_reads' HO405.out).2.2 | (with_reducible refine Kd.C_alloc ?_ _) | (with_reducible refine Kd.C_drewN ?_ _) | (with_reducible refine Kd.C_drew ?_))); (case side2 => exact (Kd.R_reads' HO405.out).2.1); (case side3 => repeat (first | exact (Kd.R_reads' HO407.out).2.2 | (with_reducible refine Kd.C_alloc ?_ _) | (with_reducible refine Kd.C_drewN ?_ _) | (with_reducible refine Kd.C_drew ?_))); (case side4 => exact (Kd.R_reads' HO407.out).2.1); rintro e w' ⟨rfl, ⟨nd, rfl⟩⟩))
                                  go_meet
                                  case rel => exact ⟨_, H', ⟨by have := HJ6.out; have := HJ49.out; have := HJ51.out; first | omega | exact Nat.le_refl _⟩, ⟨by (with_reducible repeat (first | apply Kd.R_alloc | apply Kd.R_drewN | apply Kd.R_drew)); exact Kd.R_mono HO_384002.out (fun _ hk => ⟨hk.1.1.1.1, hk.1.2⟩)⟩, ⟨by (with_reducible repeat (first | apply Kd.R_alloc | apply Kd.R_drewN | apply Kd.R_drew)); exact Kd.R_mono HO_395002.out (fun _ hk => ⟨hk.1.1.1.1, hk.1.2⟩)⟩, ⟨by (with_reducible repeat (first | apply Kd.R_alloc | apply Kd.R_drewN | apply Kd.R_drew)); exact Kd.R_mono HO412.out (fun _ hk => ⟨hk.1.1.1.1.2, hk.1.1.1.2⟩)⟩, ⟨by (with_reducible repeat (first | refine blk_drewN ?_ _ | refine blk_drew ?_ | refine blk_alloc ?_ _)); exact BK383.out⟩, ⟨by (with_reducible repeat (first | refine blk_drewN ?_ _ | refine blk_drew ?_ | refine blk_alloc ?_ _)); exact BK394.out⟩, ⟨by (with_reducible repeat (first | refine blk_drewN ?_ _ | refine blk_drew ?_ | refine blk_alloc ?_ _)); exact BK413.out⟩, ⟨by repeat (first | (with_reducible first | exact HB.out | apply below_alloc | apply pw_below_drewN | apply below_drew1 | refine below_set ?_ GE383.out | refine below_set ?_ GE394.out | refine below_set ?_ GE413.out) | exact HB.out)⟩⟩
                                · rw [if_neg c99] at H
                                  have c99b0 : ((t410.length : Int) == 0) = false := beq_eq_false_iff_ne.mpr c99
                                  have c99b1 : ((t410.length : Int) != 0) = true := bne_iff_ne.mpr c99
                                  have c99b2 : ¬ (t410 = []) := fun h_ => c99 (by rw [h_]; rfl)
                                  exact absurd ((Option.some.inj H).trans hr_) (by decide)
                              · rw [if_neg c98] at H
                                have c98b0 : (t409 == 0) = false := beq_eq_false_iff_ne.mpr c98
                                have c98b1 : (t409 != 0) = true := bne_iff_ne.mpr c98
                                exact absurd ((Option.some.inj H).trans hr_) (by decide)
                            · replace c97 := Bool.eq_false_iff.mpr c97
                              subst c97
                              have H1 : (laws_FnAmendments.j3 kj51 l0) = some r := by rw [if_neg (show ¬ (false = true) by decide)] at H; exact H
                              clear H
                              have H := H1
                              clear H1
                              have H' := Aside0.mk H
                              clear H
                              have hnb118 := NB413_383.out
                              have hnc118 := NB383_413.out
                              have hnb119 := NB413_394.out
                              have hnc119 := NB394_413.out
                              have hcz120_0 : w79.cell? ⟨gb413, 0, none⟩ = some (.int .i64 0) := (blk_cell BK413.out 0).trans rfl
                              have hcz120_1 : w79.cell? ⟨gb413, 1, none⟩ = some (.int .i64 0) := (blk_cell BK413.out 1).trans rfl
                              have hcz120_2 : w79.cell? ⟨gb413, 2, none⟩ = some (.slice none 0 0) := (blk_cell BK413.out 2).trans rfl
                              have hfz120_0 := blk_frozen BK413.out 0
                              have hfz120_1 := blk_frozen BK413.out 1
                              have hfz120_2 := blk_frozen BK413.out 2
                              go_wp2_with (first | ((with_reducible refine gate_callee (f := 31) rfl ?_); refine goesL_ (some 117) rfl rfl Try.func31 (by kernel_rfl) rfl #[.slice Ao76 t402.length co76, .agg #[.int .i64 t408, .int .i64 t409, .slice Ao83 t410.length co83]] rfl (by (try simp only [List.map_toArray, List.map_cons, List.map_nil]); first | done | rfl | (simp only [List.length_drop, List.length_take]; rfl)) ?_; (with_reducible refine (impl_Amended.calls _ _ t402 t408 t409 _ _ t410 t414 true _ ?side1 ?side2 ?side3 ?side4 A85.out).mono ?_); (case side1 => refine (Kd.R_reads' (e := 3) (base := w.heap.size) (ok := fun k_ => (((some k_ ≠ (.slice Ao77 t403.length co77 : Value).ownBlock ∧ some k_ ≠ (.slice Ao11 t380.length co11 : Value).ownBlock) ∧ some k_ ≠ (.slice Ao19 t390.length co19 : Value).ownBlock) ∧ some k_ ≠ (.slice Ao83 t410.length co83 : Value).ownBlock)) (n := t402.length) (c := co76) ?_).2.2; exact (by (with_reducible repeat (first | apply Kd.R_alloc | apply Kd.R_drewN | apply Kd.R_drew)); exact (Kd.R_mono (Kd.R_far (p := ⟨gb413, 2, none⟩) (Kd.R_far (p := ⟨gb413, 1, none⟩) (Kd.R_far (p := ⟨gb413, 0, none⟩) (Kd.R_types HO405.out BK413.out (by decide)) (fun _ hk => hk.2) (.int .i64 t408)) (fun _ hk => hk.2) (.int .i64 t409)) (fun _ hk => hk.2) (.slice Ao83 t410.length co83)) (fun _ h_ => h_.1)))); (case side2 => exact (Kd.R_reads' HO405.out).2.1); (case side3 => refine (Kd.R_reads' (e := 3) (base := w.heap.size) (ok := fun k_ => ((((True ∧ some k_ ≠ (.slice Ao11 t380.length co11 : Value).ownBlock) ∧ some k_ ≠ (.slice Ao19 t390.length co19 : Value).ownBlock) ∧ some k_ ≠ (.slice Ao76 t402.length co76 : Value).ownBlock) ∧ some k_ ≠ (.slice Ao77 t403.length co77 : Value).ownBlock)) (n := t410.length) (c := co83) ?_).2.2; exact (by (with_reducible repeat (first | apply Kd.R_alloc | apply Kd.R_drewN | apply Kd.R_drew)); exact (Kd.R_mono (Kd.R_far (p := ⟨gb413, 2, none⟩) (Kd.R_far (p := ⟨gb413, 1, none⟩) (Kd.R_far (p := ⟨gb413, 0, none⟩) (Kd.R_types HO412.out BK413.out (by decide)) (fun _ hk => hk.2) (.int .i64 t408)) (fun _ hk => hk.2) (.int .i64 t409)) (fun _ hk => hk.2) (.slice Ao83 t410.length co83)) (fun _ h_ => h_.1)))); (case side4 => exact (Kd.R_reads' HO412.out).2.1); rintro e w121 ⟨v415, rfl, ho0, hb⟩; refine ⟨_, rfl, ?_⟩; have n0_ := Aside0.mk (Kd.R_elder' (by (with_reducible repeat (first | apply Kd.R_alloc | apply Kd.R_drewN | apply Kd.R_drew)); exact (Kd.R_mono (Kd.R_far (p := ⟨gb413, 2, none⟩) (Kd.R_far (p := ⟨gb413, 1, none⟩) (Kd.R_far (p := ⟨gb413, 0, none⟩) (Kd.R_types HO_384002.out BK413.out (by decide)) (fun _ hk => hk.2) (.int .i64 t408)) (fun _ hk => hk.2) (.int .i64 t409)) (fun _ hk => hk.2) (.slice Ao83 t410.length co83)) (fun _ h_ => h_.1))) (Kd.R_base ho0) hb); have n1_ := Aside0.mk (Kd.R_elder' (by (with_reducible repeat (first | apply Kd.R_alloc | apply Kd.R_drewN | apply Kd.R_drew)); exact (Kd.R_mono (Kd.R_far (p := ⟨gb413, 2, none⟩) (Kd.R_far (p := ⟨gb413, 1, none⟩) (Kd.R_far (p := ⟨gb413, 0, none⟩) (Kd.R_types HO_395002.out BK413.out (by decide)) (fun _ hk => hk.2) (.int .i64 t408)) (fun _ hk => hk.2) (.int .i64 t409)) (fun _ hk => hk.2) (.slice Ao83 t410.length co83)) (fun _ h_ => h_.1))) (Kd.R_base ho0) hb); have n2_ := Aside0.mk (Kd.R_elder' (by (with_reducible repeat (first | apply Kd.R_alloc | apply Kd.R_drewN | apply Kd.R_drew)); exact (Kd.R_mono (Kd.R_far (p := ⟨gb413, 2, none⟩) (Kd.R_far (p := ⟨gb413, 1, none⟩) (Kd.R_far (p := ⟨gb413, 0, none⟩) (Kd.R_types HO405.out BK413.out (by decide)) (fun _ hk => hk.2) (.int .i64 t408)) (fun _ hk => hk.2) (.int .i64 t409)) (fun _ hk => hk.2) (.slice Ao83 t410.length co83)) (fun _ h_ => h_.1))) (Kd.R_base ho0) hb); have n3_ := Aside0.mk (Kd.R_elder' (by (with_reducible repeat (first | apply Kd.R_alloc | apply Kd.R_drewN | apply Kd.R_drew)); exact (Kd.R_mono (Kd.R_far (p := ⟨gb413, 2, none⟩) (Kd.R_far (p := ⟨gb413, 1, none⟩) (Kd.R_far (p := ⟨gb413, 0, none⟩) (Kd.R_types HO407.out BK413.out (by decide)) (fun _ hk => hk.2) (.int .i64 t408)) (fun _ hk => hk.2) (.int .i64 t409)) (fun _ hk => hk.2) (.slice Ao83 t410.length co83)) (fun _ h_ => h_.1))) (Kd.R_base ho0) hb); have n4_ := Aside0.mk (Kd.R_elder' (by (with_reducible repeat (first | apply Kd.R_alloc | apply Kd.R_drewN | apply Kd.R_drew)); exact (Kd.R_mono (Kd.R_far (p := ⟨gb413, 2, none⟩) (Kd.R_far (p := ⟨gb413, 1, none⟩) (Kd.R_far (p := ⟨gb413, 0, none⟩) (Kd.R_types HO412.out BK413.out (by decide)) (fun _ hk => hk.2) (.int .i64 t408)) (fun _ hk => hk.2) (.int .i64 t409)) (fun _ hk => hk.2) (.slice Ao83 t410.length co83)) (fun _ h_ => h_.1))) (Kd.R_base ho0) hb); have n5_ := Aside0.mk (Kd.R_lower (Kd.R_new' (Kd.R_new' (Kd.R_new' (Kd.R_new' (Kd.R_new' ho0 (Kd.R_lt (by (with_reducible repeat (first | apply Kd.R_alloc | apply Kd.R_drewN | apply Kd.R_drew)); exact (Kd.R_mono (Kd.R_far (p := ⟨gb413, 2, none⟩) (Kd.R_far (p := ⟨gb413, 1, none⟩) (Kd.R_far (p := ⟨gb413, 0, none⟩) (Kd.R_types HO_384002.out BK413.out (by decide)) (fun _ hk => hk.2) (.int .i64 t408)) (fun _ hk => hk.2) (.int .i64 t409)) (fun _ hk => hk.2) (.slice Ao83 t410.length co83)) (fun _ h_ => h_.1))))) (Kd.R_lt (by (with_reducible repeat (first | apply Kd.R_alloc | apply Kd.R_drewN | apply Kd.R_drew)); exact (Kd.R_mono (Kd.R_far (p := ⟨gb413, 2, none⟩) (Kd.R_far (p := ⟨gb413, 1, none⟩) (Kd.R_far (p := ⟨gb413, 0, none⟩) (Kd.R_types HO_395002.out BK413.out (by decide)) (fun _ hk => hk.2) (.int .i64 t408)) (fun _ hk => hk.2) (.int .i64 t409)) (fun _ hk => hk.2) (.slice Ao83 t410.length co83)) (fun _ h_ => h_.1))))) (Kd.R_lt (by (with_reducible repeat (first | apply Kd.R_alloc | apply Kd.R_drewN | apply Kd.R_drew)); exact (Kd.R_mono (Kd.R_far (p := ⟨gb413, 2, none⟩) (Kd.R_far (p := ⟨gb413, 1, none⟩) (Kd.R_far (p := ⟨gb413, 0, none⟩) (Kd.R_types HO405.out BK413.out (by decide)) (fun _ hk => hk.2) (.int .i64 t408)) (fun _ hk => hk.2) (.int .i64 t409)) (fun _ hk => hk.2) (.slice Ao83 t410.length co83)) (fun _ h_ => h_.1))))) (Kd.R_lt (by (with_reducible repeat (first | apply Kd.R_alloc | apply Kd.R_drewN | apply Kd.R_drew)); exact (Kd.R_mono (Kd.R_far (p := ⟨gb413, 2, none⟩) (Kd.R_far (p := ⟨gb413, 1, none⟩) (Kd.R_far (p := ⟨gb413, 0, none⟩) (Kd.R_types HO407.out BK413.out (by decide)) (fun _ hk => hk.2) (.int .i64 t408)) (fun _ hk => hk.2) (.int .i64 t409)) (fun _ hk => hk.2) (.slice Ao83 t410.length co83)) (fun _ h_ => h_.1))))) (Kd.R_lt (by (with_reducible repeat (first | apply Kd.R_alloc | apply Kd.R_drewN | apply Kd.R_drew)); exact (Kd.R_mono (Kd.R_far (p := ⟨gb413, 2, none⟩) (Kd.R_far (p := ⟨gb413, 1, none⟩) (Kd.R_far (p := ⟨gb413, 0, none⟩) (Kd.R_types HO412.out BK413.out (by decide)) (fun _ hk => hk.2) (.int .i64 t408)) (fun _ hk => hk.2) (.int .i64 t409)) (fun _ hk => hk.2) (.slice Ao83 t410.length co83)) (fun _ h_ => h_.1))))) (below_size (by repeat (first | (with_reducible first | exact HB.out | apply below_alloc | apply pw_below_drewN | apply below_drew1 | refine below_set ?_ GE383.out | refine below_set ?_ GE394.out | refine below_set ?_ GE413.out) | exact HB.out)))); have n6_ := Aside0.mk (blk_below (g := gb383) (o := .cells #[.int .i64 t378, .int .i64 t379, .slice Ao11 t380.length co11] 28 (0, 0)) (by (with_reducible repeat (first | refine blk_drewN ?_ _ | refine blk_drew ?_ | refine blk_alloc ?_ _)); refine blk_far ?_ NB383_413.out _; (with_reducible repeat (first | refine blk_drewN ?_ _ | refine blk_drew ?_ | refine blk_alloc ?_ _)); refine blk_far ?_ NB383_413.out _; (with_reducible repeat (first | refine blk_drewN ?_ _ | refine blk_drew ?_ | refine blk_alloc ?_ _)); refine blk_far ?_ NB383_413.out _; (with_reducible repeat (first | refine blk_drewN ?_ _ | refine blk_drew ?_ | refine blk_alloc ?_ _)); exact BK383.out) hb); have n7_ := Aside0.mk (blk_below (g := gb394) (o := .cells #[.int .i64 t388, .int .i64 t389, .slice Ao19 t390.length co19] 28 (0, 0)) (by (with_reducible repeat (first | refine blk_drewN ?_ _ | refine blk_drew ?_ | refine blk_alloc ?_ _)); refine blk_far ?_ NB394_413.out _; (with_reducible repeat (first | refine blk_drewN ?_ _ | refine blk_drew ?_ | refine blk_alloc ?_ _)); refine blk_far ?_ NB394_413.out _; (with_reducible repeat (first | refine blk_drewN ?_ _ | refine blk_drew ?_ | refine blk_alloc ?_ _)); refine blk_far ?_ NB394_413.out _; (with_reducible repeat (first | refine blk_drewN ?_ _ | refine blk_drew ?_ | refine blk_alloc ?_ _)); exact BK394.out) hb); have n8_ := Aside0.mk (blk_below (g := gb413) (o := .cells #[.int .i64 t408, .int .i64 t409, .slice Ao83 t410.length co83] 28 (0, 0)) (by (with_reducible repeat (first | refine blk_drewN ?_ _ | refine blk_drew ?_ | refine blk_alloc ?_ _)); refine blk_put (cs := #[.int .i64 t408, .int .i64 t409, .slice none 0 0]) ?_ 2 _ rfl; (with_reducible repeat (first | refine blk_drewN ?_ _ | refine blk_drew ?_ | refine blk_alloc ?_ _)); refine blk_put (cs := #[.int .i64 t408, .int .i64 0, .slice none 0 0]) ?_ 1 _ rfl; (with_reducible repeat (first | refine blk_drewN ?_ _ | refine blk_drew ?_ | refine blk_alloc ?_ _)); refine blk_put (cs := #[.int .i64 0, .int .i64 0, .slice none 0 0]) ?_ 0 _ rfl; (with_reducible repeat (first | refine blk_drewN ?_ _ | refine blk_drew ?_ | refine blk_alloc ?_ _)); exact BK413.out) hb); have n9_ := Aside0.mk (below_step (by repeat (first | (with_reducible first | exact HB.out | apply below_alloc | apply pw_below_drewN | apply below_drew1 | refine below_set ?_ GE383.out | refine below_set ?_ GE394.out | refine below_set ?_ GE413.out) | exact HB.out)) hb); clear HO_384002; clear HO_395002; clear HO405; clear HO407; clear HO412; clear BK383; clear BK394; clear BK413; clear HB; have HO_384002 := n0_; have HO_395002 := n1_; have HO405 := n2_; have HO407 := n3_; have HO412 := n4_; have HO416 := n5_; have BK383 := n6_; have BK394 := n7_; have BK413 := n8_; have HB := n9_; clear n0_ n1_ n2_ n3_ n4_ n5_ n6_ n7_ n8_ n9_; (try clear hb); (try clear hb2); (try clear hk); (try clear hi); (try clear ho0); obtain ⟨Ao122, co122, eo122⟩ := Kd.R_slice HO416.out; subst eo122) | (go_at_call 41; (with_reducible refine (laws_sameInts.calls kj51 _ _ t414 _ _ t403 true _ ?side1 ?side2 ?side3 ?side4 A87.out).mono ?_); (case side1 => repeat (first | exact (Kd.R_reads' HO416.out).2.2 | (with_reducible refine Kd.C_alloc ?_ _) | (with_reducible refine Kd.C_drewN ?_ _) | (with_reducible refine Kd.C_drew ?_))); (case side2 => exact (Kd.R_reads' HO416.out).2.1); (case side3 => repeat (first | exact (Kd.R_reads' HO407.out).2.2 | (with_reducible refine Kd.C_alloc ?_ _) | (with_reducible refine Kd.C_drewN ?_ _) | (with_reducible refine Kd.C_drew ?_))); (case side4 => exact (Kd.R_reads' HO407.out).2.1); rintro e w' ⟨rfl, ⟨nd, rfl⟩⟩; have hcz123_0 : w121.cell? ⟨gb413, 0, none⟩ = some (.int .i64 t408) := (blk_cell BK413.out 0).trans rfl; have hcz123_1 : w121.cell? ⟨gb413, 1, none⟩ = some (.int .i64 t409) := (blk_cell BK413.out 1).trans rfl; have hcz123_2 : w121.cell? ⟨gb413, 2, none⟩ = some (.slice Ao83 t410.length co83) := (blk_cell BK413.out 2).trans rfl; have hfz123_0 := blk_frozen BK413.out 0; have hfz123_1 := blk_frozen BK413.out 1; have hfz123_2 := blk_frozen BK413.out 2) | (go_at_call 41; (with_reducible refine (laws_sameInts.calls kj51 _ _ t402 _ _ t403 false _ ?side1 ?side2 ?side3 ?side4 A96.out).mono ?_); (case side1 => repeat (first | exact (Kd.R_reads' HO405.out).2.2 | (with_reducible refine Kd.C_alloc ?_ _) | (with_reducible refine Kd.C_drewN ?_ _) | (with_reducible refine Kd.C_drew ?_))); (case side2 => exact (Kd.R_reads' HO405.out).2.1); (case side3 => repeat (first | exact (Kd.R_reads' HO407.out).2.2 | (with_reducible refine Kd.C_alloc ?_ _) | (with_reducible refine Kd.C_drewN ?_ _) | (with_reducible refine Kd.C_drew ?_))); (case side4 => exact (Kd.R_reads' HO407.out).2.1); rintro e w' ⟨rfl, ⟨nd, rfl⟩⟩))
                              go_meet
                              case rel => exact ⟨_, H', ⟨by have := HJ6.out; have := HJ49.out; have := HJ51.out; first | omega | exact Nat.le_refl _⟩, ⟨by (with_reducible repeat (first | apply Kd.R_alloc | apply Kd.R_drewN | apply Kd.R_drew)); exact Kd.R_mono HO_384002.out (fun _ hk => ⟨hk.1.1.1.1, hk.1.2⟩)⟩, ⟨by (with_reducible repeat (first | apply Kd.R_alloc | apply Kd.R_drewN | apply Kd.R_drew)); exact Kd.R_mono HO_395002.out (fun _ hk => ⟨hk.1.1.1.1, hk.1.2⟩)⟩, ⟨by (with_reducible repeat (first | apply Kd.R_alloc | apply Kd.R_drewN | apply Kd.R_drew)); exact Kd.R_mono HO412.out (fun _ hk => ⟨hk.1.1.1.1.2, hk.1.1.1.2⟩)⟩, ⟨by (with_reducible repeat (first | refine blk_drewN ?_ _ | refine blk_drew ?_ | refine blk_alloc ?_ _)); exact BK383.out⟩, ⟨by (with_reducible repeat (first | refine blk_drewN ?_ _ | refine blk_drew ?_ | refine blk_alloc ?_ _)); exact BK394.out⟩, ⟨by (with_reducible repeat (first | refine blk_drewN ?_ _ | refine blk_drew ?_ | refine blk_alloc ?_ _)); exact BK413.out⟩, ⟨by repeat (first | (with_reducible first | exact HB.out | apply below_alloc | apply pw_below_drewN | apply below_drew1 | refine below_set ?_ GE383.out | refine below_set ?_ GE394.out | refine below_set ?_ GE413.out) | exact HB.out)⟩⟩
                        · replace c88 := Bool.eq_false_iff.mpr c88
                          subst c88
                          have H1 : (some false) = some r := by rw [if_neg (show ¬ (false = true) by decide)] at H; exact H
                          clear H
                          have H := H1
                          clear H1
                          exact absurd ((Option.some.inj H).trans hr_) (by decide)
                      · replace c86 := Bool.eq_false_iff.mpr c86
                        subst c86
                        have H1 : (some false) = some r := by rw [if_neg (show ¬ (false = true) by decide)] at H; exact H
                        clear H
                        have H := H1
                        clear H1
                        exact absurd ((Option.some.inj H).trans hr_) (by decide)
                    · rw [if_neg c84] at H
                      have c84b0 : decide ((t403.length : Int) ≤ 60) = false := decide_eq_false c84
                      have c84b1 : decide (t403.length ≤ 60) = false := decide_eq_false (by omega)
                      clear c84
                      (first | rw [c84b0] | (simp only [i64_w, i32_w]; rw [c84b0]) | skip)
                      have H' := Aside0.mk H
                      clear H
                      go_wp2
                      go_meet
                      case rel => exact ⟨_, H', ⟨by have := HJ6.out; have := HJ49.out; have := HJ51.out; first | omega | exact Nat.le_refl _⟩, ⟨by (with_reducible repeat (first | apply Kd.R_alloc | apply Kd.R_drewN | apply Kd.R_drew)); exact Kd.R_mono (Kd.R_far (p := ⟨gb413, 2, none⟩) (Kd.R_far (p := ⟨gb413, 1, none⟩) (Kd.R_far (p := ⟨gb413, 0, none⟩) (Kd.R_types HO_384002.out BK413.out (by decide)) (fun _ hk => hk.2) (.int .i64 t408)) (fun _ hk => hk.2) (.int .i64 t409)) (fun _ hk => hk.2) (.slice Ao83 t410.length co83)) (fun _ hk => ⟨hk.1.1.1.1, hk.1.2⟩)⟩, ⟨by (with_reducible repeat (first | apply Kd.R_alloc | apply Kd.R_drewN | apply Kd.R_drew)); exact Kd.R_mono (Kd.R_far (p := ⟨gb413, 2, none⟩) (Kd.R_far (p := ⟨gb413, 1, none⟩) (Kd.R_far (p := ⟨gb413, 0, none⟩) (Kd.R_types HO_395002.out BK413.out (by decide)) (fun _ hk => hk.2) (.int .i64 t408)) (fun _ hk => hk.2) (.int .i64 t409)) (fun _ hk => hk.2) (.slice Ao83 t410.length co83)) (fun _ hk => ⟨hk.1.1.1.1, hk.1.2⟩)⟩, ⟨by (with_reducible repeat (first | apply Kd.R_alloc | apply Kd.R_drewN | apply Kd.R_drew)); exact Kd.R_mono (Kd.R_far (p := ⟨gb413, 2, none⟩) (Kd.R_far (p := ⟨gb413, 1, none⟩) (Kd.R_far (p := ⟨gb413, 0, none⟩) (Kd.R_types HO412.out BK413.out (by decide)) (fun _ hk => hk.2) (.int .i64 t408)) (fun _ hk => hk.2) (.int .i64 t409)) (fun _ hk => hk.2) (.slice Ao83 t410.length co83)) (fun _ hk => ⟨hk.1.1.1.1.2, hk.1.1.1.2⟩)⟩, ⟨by (with_reducible repeat (first | refine blk_drewN ?_ _ | refine blk_drew ?_ | refine blk_alloc ?_ _)); refine blk_far ?_ NB383_413.out _; (with_reducible repeat (first | refine blk_drewN ?_ _ | refine blk_drew ?_ | refine blk_alloc ?_ _)); refine blk_far ?_ NB383_413.out _; (with_reducible repeat (first | refine blk_drewN ?_ _ | refine blk_drew ?_ | refine blk_alloc ?_ _)); refine blk_far ?_ NB383_413.out _; (with_reducible repeat (first | refine blk_drewN ?_ _ | refine blk_drew ?_ | refine blk_alloc ?_ _)); exact BK383.out⟩, ⟨by (with_reducible repeat (first | refine blk_drewN ?_ _ | refine blk_drew ?_ | refine blk_alloc ?_ _)); refine blk_far ?_ NB394_413.out _; (with_reducible repeat (first | refine blk_drewN ?_ _ | refine blk_drew ?_ | refine blk_alloc ?_ _)); refine blk_far ?_ NB394_413.out _; (with_reducible repeat (first | refine blk_drewN ?_ _ | refine blk_drew ?_ | refine blk_alloc ?_ _)); refine blk_far ?_ NB394_413.out _; (with_reducible repeat (first | refine blk_drewN ?_ _ | refine blk_drew ?_ | refine blk_alloc ?_ _)); exact BK394.out⟩, ⟨by (with_reducible repeat (first | refine blk_drewN ?_ _ | refine blk_drew ?_ | refine blk_alloc ?_ _)); refine blk_put (cs := #[.int .i64 t408, .int .i64 t409, .slice none 0 0]) ?_ 2 _ rfl; (with_reducible repeat (first | refine blk_drewN ?_ _ | refine blk_drew ?_ | refine blk_alloc ?_ _)); refine blk_put (cs := #[.int .i64 t408, .int .i64 0, .slice none 0 0]) ?_ 1 _ rfl; (with_reducible repeat (first | refine blk_drewN ?_ _ | refine blk_drew ?_ | refine blk_alloc ?_ _)); refine blk_put (cs := #[.int .i64 0, .int .i64 0, .slice none 0 0]) ?_ 0 _ rfl; (with_reducible repeat (first | refine blk_drewN ?_ _ | refine blk_drew ?_ | refine blk_alloc ?_ _)); exact BK413.out⟩, ⟨by repeat (first | (with_reducible first | exact HB.out | apply below_alloc | apply pw_below_drewN | apply below_drew1 | refine below_set ?_ GE383.out | refine below_set ?_ GE394.out | refine below_set ?_ GE413.out) | exact HB.out)⟩⟩
                  case rest =>
                    clear HC74
                    try clear c1
                    try clear c2
                    try clear p2
                    try clear c3
                    try clear c4
                    try clear c5
                    try clear c6
                    try clear p6
                    try clear c8
                    try clear c9
                    try clear c10
                    try clear c11
                    try clear c12
                    try clear c13
                    try clear c17
                    try clear c20
                    try clear c20b0
                    try clear c20b1
                    try clear c20b2
                    try clear c22
                    try clear c22b0
                    try clear c22b1
                    try clear c22b2
                    try clear c23
                    try clear c24
                    try clear c26
                    try clear c27
                    try clear c27b0
                    try clear c27b1
                    try clear c28
                    try clear c28b0
                    try clear c28b1
                    try clear c29
                    try clear c31
                    try clear c34
                    try clear c39
                    try clear c40
                    try clear c42
                    try clear c45
                    try clear c49
                    try clear c51
                    try clear c53
                    try clear c55
                    try clear c57
                    try clear c58
                    try clear c63
                    try clear p64
                    try clear c68
                    try clear c80
                    try clear c81
                    try clear c84
                    try clear c84b0
                    try clear c84b1
                    try clear c86
                    try clear c88
                    try clear c89
                    try clear c89b0
                    try clear c90
                    try clear c91
                    try clear c97
                    try clear c98
                    try clear c98b0
                    try clear c98b1
                    try clear c99
                    try clear c99b0
                    try clear c99b1
                    try clear c99b2
                    try clear c100
                    try clear c101
                    try clear c106
                    try clear c107
                    try clear c112
                    try clear c113
                    try clear c118
                    try clear c119
                    try clear c124
                    try clear c125
                    try clear c129
                    try clear c130
                    try clear hcz102_0
                    try clear hcz102_1
                    try clear hcz102_2
                    try clear hcz105_0
                    try clear hcz105_1
                    try clear hcz105_2
                    try clear hcz108_0
                    try clear hcz108_1
                    try clear hcz108_2
                    try clear hcz10_0
                    try clear hcz10_1
                    try clear hcz10_2
                    try clear hcz111_0
                    try clear hcz111_1
                    try clear hcz111_2
                    try clear hcz114_0
                    try clear hcz114_1
                    try clear hcz114_2
                    try clear hcz117_0
                    try clear hcz117_1
                    try clear hcz117_2
                    try clear hcz120_0
                    try clear hcz120_1
                    try clear hcz120_2
                    try clear hcz123_0
                    try clear hcz123_1
                    try clear hcz123_2
                    try clear hcz126_0
                    try clear hcz126_1
                    try clear hcz126_2
                    try clear hcz131_0
                    try clear hcz131_1
                    try clear hcz131_2
                    try clear hcz14_0
                    try clear hcz14_1
                    try clear hcz14_2
                    try clear hcz18_0
                    try clear hcz18_1
                    try clear hcz18_2
                    try clear hcz24_0
                    try clear hcz24_1
                    try clear hcz24_2
                    try clear hcz30_0
                    try clear hcz30_1
                    try clear hcz30_2
                    try clear hcz33_0
                    try clear hcz33_1
                    try clear hcz33_2
                    try clear hcz35_0
                    try clear hcz35_1
                    try clear hcz35_2
                    try clear hcz38_0
                    try clear hcz38_1
                    try clear hcz38_2
                    try clear hcz40_0
                    try clear hcz40_1
                    try clear hcz40_2
                    try clear hcz43_0
                    try clear hcz43_1
                    try clear hcz43_2
                    try clear hcz46_0
                    try clear hcz46_1
                    try clear hcz46_2
                    try clear hcz59_0
                    try clear hcz59_1
                    try clear hcz59_2
                    try clear hcz64_0
                    try clear hcz64_1
                    try clear hcz64_2
                    try clear hcz69_0
                    try clear hcz69_1
                    try clear hcz69_2
                    try clear hcz82_0
                    try clear hcz82_1
                    try clear hcz82_2
                    try clear hcz92_0
                    try clear hcz92_1
                    try clear hcz92_2
                    try clear hcz95_0
                    try clear hcz95_1
                    try clear hcz95_2
                    try clear hfz102_0
                    try clear hfz102_1
                    try clear hfz102_2
                    try clear hfz105_0
                    try clear hfz105_1
                    try clear hfz105_2
                    try clear hfz108_0
                    try clear hfz108_1
                    try clear hfz108_2
                    try clear hfz10_0
                    try clear hfz10_1
                    try clear hfz10_2
                    try clear hfz111_0
                    try clear hfz111_1
                    try clear hfz111_2
                    try clear hfz114_0
                    try clear hfz114_1
                    try clear hfz114_2
                    try clear hfz117_0
                    try clear hfz117_1
                    try clear hfz117_2
                    try clear hfz120_0
                    try clear hfz120_1
                    try clear hfz120_2
                    try clear hfz123_0
                    try clear hfz123_1
                    try clear hfz123_2
                    try clear hfz126_0
                    try clear hfz126_1
                    try clear hfz126_2
                    try clear hfz131_0
                    try clear hfz131_1
                    try clear hfz131_2
                    try clear hfz14_0
                    try clear hfz14_1
                    try clear hfz14_2
                    try clear hfz18_0
                    try clear hfz18_1
                    try clear hfz18_2
                    try clear hfz24_0
                    try clear hfz24_1
                    try clear hfz24_2
                    try clear hfz30_0
                    try clear hfz30_1
                    try clear hfz30_2
                    try clear hfz33_0
                    try clear hfz33_1
                    try clear hfz33_2
                    try clear hfz35_0
                    try clear hfz35_1
                    try clear hfz35_2
                    try clear hfz38_0
                    try clear hfz38_1
                    try clear hfz38_2
                    try clear hfz40_0
                    try clear hfz40_1
                    try clear hfz40_2
                    try clear hfz43_0
                    try clear hfz43_1
                    try clear hfz43_2
                    try clear hfz46_0
                    try clear hfz46_1
                    try clear hfz46_2
                    try clear hfz59_0
                    try clear hfz59_1
                    try clear hfz59_2
                    try clear hfz64_0
                    try clear hfz64_1
                    try clear hfz64_2
                    try clear hfz69_0
                    try clear hfz69_1
                    try clear hfz69_2
                    try clear hfz82_0
                    try clear hfz82_1
                    try clear hfz82_2
                    try clear hfz92_0
                    try clear hfz92_1
                    try clear hfz92_2
                    try clear hfz95_0
                    try clear hfz95_1
                    try clear hfz95_2
                    try clear p2
                    try clear p6
                    try clear p64
                    obtain ⟨kq, HA, HJ73, HO_384002, HO_395002, HO_414002, BK383, BK394, BK413, HB⟩ := hcut
                    cases kq with
                    | zero => exact absurd HA.out (by simp [laws_FnAmendments.j3])
                    | succ kj73 =>
                      have H := HA.out
                      clear HA
                      simp only [laws_FnAmendments.j3] at H
                      replace H := Option.bind_eq_some_iff.mp H
                      obtain ⟨⟨t420, t421⟩, A1330, H⟩ := H
                      replace H : ((impl_AmendAll.f kj73 t420 t421).bind fun bt426 => ((spec_DrawClash.f kj73 l0).bind fun bt430 => (if bt426.2 ≥ 0 then (if bt426.2 ≤ (t421.length : Int) then ((impl_Clash.f bt430.1 bt430.2.1 bt430.2.2.1 bt430.2.2.2.1 bt430.2.2.2.2.1 bt430.2.2.2.2.2).bind fun t442 => ((impl_Clash.f bt430.2.2.2.1 bt430.2.2.2.2.1 bt430.2.2.2.2.2 bt430.1 bt430.2.1 bt430.2.2.1).bind fun t443 => (some (t442 == t443)))) else (some false)) else (some false)))) = some r := H
                      have A133 := Aside0.mk A1330
                      clear A1330
                      replace H := Option.bind_eq_some_iff.mp H
                      obtain ⟨⟨t426, t427⟩, A1340, H⟩ := H
                      replace H : ((spec_DrawClash.f kj73 l0).bind fun bt430 => (if t427 ≥ 0 then (if t427 ≤ (t421.length : Int) then ((impl_Clash.f bt430.1 bt430.2.1 bt430.2.2.1 bt430.2.2.2.1 bt430.2.2.2.2.1 bt430.2.2.2.2.2).bind fun t442 => ((impl_Clash.f bt430.2.2.2.1 bt430.2.2.2.2.1 bt430.2.2.2.2.2 bt430.1 bt430.2.1 bt430.2.2.1).bind fun t443 => (some (t442 == t443)))) else (some false)) else (some false))) = some r := H
                      have A134 := Aside0.mk A1340
                      clear A1340
                      replace H := Option.bind_eq_some_iff.mp H
                      obtain ⟨⟨t430, t431, t432, t435, t436, t437⟩, A1350, H⟩ := H
                      replace H : (if t427 ≥ 0 then (if t427 ≤ (t421.length : Int) then ((impl_Clash.f t430 t431 t432 t435 t436 t437).bind fun t442 => ((impl_Clash.f t435 t436 t437 t430 t431 t432).bind fun t443 => (some (t442 == t443)))) else (some false)) else (some false)) = some r := H
                      have A135 := Aside0.mk A1350
                      clear A1350
                      by_cases c136 : t427 ≥ 0
                      · rw [if_pos c136] at H
                        have c136b0 : decide (0 ≤ t427) = true := decide_eq_true c136
                        clear c136
                        by_cases c137 : t427 ≤ (t421.length : Int)
                        · rw [if_pos c137] at H
                          have c137b0 : decide (t427 ≤ (t421.length : Int)) = true := decide_eq_true c137
                          clear c137
                          replace H := Option.bind_eq_some_iff.mp H
                          obtain ⟨t442, A1380, H⟩ := H
                          replace H : ((impl_Clash.f t435 t436 t437 t430 t431 t432).bind fun t443 => (some (t442 == t443))) = some r := H
                          have A138 := Aside0.mk A1380
                          clear A1380
                          replace H := Option.bind_eq_some_iff.mp H
                          obtain ⟨t443, A1390, H⟩ := H
                          replace H : (some (t442 == t443)) = some r := H
                          have A139 := Aside0.mk A1390
                          clear A1390
                          obtain rfl := Option.some.inj H
                          try go_wp2_with (first | ((with_reducible refine gate_callee (f := 43) rfl ?_); refine goesL_ (some 153) rfl rfl Try.func43 (by kernel_rfl) rfl #[.slice A0 l0.length c0] rfl (by (try simp only [List.map_toArray, List.map_cons, List.map_nil]); first | done | rfl | (simp only [List.length_drop, List.length_take]; rfl)) ?_; (with_reducible refine (spec_DrawAmendAll.calls kj73 _ _ l0 t420 t421 _ ?side1 ?side2 A133.out).mono ?_); (case side1 => repeat (first | exact (Kd.C_below HR0.out HB.out) | (with_reducible refine Kd.C_alloc ?_ _) | (with_reducible refine Kd.C_drewN ?_ _) | (with_reducible refine Kd.C_drew ?_))); (case side2 => exact HC0.out); rintro e w140 ⟨v422, v424, rfl, ho0, ho1, hb⟩; refine ⟨_, rfl, ?_⟩; have n0_ := Aside0.mk (Kd.R_elder' (by (with_reducible repeat (first | apply Kd.R_alloc | apply Kd.R_drewN | apply Kd.R_drew)); exact HO_384002.out) (Kd.R_base ho0) hb); have n1_ := Aside0.mk (Kd.R_elder' (by (with_reducible repeat (first | apply Kd.R_alloc | apply Kd.R_drewN | apply Kd.R_drew)); exact HO_395002.out) (Kd.R_base ho0) hb); have n2_ := Aside0.mk (Kd.R_elder' (by (with_reducible repeat (first | apply Kd.R_alloc | apply Kd.R_drewN | apply Kd.R_drew)); exact HO_414002.out) (Kd.R_base ho0) hb); have n3_ := Aside0.mk (Kd.R_lower (Kd.R_new' (Kd.R_new' (Kd.R_new' ho0 (Kd.R_lt (by (with_reducible repeat (first | apply Kd.R_alloc | apply Kd.R_drewN | apply Kd.R_drew)); exact HO_384002.out))) (Kd.R_lt (by (with_reducible repeat (first | apply Kd.R_alloc | apply Kd.R_drewN | apply Kd.R_drew)); exact HO_395002.out))) (Kd.R_lt (by (with_reducible repeat (first | apply Kd.R_alloc | apply Kd.R_drewN | apply Kd.R_drew)); exact HO_414002.out))) (below_size (by repeat (first | (with_reducible first | exact HB.out | apply below_alloc | apply pw_below_drewN | apply below_drew1 | refine below_set ?_ GE383.out | refine below_set ?_ GE394.out | refine below_set ?_ GE413.out) | exact HB.out)))); have n4_ := Aside0.mk (Kd.S_lower (Kd.S_newB (Kd.S_newB (Kd.S_newB (Kd.S_new' (Kd.S_new' (Kd.S_new' ho1 (Kd.R_lt (by (with_reducible repeat (first | apply Kd.R_alloc | apply Kd.R_drewN | apply Kd.R_drew)); exact HO_384002.out))) (Kd.R_lt (by (with_reducible repeat (first | apply Kd.R_alloc | apply Kd.R_drewN | apply Kd.R_drew)); exact HO_395002.out))) (Kd.R_lt (by (with_reducible repeat (first | apply Kd.R_alloc | apply Kd.R_drewN | apply Kd.R_drew)); exact HO_414002.out))) (g := gb383) (o := .cells #[.int .i64 t378, .int .i64 t379, .slice Ao11 t380.length co11] 28 (0, 0)) (by (with_reducible repeat (first | refine blk_drewN ?_ _ | refine blk_drew ?_ | refine blk_alloc ?_ _)); exact BK383.out)) (g := gb394) (o := .cells #[.int .i64 t388, .int .i64 t389, .slice Ao19 t390.length co19] 28 (0, 0)) (by (with_reducible repeat (first | refine blk_drewN ?_ _ | refine blk_drew ?_ | refine blk_alloc ?_ _)); exact BK394.out)) (g := gb413) (o := .cells #[.int .i64 t408, .int .i64 t409, .slice Ao83 t410.length co83] 28 (0, 0)) (by (with_reducible repeat (first | refine blk_drewN ?_ _ | refine blk_drew ?_ | refine blk_alloc ?_ _)); exact BK413.out)) (below_size (by repeat (first | (with_reducible first | exact HB.out | apply below_alloc | apply pw_below_drewN | apply below_drew1 | refine below_set ?_ GE383.out | refine below_set ?_ GE394.out | refine below_set ?_ GE413.out) | exact HB.out)))); have n5_ := Aside0.mk (blk_below (g := gb383) (o := .cells #[.int .i64 t378, .int .i64 t379, .slice Ao11 t380.length co11] 28 (0, 0)) (by (with_reducible repeat (first | refine blk_drewN ?_ _ | refine blk_drew ?_ | refine blk_alloc ?_ _)); exact BK383.out) hb); have n6_ := Aside0.mk (blk_below (g := gb394) (o := .cells #[.int .i64 t388, .int .i64 t389, .slice Ao19 t390.length co19] 28 (0, 0)) (by (with_reducible repeat (first | refine blk_drewN ?_ _ | refine blk_drew ?_ | refine blk_alloc ?_ _)); exact BK394.out) hb); have n7_ := Aside0.mk (blk_below (g := gb413) (o := .cells #[.int .i64 t408, .int .i64 t409, .slice Ao83 t410.length co83] 28 (0, 0)) (by (with_reducible repeat (first | refine blk_drewN ?_ _ | refine blk_drew ?_ | refine blk_alloc ?_ _)); exact BK413.out) hb); have n8_ := Aside0.mk (below_step (by repeat (first | (with_reducible first | exact HB.out | apply below_alloc | apply pw_below_drewN | apply below_drew1 | refine below_set ?_ GE383.out | refine below_set ?_ GE394.out | refine below_set ?_ GE413.out) | exact HB.out)) hb); clear HO_384002; clear HO_395002; clear HO_414002; clear BK383; clear BK394; clear BK413; clear HB; have HO_384002 := n0_; have HO_395002 := n1_; have HO_414002 := n2_; have HO423 := n3_; have HO425 := n4_; have BK383 := n5_; have BK394 := n6_; have BK413 := n7_; have HB := n8_; clear n0_ n1_ n2_ n3_ n4_ n5_ n6_ n7_ n8_; (try clear hb); (try clear hb2); (try clear hk); (try clear hi); (try clear ho0); (try clear ho1); obtain ⟨Ao141, co141, eo141⟩ := Kd.R_slice HO423.out; subst eo141; obtain ⟨Ao142, co142, eo142⟩ := Kd.S_slice HO425.out; subst eo142) | ((with_reducible refine gate_callee (f := 36) rfl ?_); refine goesL_ (some 159) rfl rfl Try.func36 (by kernel_rfl) rfl #[.slice Ao141 t420.length co141, .slice Ao142 t421.length co142] rfl (by (try simp only [List.map_toArray, List.map_cons, List.map_nil]); first | done | rfl | (simp only [List.length_drop, List.length_take]; rfl)) ?_; (with_reducible refine (impl_AmendAll.calls kj73 _ _ t420 _ _ t421 t426 t427 _ ?side1 ?side2 ?side3 ?side4 A134.out).mono ?_); (case side1 => repeat (first | exact (Kd.R_reads' HO423.out).2.2 | (with_reducible refine Kd.C_alloc ?_ _) | (with_reducible refine Kd.C_drewN ?_ _) | (with_reducible refine Kd.C_drew ?_))); (case side2 => exact (Kd.R_reads' HO423.out).2.1); (case side3 => repeat (first | exact (Kd.S_reads' HO425.out).2.2 | (with_reducible refine Kd.C_alloc ?_ _) | (with_reducible refine Kd.C_drewN ?_ _) | (with_reducible refine Kd.C_drew ?_))); (case side4 => exact (Kd.S_reads' HO425.out).2.1); rintro e w143 ⟨v428, rfl, ho0, hb⟩; refine ⟨_, rfl, ?_⟩; have n0_ := Aside0.mk (Kd.R_elder' (by (with_reducible repeat (first | apply Kd.R_alloc | apply Kd.R_drewN | apply Kd.R_drew)); exact HO_384002.out) (Kd.R_base ho0) hb); have n1_ := Aside0.mk (Kd.R_elder' (by (with_reducible repeat (first | apply Kd.R_alloc | apply Kd.R_drewN | apply Kd.R_drew)); exact HO_395002.out) (Kd.R_base ho0) hb); have n2_ := Aside0.mk (Kd.R_elder' (by (with_reducible repeat (first | apply Kd.R_alloc | apply Kd.R_drewN | apply Kd.R_drew)); exact HO_414002.out) (Kd.R_base ho0) hb); have n3_ := Aside0.mk (Kd.R_elder' (by (with_reducible repeat (first | apply Kd.R_alloc | apply Kd.R_drewN | apply Kd.R_drew)); exact HO423.out) (Kd.R_base ho0) hb); have n4_ := Aside0.mk (Kd.S_elder' (by (with_reducible repeat (first | apply Kd.S_alloc | apply Kd.S_drewN | apply Kd.S_drew)); exact HO425.out) (Kd.R_base ho0) hb); have n5_ := Aside0.mk (Kd.R_lower (Kd.R_new' (Kd.R_new' (Kd.R_new' (Kd.R_new' ho0 (Kd.R_lt (by (with_reducible repeat (first | apply Kd.R_alloc | apply Kd.R_drewN | apply Kd.R_drew)); exact HO_384002.out))) (Kd.R_lt (by (with_reducible repeat (first | apply Kd.R_alloc | apply Kd.R_drewN | apply Kd.R_drew)); exact HO_395002.out))) (Kd.R_lt (by (with_reducible repeat (first | apply Kd.R_alloc | apply Kd.R_drewN | apply Kd.R_drew)); exact HO_414002.out))) (Kd.R_lt (by (with_reducible repeat (first | apply Kd.R_alloc | apply Kd.R_drewN | apply Kd.R_drew)); exact HO423.out))) (below_size (by repeat (first | (with_reducible first | exact HB.out | apply below_alloc | apply pw_below_drewN | apply below_drew1 | refine below_set ?_ GE383.out | refine below_set ?_ GE394.out | refine below_set ?_ GE413.out) | exact HB.out)))); have n6_ := Aside0.mk (blk_below (g := gb383) (o := .cells #[.int .i64 t378, .int .i64 t379, .slice Ao11 t380.length co11] 28 (0, 0)) (by (with_reducible repeat (first | refine blk_drewN ?_ _ | refine blk_drew ?_ | refine blk_alloc ?_ _)); exact BK383.out) hb); have n7_ := Aside0.mk (blk_below (g := gb394) (o := .cells #[.int .i64 t388, .int .i64 t389, .slice Ao19 t390.length co19] 28 (0, 0)) (by (with_reducible repeat (first | refine blk_drewN ?_ _ | refine blk_drew ?_ | refine blk_alloc ?_ _)); exact BK394.out) hb); have n8_ := Aside0.mk (blk_below (g := gb413) (o := .cells #[.int .i64 t408, .int .i64 t409, .slice Ao83 t410.length co83] 28 (0, 0)) (by (with_reducible repeat (first | refine blk_drewN ?_ _ | refine blk_drew ?_ | refine blk_alloc ?_ _)); exact BK413.out) hb); have n9_ := Aside0.mk (below_step (by repeat (first | (with_reducible first | exact HB.out | apply below_alloc | apply pw_below_drewN | apply below_drew1 | refine below_set ?_ GE383.out | refine below_set ?_ GE394.out | refine below_set ?_ GE413.out) | exact HB.out)) hb); clear HO_384002; clear HO_395002; clear HO_414002; clear HO423; clear HO425; clear BK383; clear BK394; clear BK413; clear HB; have HO_384002 := n0_; have HO_395002 := n1_; have HO_414002 := n2_; have HO423 := n3_; have HO425 := n4_; have HO429 := n5_; have BK383 := n6_; have BK394 := n7_; have BK413 := n8_; have HB := n9_; clear n0_ n1_ n2_ n3_ n4_ n5_ n6_ n7_ n8_ n9_; (try clear hb); (try clear hb2); (try clear hk); (try clear hi); (try clear ho0)) | ((with_reducible refine gate_callee (f := 44) rfl ?_); refine goesL_ (some 164) rfl rfl Try.func44 (by kernel_rfl) rfl #[.slice A0 l0.length c0] rfl (by (try simp only [List.map_toArray, List.map_cons, List.map_nil]); first | done | rfl | (simp only [List.length_drop, List.length_take]; rfl)) ?_; (with_reducible refine (spec_DrawClash.calls kj73 _ _ l0 t430 t431 t432 t435 t436 t437 _ ?side1 ?side2 A135.out).mono ?_); (case side1 => repeat (first | exact (Kd.C_below HR0.out HB.out) | (with_reducible refine Kd.C_alloc ?_ _) | (with_reducible refine Kd.C_drewN ?_ _) | (with_reducible refine Kd.C_drew ?_))); (case side2 => exact HC0.out); rintro e w144 ⟨v433, v438, rfl, ho0, ho1, hb⟩; refine ⟨_, rfl, ?_⟩; have n0_ := Aside0.mk (Kd.R_mono (Kd.R_told (Kd.R_told (Kd.R_old (by (with_reducible repeat (first | apply Kd.R_alloc | apply Kd.R_drewN | apply Kd.R_drew)); exact HO_384002.out) hb) (Kd.R_base ho0)) (Kd.R_base ho1)) (fun _ h_ => h_.1)); have n1_ := Aside0.mk (Kd.R_mono (Kd.R_told (Kd.R_told (Kd.R_old (by (with_reducible repeat (first | apply Kd.R_alloc | apply Kd.R_drewN | apply Kd.R_drew)); exact HO_395002.out) hb) (Kd.R_base ho0)) (Kd.R_base ho1)) (fun _ h_ => h_.1)); have n2_ := Aside0.mk (Kd.R_mono (Kd.R_told (Kd.R_told (Kd.R_old (by (with_reducible repeat (first | apply Kd.R_alloc | apply Kd.R_drewN | apply Kd.R_drew)); exact HO_414002.out) hb) (Kd.R_base ho0)) (Kd.R_base ho1)) (fun _ h_ => h_.1)); have n3_ := Aside0.mk (Kd.R_mono (Kd.R_told (Kd.R_told (Kd.R_old (by (with_reducible repeat (first | apply Kd.R_alloc | apply Kd.R_drewN | apply Kd.R_drew)); exact HO423.out) hb) (Kd.R_base ho0)) (Kd.R_base ho1)) (fun _ h_ => h_.1)); have n4_ := Aside0.mk (Kd.S_mono (Kd.S_told (Kd.S_told (Kd.S_old (by (with_reducible repeat (first | apply Kd.S_alloc | apply Kd.S_drewN | apply Kd.S_drew)); exact HO425.out) hb) (Kd.R_base ho0)) (Kd.R_base ho1)) (fun _ h_ => h_.1)); have n5_ := Aside0.mk (Kd.R_mono (Kd.R_told (Kd.R_told (Kd.R_old (by (with_reducible repeat (first | apply Kd.R_alloc | apply Kd.R_drewN | apply Kd.R_drew)); exact HO429.out) hb) (Kd.R_base ho0)) (Kd.R_base ho1)) (fun _ h_ => h_.1)); have n6_ := Aside0.mk (Kd.R_lower (Kd.R_new' (Kd.R_new' (Kd.R_new' (Kd.R_new' (Kd.R_new' ho0 (Kd.R_lt (by (with_reducible repeat (first | apply Kd.R_alloc | apply Kd.R_drewN | apply Kd.R_drew)); exact HO_384002.out))) (Kd.R_lt (by (with_reducible repeat (first | apply Kd.R_alloc | apply Kd.R_drewN | apply Kd.R_drew)); exact HO_395002.out))) (Kd.R_lt (by (with_reducible repeat (first | apply Kd.R_alloc | apply Kd.R_drewN | apply Kd.R_drew)); exact HO_414002.out))) (Kd.R_lt (by (with_reducible repeat (first | apply Kd.R_alloc | apply Kd.R_drewN | apply Kd.R_drew)); exact HO423.out))) (Kd.R_lt (by (with_reducible repeat (first | apply Kd.R_alloc | apply Kd.R_drewN | apply Kd.R_drew)); exact HO429.out))) (below_size (by repeat (first | (with_reducible first | exact HB.out | apply below_alloc | apply pw_below_drewN | apply below_drew1 | refine below_set ?_ GE383.out | refine below_set ?_ GE394.out | refine below_set ?_ GE413.out) | exact HB.out)))); have n7_ := Aside0.mk (Kd.R_lower (Kd.R_new' (Kd.R_new' (Kd.R_new' (Kd.R_new' (Kd.R_new' ho1 (Kd.R_lt (by (with_reducible repeat (first | apply Kd.R_alloc | apply Kd.R_drewN | apply Kd.R_drew)); exact HO_384002.out))) (Kd.R_lt (by (with_reducible repeat (first | apply Kd.R_alloc | apply Kd.R_drewN | apply Kd.R_drew)); exact HO_395002.out))) (Kd.R_lt (by (with_reducible repeat (first | apply Kd.R_alloc | apply Kd.R_drewN | apply Kd.R_drew)); exact HO_414002.out))) (Kd.R_lt (by (with_reducible repeat (first | apply Kd.R_alloc | apply Kd.R_drewN | apply Kd.R_drew)); exact HO423.out))) (Kd.R_lt (by (with_reducible repeat (first | apply Kd.R_alloc | apply Kd.R_drewN | apply Kd.R_drew)); exact HO429.out))) (below_size (by repeat (first | (with_reducible first | exact HB.out | apply below_alloc | apply pw_below_drewN | apply below_drew1 | refine below_set ?_ GE383.out | refine below_set ?_ GE394.out | refine below_set ?_ GE413.out) | exact HB.out)))); have n8_ := Aside0.mk (blk_below (g := gb383) (o := .cells #[.int .i64 t378, .int .i64 t379, .slice Ao11 t380.length co11] 28 (0, 0)) (by (with_reducible repeat (first | refine blk_drewN ?_ _ | refine blk_drew ?_ | refine blk_alloc ?_ _)); exact BK383.out) hb); have n9_ := Aside0.mk (blk_below (g := gb394) (o := .cells #[.int .i64 t388, .int .i64 t389, .slice Ao19 t390.length co19] 28 (0, 0)) (by (with_reducible repeat (first | refine blk_drewN ?_ _ | refine blk_drew ?_ | refine blk_alloc ?_ _)); exact BK394.out) hb); have n10_ := Aside0.mk (blk_below (g := gb413) (o := .cells #[.int .i64 t408, .int .i64 t409, .slice Ao83 t410.length co83] 28 (0, 0)) (by (with_reducible repeat (first | refine blk_drewN ?_ _ | refine blk_drew ?_ | refine blk_alloc ?_ _)); exact BK413.out) hb); have n11_ := Aside0.mk (below_step (by repeat (first | (with_reducible first | exact HB.out | apply below_alloc | apply pw_below_drewN | apply below_drew1 | refine below_set ?_ GE383.out | refine below_set ?_ GE394.out | refine below_set ?_ GE413.out) | exact HB.out)) hb); clear HO_384002; clear HO_395002; clear HO_414002; clear HO423; clear HO425; clear HO429; clear BK383; clear BK394; clear BK413; clear HB; have HO_384002 := n0_; have HO_395002 := n1_; have HO_414002 := n2_; have HO423 := n3_; have HO425 := n4_; have HO429 := n5_; have HO434 := n6_; have HO439 := n7_; have BK383 := n8_; have BK394 := n9_; have BK413 := n10_; have HB := n11_; clear n0_ n1_ n2_ n3_ n4_ n5_ n6_ n7_ n8_ n9_ n10_ n11_; (try clear hb); (try clear hb2); (try clear hk); (try clear hi); (try clear ho0); (try clear ho1)) | ((with_reducible refine gate_dst (N := 20) rfl ?_); (try (refine gate_guard (by rfl) ?_; dsimp only)); refine box_event ?hg (N := 20) ?hd (cs := #[.int .i64 0, .int .i64 0, .slice none 0 0]) (t := 28) ?hr ?_; (case hd => rfl); (case hg => rfl); (case hr => first | (go_simp; done) | (go_simp; rfl)); intro gb440 hg w145 hbox hb; have n0_ := Aside0.mk (Kd.R_below (by (with_reducible repeat (first | apply Kd.R_alloc | apply Kd.R_drewN | apply Kd.R_drew)); exact HO_384002.out) hb); have n1_ := Aside0.mk (Kd.R_below (by (with_reducible repeat (first | apply Kd.R_alloc | apply Kd.R_drewN | apply Kd.R_drew)); exact HO_395002.out) hb); have n2_ := Aside0.mk (Kd.R_below (by (with_reducible repeat (first | apply Kd.R_alloc | apply Kd.R_drewN | apply Kd.R_drew)); exact HO_414002.out) hb); have n3_ := Aside0.mk (Kd.R_below (by (with_reducible repeat (first | apply Kd.R_alloc | apply Kd.R_drewN | apply Kd.R_drew)); exact HO423.out) hb); have n4_ := Aside0.mk (Kd.S_below (Kd.S_elderB (by (with_reducible repeat (first | apply Kd.S_alloc | apply Kd.S_drewN | apply Kd.S_drew)); exact HO425.out) gb440 (Nat.le_of_eq hg.symm)) hb); have n5_ := Aside0.mk (Kd.R_below (by (with_reducible repeat (first | apply Kd.R_alloc | apply Kd.R_drewN | apply Kd.R_drew)); exact HO429.out) hb); have n6_ := Aside0.mk (Kd.R_below (by (with_reducible repeat (first | apply Kd.R_alloc | apply Kd.R_drewN | apply Kd.R_drew)); exact HO434.out) hb); have n7_ := Aside0.mk (Kd.R_below (by (with_reducible repeat (first | apply Kd.R_alloc | apply Kd.R_drewN | apply Kd.R_drew)); exact HO439.out) hb); have n8_ := Aside0.mk (blk_below (g := gb383) (o := .cells #[.int .i64 t378, .int .i64 t379, .slice Ao11 t380.length co11] 28 (0, 0)) (by (with_reducible repeat (first | refine blk_drewN ?_ _ | refine blk_drew ?_ | refine blk_alloc ?_ _)); exact BK383.out) hb); have n9_ := Aside0.mk (blk_below (g := gb394) (o := .cells #[.int .i64 t388, .int .i64 t389, .slice Ao19 t390.length co19] 28 (0, 0)) (by (with_reducible repeat (first | refine blk_drewN ?_ _ | refine blk_drew ?_ | refine blk_alloc ?_ _)); exact BK394.out) hb); have n10_ := Aside0.mk (blk_below (g := gb413) (o := .cells #[.int .i64 t408, .int .i64 t409, .slice Ao83 t410.length co83] 28 (0, 0)) (by (with_reducible repeat (first | refine blk_drewN ?_ _ | refine blk_drew ?_ | refine blk_alloc ?_ _)); exact BK413.out) hb); have n11_ := Aside0.mk (below_step (by repeat (first | (with_reducible first | exact HB.out | apply below_alloc | apply pw_below_drewN | apply below_drew1 | refine below_set ?_ GE383.out | refine below_set ?_ GE394.out | refine below_set ?_ GE413.out) | exact HB.out)) hb); have n12_ := Aside0.mk (hbox); have n13_ := Aside0.mk ((by rw [hg]; exact (below_size (by repeat (first | (with_reducible first | exact HB.out | apply below_alloc | apply pw_below_drewN | apply below_drew1 | refine below_set ?_ GE383.out | refine below_set ?_ GE394.out | refine below_set ?_ GE413.out) | exact HB.out))) : w.heap.size ≤ gb440)); have n14_ := Aside0.mk ((by rw [hg]; exact (below_size (by repeat (first | (with_reducible first | exact HB.out | apply below_alloc | apply pw_below_drewN | apply below_drew1 | refine below_set ?_ GE383.out | refine below_set ?_ GE394.out | refine below_set ?_ GE413.out) | exact HB.out))) : w.heap.size ≤ gb440)); have n15_ := Aside0.mk ((by rw [hg]; exact Nat.ne_of_lt (blk_lt (g := gb383) (o := .cells #[.int .i64 t378, .int .i64 t379, .slice Ao11 t380.length co11] 28 (0, 0)) (by (with_reducible repeat (first | refine blk_drewN ?_ _ | refine blk_drew ?_ | refine blk_alloc ?_ _)); exact BK383.out)) : gb383 ≠ gb440)); have n16_ := Aside0.mk ((by rw [hg]; exact Nat.ne_of_gt (blk_lt (g := gb383) (o := .cells #[.int .i64 t378, .int .i64 t379, .slice Ao11 t380.length co11] 28 (0, 0)) (by (with_reducible repeat (first | refine blk_drewN ?_ _ | refine blk_drew ?_ | refine blk_alloc ?_ _)); exact BK383.out)) : gb440 ≠ gb383)); have n17_ := Aside0.mk ((by rw [hg]; exact Nat.ne_of_lt (blk_lt (g := gb394) (o := .cells #[.int .i64 t388, .int .i64 t389, .slice Ao19 t390.length co19] 28 (0, 0)) (by (with_reducible repeat (first | refine blk_drewN ?_ _ | refine blk_drew ?_ | refine blk_alloc ?_ _)); exact BK394.out)) : gb394 ≠ gb440)); have n18_ := Aside0.mk ((by rw [hg]; exact Nat.ne_of_gt (blk_lt (g := gb394) (o := .cells #[.int .i64 t388, .int .i64 t389, .slice Ao19 t390.length co19] 28 (0, 0)) (by (with_reducible repeat (first | refine blk_drewN ?_ _ | refine blk_drew ?_ | refine blk_alloc ?_ _)); exact BK394.out)) : gb440 ≠ gb394)); have n19_ := Aside0.mk ((by rw [hg]; exact Nat.ne_of_lt (blk_lt (g := gb413) (o := .cells #[.int .i64 t408, .int .i64 t409, .slice Ao83 t410.length co83] 28 (0, 0)) (by (with_reducible repeat (first | refine blk_drewN ?_ _ | refine blk_drew ?_ | refine blk_alloc ?_ _)); exact BK413.out)) : gb413 ≠ gb440)); have n20_ := Aside0.mk ((by rw [hg]; exact Nat.ne_of_gt (blk_lt (g := gb413) (o := .cells #[.int .i64 t408, .int .i64 t409, .slice Ao83 t410.length co83] 28 (0, 0)) (by (with_reducible repeat (first | refine blk_drewN ?_ _ | refine blk_drew ?_ | refine blk_alloc ?_ _)); exact BK413.out)) : gb440 ≠ gb413)); clear HO_384002; clear HO_395002; clear HO_414002; clear HO423; clear HO425; clear HO429; clear HO434; clear HO439; clear BK383; clear BK394; clear BK413; clear HB; have HO_384002 := n0_; have HO_395002 := n1_; have HO_414002 := n2_; have HO423 := n3_; have HO425 := n4_; have HO429 := n5_; have HO434 := n6_; have HO439 := n7_; have BK383 := n8_; have BK394 := n9_; have BK413 := n10_; have HB := n11_; have BK440 := n12_; have GW440 := n13_; have GE440 := n14_; have NB383_440 := n15_; have NB440_383 := n16_; have NB394_440 := n17_; have NB440_394 := n18_; have NB413_440 := n19_; have NB440_413 := n20_; clear n0_ n1_ n2_ n3_ n4_ n5_ n6_ n7_ n8_ n9_ n10_ n11_ n12_ n13_ n14_ n15_ n16_ n17_ n18_ n19_ n20_; clear hb hbox hg) | ((with_reducible refine gate_dst (N := 21) rfl ?_); (try (refine gate_guard (by rfl) ?_; dsimp only)); refine box_event ?hg (N := 21) ?hd (cs := #[.int .i64 0, .int .i64 0, .slice none 0 0]) (t := 28) ?hr ?_; (case hd => rfl); (case hg => rfl); (case hr => first | (go_simp; done) | (go_simp; rfl)); intro gb441 hg w146 hbox hb; have n0_ := Aside0.mk (Kd.R_below (by (with_reducible repeat (first | apply Kd.R_alloc | apply Kd.R_drewN | apply Kd.R_drew)); exact HO_384002.out) hb); have n1_ := Aside0.mk (Kd.R_below (by (with_reducible repeat (first | apply Kd.R_alloc | apply Kd.R_drewN | apply Kd.R_drew)); exact HO_395002.out) hb); have n2_ := Aside0.mk (Kd.R_below (by (with_reducible repeat (first | apply Kd.R_alloc | apply Kd.R_drewN | apply Kd.R_drew)); exact HO_414002.out) hb); have n3_ := Aside0.mk (Kd.R_below (by (with_reducible repeat (first | apply Kd.R_alloc | apply Kd.R_drewN | apply Kd.R_drew)); exact HO423.out) hb); have n4_ := Aside0.mk (Kd.S_below (Kd.S_elderB (by (with_reducible repeat (first | apply Kd.S_alloc | apply Kd.S_drewN | apply Kd.S_drew)); exact HO425.out) gb441 (Nat.le_of_eq hg.symm)) hb); have n5_ := Aside0.mk (Kd.R_below (by (with_reducible repeat (first | apply Kd.R_alloc | apply Kd.R_drewN | apply Kd.R_drew)); exact HO429.out) hb); have n6_ := Aside0.mk (Kd.R_below (by (with_reducible repeat (first | apply Kd.R_alloc | apply Kd.R_drewN | apply Kd.R_drew)); exact HO434.out) hb); have n7_ := Aside0.mk (Kd.R_below (by (with_reducible repeat (first | apply Kd.R_alloc | apply Kd.R_drewN | apply Kd.R_drew)); exact HO439.out) hb); have n8_ := Aside0.mk (blk_below (g := gb383) (o := .cells #[.int .i64 t378, .int .i64 t379, .slice Ao11 t380.length co11] 28 (0, 0)) (by (with_reducible repeat (first | refine blk_drewN ?_ _ | refine blk_drew ?_ | refine blk_alloc ?_ _)); exact BK383.out) hb); have n9_ := Aside0.mk (blk_below (g := gb394) (o := .cells #[.int .i64 t388, .int .i64 t389, .slice Ao19 t390.length co19] 28 (0, 0)) (by (with_reducible repeat (first | refine blk_drewN ?_ _ | refine blk_drew ?_ | refine blk_alloc ?_ _)); exact BK394.out) hb); have n10_ := Aside0.mk (blk_below (g := gb413) (o := .cells #[.int .i64 t408, .int .i64 t409, .slice Ao83 t410.length co83] 28 (0, 0)) (by (with_reducible repeat (first | refine blk_drewN ?_ _ | refine blk_drew ?_ | refine blk_alloc ?_ _)); exact BK413.out) hb); have n11_ := Aside0.mk (blk_below (g := gb440) (o := .cells #[.int .i64 0, .int .i64 0, .slice none 0 0] 28 (0, 0)) (by (with_reducible repeat (first | refine blk_drewN ?_ _ | refine blk_drew ?_ | refine blk_alloc ?_ _)); exact BK440.out) hb); have n12_ := Aside0.mk (below_step (by repeat (first | (with_reducible first | exact HB.out | apply below_alloc | apply pw_below_drewN | apply below_drew1 | refine below_set ?_ GE383.out | refine below_set ?_ GE394.out | refine below_set ?_ GE413.out | refine below_set ?_ GE440.out) | exact HB.out)) hb); have n13_ := Aside0.mk (hbox); have n14_ := Aside0.mk ((by rw [hg]; exact (below_size (by repeat (first | (with_reducible first | exact HB.out | apply below_alloc | apply pw_below_drewN | apply below_drew1 | refine below_set ?_ GE383.out | refine below_set ?_ GE394.out | refine below_set ?_ GE413.out | refine below_set ?_ GE440.out) | exact HB.out))) : w.heap.size ≤ gb441)); have n15_ := Aside0.mk ((by rw [hg]; exact (below_size (by repeat (first | (with_reducible first | exact HB.out | apply below_alloc | apply pw_below_drewN | apply below_drew1 | refine below_set ?_ GE383.out | refine below_set ?_ GE394.out | refine below_set ?_ GE413.out | refine below_set ?_ GE440.out) | exact HB.out))) : w.heap.size ≤ gb441)); have n16_ := Aside0.mk ((by rw [hg]; exact Nat.ne_of_lt (blk_lt (g := gb383) (o := .cells #[.int .i64 t378, .int .i64 t379, .slice Ao11 t380.length co11] 28 (0, 0)) (by (with_reducible repeat (first | refine blk_drewN ?_ _ | refine blk_drew ?_ | refine blk_alloc ?_ _)); exact BK383.out)) : gb383 ≠ gb441)); have n17_ := Aside0.mk ((by rw [hg]; exact Nat.ne_of_gt (blk_lt (g := gb383) (o := .cells #[.int .i64 t378, .int .i64 t379, .slice Ao11 t380.length co11] 28 (0, 0)) (by (with_reducible repeat (first | refine blk_drewN ?_ _ | refine blk_drew ?_ | refine blk_alloc ?_ _)); exact BK383.out)) : gb441 ≠ gb383)); have n18_ := Aside0.mk ((by rw [hg]; exact Nat.ne_of_lt (blk_lt (g := gb394) (o := .cells #[.int .i64 t388, .int .i64 t389, .slice Ao19 t390.length co19] 28 (0, 0)) (by (with_reducible repeat (first | refine blk_drewN ?_ _ | refine blk_drew ?_ | refine blk_alloc ?_ _)); exact BK394.out)) : gb394 ≠ gb441)); have n19_ := Aside0.mk ((by rw [hg]; exact Nat.ne_of_gt (blk_lt (g := gb394) (o := .cells #[.int .i64 t388, .int .i64 t389, .slice Ao19 t390.length co19] 28 (0, 0)) (by (with_reducible repeat (first | refine blk_drewN ?_ _ | refine blk_drew ?_ | refine blk_alloc ?_ _)); exact BK394.out)) : gb441 ≠ gb394)); have n20_ := Aside0.mk ((by rw [hg]; exact Nat.ne_of_lt (blk_lt (g := gb413) (o := .cells #[.int .i64 t408, .int .i64 t409, .slice Ao83 t410.length co83] 28 (0, 0)) (by (with_reducible repeat (first | refine blk_drewN ?_ _ | refine blk_drew ?_ | refine blk_alloc ?_ _)); exact BK413.out)) : gb413 ≠ gb441)); have n21_ := Aside0.mk ((by rw [hg]; exact Nat.ne_of_gt (blk_lt (g := gb413) (o := .cells #[.int .i64 t408, .int .i64 t409, .slice Ao83 t410.length co83] 28 (0, 0)) (by (with_reducible repeat (first | refine blk_drewN ?_ _ | refine blk_drew ?_ | refine blk_alloc ?_ _)); exact BK413.out)) : gb441 ≠ gb413)); have n22_ := Aside0.mk ((by rw [hg]; exact Nat.ne_of_lt (blk_lt (g := gb440) (o := .cells #[.int .i64 0, .int .i64 0, .slice none 0 0] 28 (0, 0)) (by (with_reducible repeat (first | refine blk_drewN ?_ _ | refine blk_drew ?_ | refine blk_alloc ?_ _)); exact BK440.out)) : gb440 ≠ gb441)); have n23_ := Aside0.mk ((by rw [hg]; exact Nat.ne_of_gt (blk_lt (g := gb440) (o := .cells #[.int .i64 0, .int .i64 0, .slice none 0 0] 28 (0, 0)) (by (with_reducible repeat (first | refine blk_drewN ?_ _ | refine blk_drew ?_ | refine blk_alloc ?_ _)); exact BK440.out)) : gb441 ≠ gb440)); clear HO_384002; clear HO_395002; clear HO_414002; clear HO423; clear HO425; clear HO429; clear HO434; clear HO439; clear BK383; clear BK394; clear BK413; clear BK440; clear HB; have HO_384002 := n0_; have HO_395002 := n1_; have HO_414002 := n2_; have HO423 := n3_; have HO425 := n4_; have HO429 := n5_; have HO434 := n6_; have HO439 := n7_; have BK383 := n8_; have BK394 := n9_; have BK413 := n10_; have BK440 := n11_; have HB := n12_; have BK441 := n13_; have GW441 := n14_; have GE441 := n15_; have NB383_441 := n16_; have NB441_383 := n17_; have NB394_441 := n18_; have NB441_394 := n19_; have NB413_441 := n20_; have NB441_413 := n21_; have NB440_441 := n22_; have NB441_440 := n23_; clear n0_ n1_ n2_ n3_ n4_ n5_ n6_ n7_ n8_ n9_ n10_ n11_ n12_ n13_ n14_ n15_ n16_ n17_ n18_ n19_ n20_ n21_ n22_ n23_; clear hb hbox hg; have hnb147 := NB440_383.out; have hnc147 := NB383_440.out; have hnb148 := NB440_394.out; have hnc148 := NB394_440.out; have hnb149 := NB440_413.out; have hnc149 := NB413_440.out; have hnb150 := NB440_441.out; have hnc150 := NB441_440.out; have hcz151_0 : w146.cell? ⟨gb440, 0, none⟩ = some (.int .i64 0) := (blk_cell BK440.out 0).trans rfl; have hcz151_1 : w146.cell? ⟨gb440, 1, none⟩ = some (.int .i64 0) := (blk_cell BK440.out 1).trans rfl; have hcz151_2 : w146.cell? ⟨gb440, 2, none⟩ = some (.slice none 0 0) := (blk_cell BK440.out 2).trans rfl; have hfz151_0 := blk_frozen BK440.out 0; have hfz151_1 := blk_frozen BK440.out 1; have hfz151_2 := blk_frozen BK440.out 2; obtain ⟨Ao152, co152, eo152⟩ := Kd.R_slice HO434.out; subst eo152; have hnb153 := NB441_383.out; have hnc153 := NB383_441.out; have hnb154 := NB441_394.out; have hnc154 := NB394_441.out; have hnb155 := NB441_413.out; have hnc155 := NB413_441.out; have hcz156_0 : w146.cell? ⟨gb441, 0, none⟩ = some (.int .i64 0) := (blk_cell BK441.out 0).trans rfl; have hcz156_1 : w146.cell? ⟨gb441, 1, none⟩ = some (.int .i64 0) := (blk_cell BK441.out 1).trans rfl; have hcz156_2 : w146.cell? ⟨gb441, 2, none⟩ = some (.slice none 0 0) := (blk_cell BK441.out 2).trans rfl; have hfz156_0 := blk_frozen BK441.out 0; have hfz156_1 := blk_frozen BK441.out 1; have hfz156_2 := blk_frozen BK441.out 2; obtain ⟨Ao157, co157, eo157⟩ := Kd.R_slice HO439.out; subst eo157))
                          have n0_ : Aside0 (Kd.R (Kd.int .i64) 3 ((((((w146.setCell ⟨gb440, 0, none⟩ (.int .i64 t430)).setCell ⟨gb440, 1, none⟩ (.int .i64 t431)).setCell ⟨gb440, 2, none⟩ (.slice Ao152 t432.length co152)).setCell ⟨gb441, 0, none⟩ (.int .i64 t435)).setCell ⟨gb441, 1, none⟩ (.int .i64 t436)).setCell ⟨gb441, 2, none⟩ (.slice Ao157 t437.length co157)) w.heap.size (fun k_ => some k_ ≠ (.slice Ao19 t390.length co19 : Value).ownBlock ∧ some k_ ≠ (.slice Ao83 t410.length co83 : Value).ownBlock ∧ some k_ ≠ (.slice Ao141 t420.length co141 : Value).ownBlock ∧ some k_ ≠ (v428 : Value).ownBlock ∧ some k_ ≠ (.slice Ao152 t432.length co152 : Value).ownBlock ∧ some k_ ≠ (.slice Ao157 t437.length co157 : Value).ownBlock) (.slice Ao11 t380.length co11) t380) := ⟨by (with_reducible repeat (first | apply Kd.R_alloc | apply Kd.R_drewN | apply Kd.R_drew)); exact Kd.R_mono (Kd.R_far (p := ⟨gb441, 2, none⟩) (Kd.R_far (p := ⟨gb441, 1, none⟩) (Kd.R_far (p := ⟨gb441, 0, none⟩) (Kd.R_far (p := ⟨gb440, 2, none⟩) (Kd.R_far (p := ⟨gb440, 1, none⟩) (Kd.R_far (p := ⟨gb440, 0, none⟩) (Kd.R_types (Kd.R_types HO_384002.out BK440.out (by decide)) BK441.out (by decide)) (fun _ hk => hk.1.2) (.int .i64 t430)) (fun _ hk => hk.1.2) (.int .i64 t431)) (fun _ hk => hk.1.2) (.slice Ao152 t432.length co152)) (fun _ hk => hk.2) (.int .i64 t435)) (fun _ hk => hk.2) (.int .i64 t436)) (fun _ hk => hk.2) (.slice Ao157 t437.length co157)) (fun _ hk => ⟨hk.1.1.1.1.1.1.1, ⟨hk.1.1.1.1.1.1.2, ⟨hk.1.1.1.1.1.2, ⟨hk.1.1.1.1.2, ⟨hk.1.1.1.2, hk.1.1.2⟩⟩⟩⟩⟩)⟩
                          have n1_ : Aside0 (Kd.R (Kd.int .i64) 3 ((((((w146.setCell ⟨gb440, 0, none⟩ (.int .i64 t430)).setCell ⟨gb440, 1, none⟩ (.int .i64 t431)).setCell ⟨gb440, 2, none⟩ (.slice Ao152 t432.length co152)).setCell ⟨gb441, 0, none⟩ (.int .i64 t435)).setCell ⟨gb441, 1, none⟩ (.int .i64 t436)).setCell ⟨gb441, 2, none⟩ (.slice Ao157 t437.length co157)) w.heap.size (fun k_ => some k_ ≠ (.slice Ao11 t380.length co11 : Value).ownBlock ∧ some k_ ≠ (.slice Ao83 t410.length co83 : Value).ownBlock ∧ some k_ ≠ (.slice Ao141 t420.length co141 : Value).ownBlock ∧ some k_ ≠ (v428 : Value).ownBlock ∧ some k_ ≠ (.slice Ao152 t432.length co152 : Value).ownBlock ∧ some k_ ≠ (.slice Ao157 t437.length co157 : Value).ownBlock) (.slice Ao19 t390.length co19) t390) := ⟨by (with_reducible repeat (first | apply Kd.R_alloc | apply Kd.R_drewN | apply Kd.R_drew)); exact Kd.R_mono (Kd.R_far (p := ⟨gb441, 2, none⟩) (Kd.R_far (p := ⟨gb441, 1, none⟩) (Kd.R_far (p := ⟨gb441, 0, none⟩) (Kd.R_far (p := ⟨gb440, 2, none⟩) (Kd.R_far (p := ⟨gb440, 1, none⟩) (Kd.R_far (p := ⟨gb440, 0, none⟩) (Kd.R_types (Kd.R_types HO_395002.out BK440.out (by decide)) BK441.out (by decide)) (fun _ hk => hk.1.2) (.int .i64 t430)) (fun _ hk => hk.1.2) (.int .i64 t431)) (fun _ hk => hk.1.2) (.slice Ao152 t432.length co152)) (fun _ hk => hk.2) (.int .i64 t435)) (fun _ hk => hk.2) (.int .i64 t436)) (fun _ hk => hk.2) (.slice Ao157 t437.length co157)) (fun _ hk => ⟨hk.1.1.1.1.1.1.1, ⟨hk.1.1.1.1.1.1.2, ⟨hk.1.1.1.1.1.2, ⟨hk.1.1.1.1.2, ⟨hk.1.1.1.2, hk.1.1.2⟩⟩⟩⟩⟩)⟩
                          have n2_ : Aside0 (Kd.R (Kd.int .i64) 3 ((((((w146.setCell ⟨gb440, 0, none⟩ (.int .i64 t430)).setCell ⟨gb440, 1, none⟩ (.int .i64 t431)).setCell ⟨gb440, 2, none⟩ (.slice Ao152 t432.length co152)).setCell ⟨gb441, 0, none⟩ (.int .i64 t435)).setCell ⟨gb441, 1, none⟩ (.int .i64 t436)).setCell ⟨gb441, 2, none⟩ (.slice Ao157 t437.length co157)) w.heap.size (fun k_ => some k_ ≠ (.slice Ao11 t380.length co11 : Value).ownBlock ∧ some k_ ≠ (.slice Ao19 t390.length co19 : Value).ownBlock ∧ some k_ ≠ (.slice Ao141 t420.length co141 : Value).ownBlock ∧ some k_ ≠ (v428 : Value).ownBlock ∧ some k_ ≠ (.slice Ao152 t432.length co152 : Value).ownBlock ∧ some k_ ≠ (.slice Ao157 t437.length co157 : Value).ownBlock) (.slice Ao83 t410.length co83) t410) := ⟨by (with_reducible repeat (first | apply Kd.R_alloc | apply Kd.R_drewN | apply Kd.R_drew)); exact Kd.R_mono (Kd.R_far (p := ⟨gb441, 2, none⟩) (Kd.R_far (p := ⟨gb441, 1, none⟩) (Kd.R_far (p := ⟨gb441, 0, none⟩) (Kd.R_far (p := ⟨gb440, 2, none⟩) (Kd.R_far (p := ⟨gb440, 1, none⟩) (Kd.R_far (p := ⟨gb440, 0, none⟩) (Kd.R_types (Kd.R_types HO_414002.out BK440.out (by decide)) BK441.out (by decide)) (fun _ hk => hk.1.2) (.int .i64 t430)) (fun _ hk => hk.1.2) (.int .i64 t431)) (fun _ hk => hk.1.2) (.slice Ao152 t432.length co152)) (fun _ hk => hk.2) (.int .i64 t435)) (fun _ hk => hk.2) (.int .i64 t436)) (fun _ hk => hk.2) (.slice Ao157 t437.length co157)) (fun _ hk => ⟨hk.1.1.1.1.1.1.1, ⟨hk.1.1.1.1.1.1.2, ⟨hk.1.1.1.1.1.2, ⟨hk.1.1.1.1.2, ⟨hk.1.1.1.2, hk.1.1.2⟩⟩⟩⟩⟩)⟩
                          have n3_ : Aside0 (Kd.R (Kd.int .i64) 3 ((((((w146.setCell ⟨gb440, 0, none⟩ (.int .i64 t430)).setCell ⟨gb440, 1, none⟩ (.int .i64 t431)).setCell ⟨gb440, 2, none⟩ (.slice Ao152 t432.length co152)).setCell ⟨gb441, 0, none⟩ (.int .i64 t435)).setCell ⟨gb441, 1, none⟩ (.int .i64 t436)).setCell ⟨gb441, 2, none⟩ (.slice Ao157 t437.length co157)) w.heap.size (fun k_ => some k_ ≠ (.slice Ao11 t380.length co11 : Value).ownBlock ∧ some k_ ≠ (.slice Ao19 t390.length co19 : Value).ownBlock ∧ some k_ ≠ (.slice Ao83 t410.length co83 : Value).ownBlock ∧ some k_ ≠ (v428 : Value).ownBlock ∧ some k_ ≠ (.slice Ao152 t432.length co152 : Value).ownBlock ∧ some k_ ≠ (.slice Ao157 t437.length co157 : Value).ownBlock) (.slice Ao141 t420.length co141) t420) := ⟨by (with_reducible repeat (first | apply Kd.R_alloc | apply Kd.R_drewN | apply Kd.R_drew)); exact Kd.R_mono (Kd.R_far (p := ⟨gb441, 2, none⟩) (Kd.R_far (p := ⟨gb441, 1, none⟩) (Kd.R_far (p := ⟨gb441, 0, none⟩) (Kd.R_far (p := ⟨gb440, 2, none⟩) (Kd.R_far (p := ⟨gb440, 1, none⟩) (Kd.R_far (p := ⟨gb440, 0, none⟩) (Kd.R_types (Kd.R_types HO423.out BK440.out (by decide)) BK441.out (by decide)) (fun _ hk => hk.1.2) (.int .i64 t430)) (fun _ hk => hk.1.2) (.int .i64 t431)) (fun _ hk => hk.1.2) (.slice Ao152 t432.length co152)) (fun _ hk => hk.2) (.int .i64 t435)) (fun _ hk => hk.2) (.int .i64 t436)) (fun _ hk => hk.2) (.slice Ao157 t437.length co157)) (fun _ hk => ⟨hk.1.1.1.1.1.1.1.2, ⟨hk.1.1.1.1.1.1.2, ⟨hk.1.1.1.1.1.2, ⟨hk.1.1.1.1.2, ⟨hk.1.1.1.2, hk.1.1.2⟩⟩⟩⟩⟩)⟩
                          have n4_ : Aside0 (Kd.S k28 28 ((((((w146.setCell ⟨gb440, 0, none⟩ (.int .i64 t430)).setCell ⟨gb440, 1, none⟩ (.int .i64 t431)).setCell ⟨gb440, 2, none⟩ (.slice Ao152 t432.length co152)).setCell ⟨gb441, 0, none⟩ (.int .i64 t435)).setCell ⟨gb441, 1, none⟩ (.int .i64 t436)).setCell ⟨gb441, 2, none⟩ (.slice Ao157 t437.length co157)) w.heap.size (fun k_ => some k_ ≠ (.slice Ao11 t380.length co11 : Value).ownBlock ∧ some k_ ≠ (.slice Ao19 t390.length co19 : Value).ownBlock ∧ some k_ ≠ (.slice Ao83 t410.length co83 : Value).ownBlock ∧ some k_ ≠ (.slice Ao141 t420.length co141 : Value).ownBlock ∧ some k_ ≠ (v428 : Value).ownBlock ∧ some k_ ≠ (.slice Ao152 t432.length co152 : Value).ownBlock ∧ some k_ ≠ (.slice Ao157 t437.length co157 : Value).ownBlock ∧ k_ ≠ gb383 ∧ k_ ≠ gb394 ∧ k_ ≠ gb413 ∧ k_ ≠ gb440 ∧ k_ ≠ gb441) (.slice Ao142 t421.length co142) t421) := ⟨by (with_reducible repeat (first | apply Kd.S_alloc | apply Kd.S_drewN | apply Kd.S_drew)); exact Kd.S_mono (Kd.S_far (p := ⟨gb441, 2, none⟩) (Kd.S_far (p := ⟨gb441, 1, none⟩) (Kd.S_far (p := ⟨gb441, 0, none⟩) (Kd.S_far (p := ⟨gb440, 2, none⟩) (Kd.S_far (p := ⟨gb440, 1, none⟩) (Kd.S_far (p := ⟨gb440, 0, none⟩) (Kd.S_mono (Kd.S_mono HO425.out (fun k_ hk => (⟨hk, hk.1.2⟩ : _ ∧ k_ ≠ gb440))) (fun k_ hk => (⟨hk, hk.1.2⟩ : _ ∧ k_ ≠ gb441))) (fun _ hk => hk.1.2) (.int .i64 t430)) (fun _ hk => hk.1.2) (.int .i64 t431)) (fun _ hk => hk.1.2) (.slice Ao152 t432.length co152)) (fun _ hk => hk.2) (.int .i64 t435)) (fun _ hk => hk.2) (.int .i64 t436)) (fun _ hk => hk.2) (.slice Ao157 t437.length co157)) (fun _ hk => ⟨hk.1.1.1.1.1.1.1.1.1.1.1.1.2, ⟨hk.1.1.1.1.1.1.1.1.1.1.1.2, ⟨hk.1.1.1.1.1.1.1.1.1.1.2, ⟨hk.1.1.1.1.1.1.1.1.1.1.1.1.1, ⟨hk.1.1.1.1.1.1.2, ⟨hk.1.1.1.1.1.2, ⟨hk.1.1.1.1.2, ⟨hk.1.1.1.1.1.1.1.1.1.2, ⟨hk.1.1.1.1.1.1.1.1.2, ⟨hk.1.1.1.1.1.1.1.2, ⟨hk.1.1.1.2, hk.1.1.2⟩⟩⟩⟩⟩⟩⟩⟩⟩⟩⟩)⟩
                          have n5_ : Aside0 (Kd.R (Kd.int .i64) 3 ((((((w146.setCell ⟨gb440, 0, none⟩ (.int .i64 t430)).setCell ⟨gb440, 1, none⟩ (.int .i64 t431)).setCell ⟨gb440, 2, none⟩ (.slice Ao152 t432.length co152)).setCell ⟨gb441, 0, none⟩ (.int .i64 t435)).setCell ⟨gb441, 1, none⟩ (.int .i64 t436)).setCell ⟨gb441, 2, none⟩ (.slice Ao157 t437.length co157)) w.heap.size (fun k_ => some k_ ≠ (.slice Ao11 t380.length co11 : Value).ownBlock ∧ some k_ ≠ (.slice Ao19 t390.length co19 : Value).ownBlock ∧ some k_ ≠ (.slice Ao83 t410.length co83 : Value).ownBlock ∧ some k_ ≠ (.slice Ao141 t420.length co141 : Value).ownBlock ∧ some k_ ≠ (.slice Ao152 t432.length co152 : Value).ownBlock ∧ some k_ ≠ (.slice Ao157 t437.length co157 : Value).ownBlock) v428 t426) := ⟨by (with_reducible repeat (first | apply Kd.R_alloc | apply Kd.R_drewN | apply Kd.R_drew)); exact Kd.R_mono (Kd.R_far (p := ⟨gb441, 2, none⟩) (Kd.R_far (p := ⟨gb441, 1, none⟩) (Kd.R_far (p := ⟨gb441, 0, none⟩) (Kd.R_far (p := ⟨gb440, 2, none⟩) (Kd.R_far (p := ⟨gb440, 1, none⟩) (Kd.R_far (p := ⟨gb440, 0, none⟩) (Kd.R_types (Kd.R_types HO429.out BK440.out (by decide)) BK441.out (by decide)) (fun _ hk => hk.1.2) (.int .i64 t430)) (fun _ hk => hk.1.2) (.int .i64 t431)) (fun _ hk => hk.1.2) (.slice Ao152 t432.length co152)) (fun _ hk => hk.2) (.int .i64 t435)) (fun _ hk => hk.2) (.int .i64 t436)) (fun _ hk => hk.2) (.slice Ao157 t437.length co157)) (fun _ hk => ⟨hk.1.1.1.1.1.1.1.2, ⟨hk.1.1.1.1.1.1.2, ⟨hk.1.1.1.1.1.2, ⟨hk.1.1.1.1.2, ⟨hk.1.1.1.2, hk.1.1.2⟩⟩⟩⟩⟩)⟩
                          have n6_ : Aside0 (Kd.R (Kd.int .i64) 3 ((((((w146.setCell ⟨gb440, 0, none⟩ (.int .i64 t430)).setCell ⟨gb440, 1, none⟩ (.int .i64 t431)).setCell ⟨gb440, 2, none⟩ (.slice Ao152 t432.length co152)).setCell ⟨gb441, 0, none⟩ (.int .i64 t435)).setCell ⟨gb441, 1, none⟩ (.int .i64 t436)).setCell ⟨gb441, 2, none⟩ (.slice Ao157 t437.length co157)) w.heap.size (fun k_ => some k_ ≠ (.slice Ao11 t380.length co11 : Value).ownBlock ∧ some k_ ≠ (.slice Ao19 t390.length co19 : Value).ownBlock ∧ some k_ ≠ (.slice Ao83 t410.length co83 : Value).ownBlock ∧ some k_ ≠ (.slice Ao141 t420.length co141 : Value).ownBlock ∧ some k_ ≠ (v428 : Value).ownBlock ∧ some k_ ≠ (.slice Ao157 t437.length co157 : Value).ownBlock) (.slice Ao152 t432.length co152) t432) := ⟨by (with_reducible repeat (first | apply Kd.R_alloc | apply Kd.R_drewN | apply Kd.R_drew)); exact Kd.R_mono (Kd.R_far (p := ⟨gb441, 2, none⟩) (Kd.R_far (p := ⟨gb441, 1, none⟩) (Kd.R_far (p := ⟨gb441, 0, none⟩) (Kd.R_far (p := ⟨gb440, 2, none⟩) (Kd.R_far (p := ⟨gb440, 1, none⟩) (Kd.R_far (p := ⟨gb440, 0, none⟩) (Kd.R_types (Kd.R_types HO434.out BK440.out (by decide)) BK441.out (by decide)) (fun _ hk => hk.1.2) (.int .i64 t430)) (fun _ hk => hk.1.2) (.int .i64 t431)) (fun _ hk => hk.1.2) (.slice Ao152 t432.length co152)) (fun _ hk => hk.2) (.int .i64 t435)) (fun _ hk => hk.2) (.int .i64 t436)) (fun _ hk => hk.2) (.slice Ao157 t437.length co157)) (fun _ hk => ⟨hk.1.1.1.1.1.1.2, ⟨hk.1.1.1.1.1.2, ⟨hk.1.1.1.1.2, ⟨hk.1.1.1.2, ⟨hk.1.1.2, hk.1.1.1.1.1.1.1⟩⟩⟩⟩⟩)⟩
                          have n7_ : Aside0 (Kd.R (Kd.int .i64) 3 ((((((w146.setCell ⟨gb440, 0, none⟩ (.int .i64 t430)).setCell ⟨gb440, 1, none⟩ (.int .i64 t431)).setCell ⟨gb440, 2, none⟩ (.slice Ao152 t432.length co152)).setCell ⟨gb441, 0, none⟩ (.int .i64 t435)).setCell ⟨gb441, 1, none⟩ (.int .i64 t436)).setCell ⟨gb441, 2, none⟩ (.slice Ao157 t437.length co157)) w.heap.size (fun k_ => some k_ ≠ (.slice Ao11 t380.length co11 : Value).ownBlock ∧ some k_ ≠ (.slice Ao19 t390.length co19 : Value).ownBlock ∧ some k_ ≠ (.slice Ao83 t410.length co83 : Value).ownBlock ∧ some k_ ≠ (.slice Ao141 t420.length co141 : Value).ownBlock ∧ some k_ ≠ (v428 : Value).ownBlock ∧ some k_ ≠ (.slice Ao152 t432.length co152 : Value).ownBlock) (.slice Ao157 t437.length co157) t437) := ⟨by (with_reducible repeat (first | apply Kd.R_alloc | apply Kd.R_drewN | apply Kd.R_drew)); exact Kd.R_mono (Kd.R_far (p := ⟨gb441, 2, none⟩) (Kd.R_far (p := ⟨gb441, 1, none⟩) (Kd.R_far (p := ⟨gb441, 0, none⟩) (Kd.R_far (p := ⟨gb440, 2, none⟩) (Kd.R_far (p := ⟨gb440, 1, none⟩) (Kd.R_far (p := ⟨gb440, 0, none⟩) (Kd.R_types (Kd.R_types HO439.out BK440.out (by decide)) BK441.out (by decide)) (fun _ hk => hk.1.2) (.int .i64 t430)) (fun _ hk => hk.1.2) (.int .i64 t431)) (fun _ hk => hk.1.2) (.slice Ao152 t432.length co152)) (fun _ hk => hk.2) (.int .i64 t435)) (fun _ hk => hk.2) (.int .i64 t436)) (fun _ hk => hk.2) (.slice Ao157 t437.length co157)) (fun _ hk => ⟨hk.1.1.1.1.1.1.2, ⟨hk.1.1.1.1.1.2, ⟨hk.1.1.1.1.2, ⟨hk.1.1.1.2, ⟨hk.1.1.2, hk.1.1.1.1.1.1.1⟩⟩⟩⟩⟩)⟩
                          have n8_ : Aside0 (((((((w146.setCell ⟨gb440, 0, none⟩ (.int .i64 t430)).setCell ⟨gb440, 1, none⟩ (.int .i64 t431)).setCell ⟨gb440, 2, none⟩ (.slice Ao152 t432.length co152)).setCell ⟨gb441, 0, none⟩ (.int .i64 t435)).setCell ⟨gb441, 1, none⟩ (.int .i64 t436)).setCell ⟨gb441, 2, none⟩ (.slice Ao157 t437.length co157)).heap[gb383]? = some (.cells #[.int .i64 t378, .int .i64 t379, .slice Ao11 t380.length co11] 28 (0, 0))) := ⟨by (with_reducible repeat (first | refine blk_drewN ?_ _ | refine blk_drew ?_ | refine blk_alloc ?_ _)); refine blk_far ?_ NB383_441.out _; (with_reducible repeat (first | refine blk_drewN ?_ _ | refine blk_drew ?_ | refine blk_alloc ?_ _)); refine blk_far ?_ NB383_441.out _; (with_reducible repeat (first | refine blk_drewN ?_ _ | refine blk_drew ?_ | refine blk_alloc ?_ _)); refine blk_far ?_ NB383_441.out _; (with_reducible repeat (first | refine blk_drewN ?_ _ | refine blk_drew ?_ | refine blk_alloc ?_ _)); refine blk_far ?_ NB383_440.out _; (with_reducible repeat (first | refine blk_drewN ?_ _ | refine blk_drew ?_ | refine blk_alloc ?_ _)); refine blk_far ?_ NB383_440.out _; (with_reducible repeat (first | refine blk_drewN ?_ _ | refine blk_drew ?_ | refine blk_alloc ?_ _)); refine blk_far ?_ NB383_440.out _; (with_reducible repeat (first | refine blk_drewN ?_ _ | refine blk_drew ?_ | refine blk_alloc ?_ _)); exact BK383.out⟩
                          have n9_ : Aside0 (((((((w146.setCell ⟨gb440, 0, none⟩ (.int .i64 t430)).setCell ⟨gb440, 1, none⟩ (.int .i64 t431)).setCell ⟨gb440, 2, none⟩ (.slice Ao152 t432.length co152)).setCell ⟨gb441, 0, none⟩ (.int .i64 t435)).setCell ⟨gb441, 1, none⟩ (.int .i64 t436)).setCell ⟨gb441, 2, none⟩ (.slice Ao157 t437.length co157)).heap[gb394]? = some (.cells #[.int .i64 t388, .int .i64 t389, .slice Ao19 t390.length co19] 28 (0, 0))) := ⟨by (with_reducible repeat (first | refine blk_drewN ?_ _ | refine blk_drew ?_ | refine blk_alloc ?_ _)); refine blk_far ?_ NB394_441.out _; (with_reducible repeat (first | refine blk_drewN ?_ _ | refine blk_drew ?_ | refine blk_alloc ?_ _)); refine blk_far ?_ NB394_441.out _; (with_reducible repeat (first | refine blk_drewN ?_ _ | refine blk_drew ?_ | refine blk_alloc ?_ _)); refine blk_far ?_ NB394_441.out _; (with_reducible repeat (first | refine blk_drewN ?_ _ | refine blk_drew ?_ | refine blk_alloc ?_ _)); refine blk_far ?_ NB394_440.out _; (with_reducible repeat (first | refine blk_drewN ?_ _ | refine blk_drew ?_ | refine blk_alloc ?_ _)); refine blk_far ?_ NB394_440.out _; (with_reducible repeat (first | refine blk_drewN ?_ _ | refine blk_drew ?_ | refine blk_alloc ?_ _)); refine blk_far ?_ NB394_440.out _; (with_reducible repeat (first | refine blk_drewN ?_ _ | refine blk_drew ?_ | refine blk_alloc ?_ _)); exact BK394.out⟩
                          have n10_ : Aside0 (((((((w146.setCell ⟨gb440, 0, none⟩ (.int .i64 t430)).setCell ⟨gb440, 1, none⟩ (.int .i64 t431)).setCell ⟨gb440, 2, none⟩ (.slice Ao152 t432.length co152)).setCell ⟨gb441, 0, none⟩ (.int .i64 t435)).setCell ⟨gb441, 1, none⟩ (.int .i64 t436)).setCell ⟨gb441, 2, none⟩ (.slice Ao157 t437.length co157)).heap[gb413]? = some (.cells #[.int .i64 t408, .int .i64 t409, .slice Ao83 t410.length co83] 28 (0, 0))) := ⟨by (with_reducible repeat (first | refine blk_drewN ?_ _ | refine blk_drew ?_ | refine blk_alloc ?_ _)); refine blk_far ?_ NB413_441.out _; (with_reducible repeat (first | refine blk_drewN ?_ _ | refine blk_drew ?_ | refine blk_alloc ?_ _)); refine blk_far ?_ NB413_441.out _; (with_reducible repeat (first | refine blk_drewN ?_ _ | refine blk_drew ?_ | refine blk_alloc ?_ _)); refine blk_far ?_ NB413_441.out _; (with_reducible repeat (first | refine blk_drewN ?_ _ | refine blk_drew ?_ | refine blk_alloc ?_ _)); refine blk_far ?_ NB413_440.out _; (with_reducible repeat (first | refine blk_drewN ?_ _ | refine blk_drew ?_ | refine blk_alloc ?_ _)); refine blk_far ?_ NB413_440.out _; (with_reducible repeat (first | refine blk_drewN ?_ _ | refine blk_drew ?_ | refine blk_alloc ?_ _)); refine blk_far ?_ NB413_440.out _; (with_reducible repeat (first | refine blk_drewN ?_ _ | refine blk_drew ?_ | refine blk_alloc ?_ _)); exact BK413.out⟩
                          have n11_ : Aside0 (((((((w146.setCell ⟨gb440, 0, none⟩ (.int .i64 t430)).setCell ⟨gb440, 1, none⟩ (.int .i64 t431)).setCell ⟨gb440, 2, none⟩ (.slice Ao152 t432.length co152)).setCell ⟨gb441, 0, none⟩ (.int .i64 t435)).setCell ⟨gb441, 1, none⟩ (.int .i64 t436)).setCell ⟨gb441, 2, none⟩ (.slice Ao157 t437.length co157)).heap[gb440]? = some (.cells #[.int .i64 t430, .int .i64 t431, .slice Ao152 t432.length co152] 28 (0, 0))) := ⟨by (with_reducible repeat (first | refine blk_drewN ?_ _ | refine blk_drew ?_ | refine blk_alloc ?_ _)); refine blk_far ?_ NB440_441.out _; (with_reducible repeat (first | refine blk_drewN ?_ _ | refine blk_drew ?_ | refine blk_alloc ?_ _)); refine blk_far ?_ NB440_441.out _; (with_reducible repeat (first | refine blk_drewN ?_ _ | refine blk_drew ?_ | refine blk_alloc ?_ _)); refine blk_far ?_ NB440_441.out _; (with_reducible repeat (first | refine blk_drewN ?_ _ | refine blk_drew ?_ | refine blk_alloc ?_ _)); refine blk_put (cs := #[.int .i64 t430, .int .i64 t431, .slice none 0 0]) ?_ 2 _ rfl; (with_reducible repeat (first | refine blk_drewN ?_ _ | refine blk_drew ?_ | refine blk_alloc ?_ _)); refine blk_put (cs := #[.int .i64 t430, .int .i64 0, .slice none 0 0]) ?_ 1 _ rfl; (with_reducible repeat (first | refine blk_drewN ?_ _ | refine blk_drew ?_ | refine blk_alloc ?_ _)); refine blk_put (cs := #[.int .i64 0, .int .i64 0, .slice none 0 0]) ?_ 0 _ rfl; (with_reducible repeat (first | refine blk_drewN ?_ _ | refine blk_drew ?_ | refine blk_alloc ?_ _)); exact BK440.out⟩
                          have n12_ : Aside0 (((((((w146.setCell ⟨gb440, 0, none⟩ (.int .i64 t430)).setCell ⟨gb440, 1, none⟩ (.int .i64 t431)).setCell ⟨gb440, 2, none⟩ (.slice Ao152 t432.length co152)).setCell ⟨gb441, 0, none⟩ (.int .i64 t435)).setCell ⟨gb441, 1, none⟩ (.int .i64 t436)).setCell ⟨gb441, 2, none⟩ (.slice Ao157 t437.length co157)).heap[gb441]? = some (.cells #[.int .i64 t435, .int .i64 t436, .slice Ao157 t437.length co157] 28 (0, 0))) := ⟨by (with_reducible repeat (first | refine blk_drewN ?_ _ | refine blk_drew ?_ | refine blk_alloc ?_ _)); refine blk_put (cs := #[.int .i64 t435, .int .i64 t436, .slice none 0 0]) ?_ 2 _ rfl; (with_reducible repeat (first | refine blk_drewN ?_ _ | refine blk_drew ?_ | refine blk_alloc ?_ _)); refine blk_put (cs := #[.int .i64 t435, .int .i64 0, .slice none 0 0]) ?_ 1 _ rfl; (with_reducible repeat (first | refine blk_drewN ?_ _ | refine blk_drew ?_ | refine blk_alloc ?_ _)); refine blk_put (cs := #[.int .i64 0, .int .i64 0, .slice none 0 0]) ?_ 0 _ rfl; (with_reducible repeat (first | refine blk_drewN ?_ _ | refine blk_drew ?_ | refine blk_alloc ?_ _)); refine blk_far ?_ NB441_440.out _; (with_reducible repeat (first | refine blk_drewN ?_ _ | refine blk_drew ?_ | refine blk_alloc ?_ _)); refine blk_far ?_ NB441_440.out _; (with_reducible repeat (first | refine blk_drewN ?_ _ | refine blk_drew ?_ | refine blk_alloc ?_ _)); refine blk_far ?_ NB441_440.out _; (with_reducible repeat (first | refine blk_drewN ?_ _ | refine blk_drew ?_ | refine blk_alloc ?_ _)); exact BK441.out⟩
                          have n13_ : Aside0 (Below w.heap.size w ((((((w146.setCell ⟨gb440, 0, none⟩ (.int .i64 t430)).setCell ⟨gb440, 1, none⟩ (.int .i64 t431)).setCell ⟨gb440, 2, none⟩ (.slice Ao152 t432.length co152)).setCell ⟨gb441, 0, none⟩ (.int .i64 t435)).setCell ⟨gb441, 1, none⟩ (.int .i64 t436)).setCell ⟨gb441, 2, none⟩ (.slice Ao157 t437.length co157))) := ⟨by repeat (first | (with_reducible first | exact HB.out | apply below_alloc | apply pw_below_drewN | apply below_drew1 | refine below_set ?_ GE383.out | refine below_set ?_ GE394.out | refine below_set ?_ GE413.out | refine below_set ?_ GE440.out | refine below_set ?_ GE441.out) | exact HB.out)⟩
                          (try clear HO_384002)
                          (try clear HO_395002)
                          (try clear HO_414002)
                          (try clear HO423)
                          (try clear HO425)
                          (try clear HO429)
                          (try clear HO434)
                          (try clear HO439)
                          (try clear BK383)
                          (try clear BK394)
                          (try clear BK413)
                          (try clear BK440)
                          (try clear BK441)
                          (try clear HB)
                          generalize ((((((w146.setCell ⟨gb440, 0, none⟩ (.int .i64 t430)).setCell ⟨gb440, 1, none⟩ (.int .i64 t431)).setCell ⟨gb440, 2, none⟩ (.slice Ao152 t432.length co152)).setCell ⟨gb441, 0, none⟩ (.int .i64 t435)).setCell ⟨gb441, 1, none⟩ (.int .i64 t436)).setCell ⟨gb441, 2, none⟩ (.slice Ao157 t437.length co157)) = w158 at n0_ n1_ n2_ n3_ n4_ n5_ n6_ n7_ n8_ n9_ n10_ n11_ n12_ n13_ ⊢
                          have HO_384002 := n0_
                          have HO_395002 := n1_
                          have HO_414002 := n2_
                          have HO423 := n3_
                          have HO425 := n4_
                          have HO429 := n5_
                          have HO434 := n6_
                          have HO439 := n7_
                          have BK383 := n8_
                          have BK394 := n9_
                          have BK413 := n10_
                          have BK440 := n11_
                          have BK441 := n12_
                          have HB := n13_
                          clear n0_ n1_ n2_ n3_ n4_ n5_ n6_ n7_ n8_ n9_ n10_ n11_ n12_ n13_
                          have n0_ := Aside0.mk (Kd.R_drew HO_384002.out)
                          have n1_ := Aside0.mk (Kd.R_drew HO_395002.out)
                          have n2_ := Aside0.mk (Kd.R_drew HO_414002.out)
                          have n3_ := Aside0.mk (Kd.R_drew HO423.out)
                          have n4_ := Aside0.mk (Kd.S_drew HO425.out)
                          have n5_ := Aside0.mk (Kd.R_drew HO429.out)
                          have n6_ := Aside0.mk (Kd.R_drew HO434.out)
                          have n7_ := Aside0.mk (Kd.R_drew HO439.out)
                          have n8_ := Aside0.mk (blk_drew BK383.out)
                          have n9_ := Aside0.mk (blk_drew BK394.out)
                          have n10_ := Aside0.mk (blk_drew BK413.out)
                          have n11_ := Aside0.mk (blk_drew BK440.out)
                          have n12_ := Aside0.mk (blk_drew BK441.out)
                          have n13_ := Aside0.mk (below_drew1 HB.out)
                          clear HO_384002
                          clear HO_395002
                          clear HO_414002
                          clear HO423
                          clear HO425
                          clear HO429
                          clear HO434
                          clear HO439
                          clear BK383
                          clear BK394
                          clear BK413
                          clear BK440
                          clear BK441
                          clear HB
                          have HO_384002 := n0_
                          have HO_395002 := n1_
                          have HO_414002 := n2_
                          have HO423 := n3_
                          have HO425 := n4_
                          have HO429 := n5_
                          have HO434 := n6_
                          have HO439 := n7_
                          have BK383 := n8_
                          have BK394 := n9_
                          have BK413 := n10_
                          have BK440 := n11_
                          have BK441 := n12_
                          have HB := n13_
                          clear n0_ n1_ n2_ n3_ n4_ n5_ n6_ n7_ n8_ n9_ n10_ n11_ n12_ n13_
                          refine start_ (n := 18) (S := fun w' => w'.cell? ⟨gb440, 0, none⟩ = some (.int .i64 t430) ∧ w'.cell? ⟨gb440, 1, none⟩ = some (.int .i64 t431) ∧ w'.cell? ⟨gb440, 2, none⟩ = some (.slice Ao152 t432.length co152) ∧ w'.cell? ⟨gb441, 0, none⟩ = some (.int .i64 t435) ∧ w'.cell? ⟨gb441, 1, none⟩ = some (.int .i64 t436) ∧ w'.cell? ⟨gb441, 2, none⟩ = some (.slice Ao157 t437.length co157)) (ds := []) #[false, false, false, false, false, false, false, false, false, false, false, false, false, false, false, false, false, false] (by kernel_rfl) rfl rfl ⟨(blk_cell BK440.out 0).trans rfl, (blk_cell BK440.out 1).trans rfl, (blk_cell BK440.out 2).trans rfl, (blk_cell BK441.out 0).trans rfl, (blk_cell BK441.out 1).trans rfl, (blk_cell BK441.out 2).trans rfl⟩ (fun hHeld => ?_); refine with_tabW laws_FnAmendments.tab21 laws_FnAmendments.bits21 (fun HT_ HW_ => ?_)
                          generalize w158.drew = w159 at HO_384002 HO_395002 HO_414002 HO423 HO425 HO429 HO434 HO439 BK383 BK394 BK413 BK440 BK441 HB hHeld ⊢
                          refine pure_ (i := 0) (N := some 167) (v := ?_) (a' := ?_) #[true, false, false, false, false, false, false, false, false, false, false, false, false, false, false, false, false, false] rfl rfl (any_of HT_.out (by kernel_rfl)) (fun _ _ _ h => h) (Or.inl ⟨by rfl, ?_⟩) ?_ ?_
                          rotate_left
                          · intro w'
                            go_simp
                            with_reducible rfl
                          rotate_left
                          · simp only [Act.put, List.setIfInBounds_toArray, List.set_cons_zero, List.set_cons_succ, i64_w, i32_w]
                            rfl
                          refine pure_ (i := 1) (N := some 168) (v := ?_) (a' := ?_) #[true, true, false, false, false, false, false, false, false, false, false, false, false, false, false, false, false, false] rfl rfl (any_of HT_.out (by kernel_rfl)) (fun _ _ _ h => h) (Or.inl ⟨by rfl, ?_⟩) ?_ ?_
                          rotate_left
                          · intro w'
                            go_simp
                            with_reducible rfl
                          rotate_left
                          · simp only [Act.put, List.setIfInBounds_toArray, List.set_cons_zero, List.set_cons_succ, i64_w, i32_w]
                            rfl
                          refine pure_ (i := 2) (N := some 169) (v := ?_) (a' := ?_) #[true, true, true, false, false, false, false, false, false, false, false, false, false, false, false, false, false, false] rfl rfl (any_of HT_.out (by kernel_rfl)) (fun _ _ _ h => h) (Or.inl ⟨by rfl, ?_⟩) ?_ ?_
                          rotate_left
                          · intro w'
                            go_simp
                            with_reducible rfl
                          rotate_left
                          · simp only [Act.put, List.setIfInBounds_toArray, List.set_cons_zero, List.set_cons_succ, i64_w, i32_w]
                            rfl
                          refine pure_ (i := 3) (N := some 170) (v := ?_) (a' := ?_) #[true, true, true, true, false, false, false, false, false, false, false, false, false, false, false, false, false, false] rfl rfl (any_of HT_.out (by kernel_rfl)) (fun _ _ _ h => h) (Or.inl ⟨by rfl, ?_⟩) ?_ ?_
                          rotate_left
                          · intro w'
                            go_simp
                            with_reducible rfl
                          rotate_left
                          · simp only [Act.put, List.setIfInBounds_toArray, List.set_cons_zero, List.set_cons_succ, i64_w, i32_w]
                            rfl
                          refine pure_ (i := 4) (N := some 171) (v := ?_) (a' := ?_) #[true, true, true, true, true, false, false, false, false, false, false, false, false, false, false, false, false, false] rfl rfl (any_of HT_.out (by kernel_rfl)) (fun _ _ _ h => h) (Or.inl ⟨by rfl, ?_⟩) ?_ ?_
                          rotate_left
                          · intro w'
                            go_simp
                            with_reducible rfl
                          rotate_left
                          · simp only [Act.put, List.setIfInBounds_toArray, List.set_cons_zero, List.set_cons_succ, i64_w, i32_w]
                            rfl
                          refine pure_ (i := 5) (N := some 172) (v := ?_) (a' := ?_) #[true, true, true, true, true, true, false, false, false, false, false, false, false, false, false, false, false, false] rfl rfl (any_of HT_.out (by kernel_rfl)) (fun _ _ _ h => h) (Or.inl ⟨by rfl, ?_⟩) ?_ ?_
                          rotate_left
                          · intro w'
                            go_simp
                            with_reducible rfl
                          rotate_left
                          · simp only [Act.put, List.setIfInBounds_toArray, List.set_cons_zero, List.set_cons_succ, i64_w, i32_w]
                            rfl
                          refine pure_ (i := 6) (N := some 173) (v := ?_) (a' := ?_) #[true, true, true, true, true, true, true, false, false, false, false, false, false, false, false, false, false, false] rfl rfl (any_of HT_.out (by kernel_rfl)) (fun _ _ _ h => h) (Or.inl ⟨by rfl, ?_⟩) ?_ ?_
                          rotate_left
                          · intro w'
                            go_simp
                            with_reducible rfl
                          rotate_left
                          · simp only [Act.put, List.setIfInBounds_toArray, List.set_cons_zero, List.set_cons_succ, i64_w, i32_w]
                            rfl
                          refine pure_ (i := 7) (N := some 174) (v := ?_) (a' := ?_) #[true, true, true, true, true, true, true, true, false, false, false, false, false, false, false, false, false, false] rfl rfl (any_of HT_.out (by kernel_rfl)) (fun _ _ _ h => h) (Or.inl ⟨by rfl, ?_⟩) ?_ ?_
                          rotate_left
                          · intro w'
                            go_simp
                            with_reducible rfl
                          rotate_left
                          · simp only [Act.put, List.setIfInBounds_toArray, List.set_cons_zero, List.set_cons_succ, i64_w, i32_w]
                            rfl
                          refine pure_ (i := 8) (N := some 175) (v := ?_) (a' := ?_) #[true, true, true, true, true, true, true, true, true, false, false, false, false, false, false, false, false, false] rfl rfl (any_of HT_.out (by kernel_rfl)) (fun _ _ _ h => h) (Or.inl ⟨by rfl, ?_⟩) ?_ ?_
                          rotate_left
                          · intro w'
                            go_simp
                            with_reducible rfl
                          rotate_left
                          · simp only [Act.put, List.setIfInBounds_toArray, List.set_cons_zero, List.set_cons_succ, i64_w, i32_w]
                            rfl
                          refine take_ (i := 9) (N := some 176) (v := ?_) (a' := ?_) #[true, true, true, true, true, true, true, true, true, true, false, false, false, false, false, false, false, false] rfl rfl (take_ofW HT_.out HW_.out (by kernel_rfl)) (fun _ _ _ h => h) (Or.inl ⟨by rfl, ?_⟩) hHeld ?_ ?_
                          rotate_left
                          · rintro w' ⟨s0, s1, s2, s3, s4, s5⟩
                            go_simp
                            with_reducible rfl
                          rotate_left
                          · simp only [Act.put, List.setIfInBounds_toArray, List.set_cons_zero, List.set_cons_succ, i64_w, i32_w]
                            rfl
                          refine take_ (i := 10) (N := some 177) (v := ?_) (a' := ?_) #[true, true, true, true, true, true, true, true, true, true, true, false, false, false, false, false, false, false] rfl rfl (take_ofW HT_.out HW_.out (by kernel_rfl)) (fun _ _ _ h => h) (Or.inl ⟨by rfl, ?_⟩) hHeld ?_ ?_
                          rotate_left
                          · rintro w' ⟨s0, s1, s2, s3, s4, s5⟩
                            go_simp
                            with_reducible rfl
                          rotate_left
                          · simp only [Act.put, List.setIfInBounds_toArray, List.set_cons_zero, List.set_cons_succ, i64_w, i32_w]
                            rfl
                          refine take_ (i := 12) (N := some 179) (v := ?_) (a' := ?_) #[true, true, true, true, true, true, true, true, true, true, true, false, true, false, false, false, false, false] rfl rfl (take_ofW HT_.out HW_.out (by kernel_rfl)) (fun _ _ _ h => h) (Or.inl ⟨by rfl, ?_⟩) hHeld ?_ ?_
                          rotate_left
                          · rintro w' ⟨s0, s1, s2, s3, s4, s5⟩
                            go_simp
                            with_reducible rfl
                          rotate_left
                          · simp only [Act.put, List.setIfInBounds_toArray, List.set_cons_zero, List.set_cons_succ, i64_w, i32_w]
                            rfl
                          refine take_ (i := 13) (N := some 180) (v := ?_) (a' := ?_) #[true, true, true, true, true, true, true, true, true, true, true, false, true, true, false, false, false, false] rfl rfl (take_ofW HT_.out HW_.out (by kernel_rfl)) (fun _ _ _ h => h) (Or.inl ⟨by rfl, ?_⟩) hHeld ?_ ?_
                          rotate_left
                          · rintro w' ⟨s0, s1, s2, s3, s4, s5⟩
                            go_simp
                            with_reducible rfl
                          rotate_left
                          · simp only [Act.put, List.setIfInBounds_toArray, List.set_cons_zero, List.set_cons_succ, i64_w, i32_w]
                            rfl
                          refine one_ (i := 11) (N := some 178) #[true, true, true, true, true, true, true, true, true, true, true, true, true, true, false, false, false, false] rfl rfl (one_of HT_.out (by kernel_rfl)) (by decide) (fun K hK => ?_)
                          refine goes_ Try.func22 (by kernel_rfl) rfl #[.agg #[.int .i64 t430, .int .i64 t431, .slice Ao152 t432.length co152], .agg #[.int .i64 t435, .int .i64 t436, .slice Ao157 t437.length co157]] (by rfl) rfl rfl (by (try simp only [List.map_toArray, List.map_cons, List.map_nil]); first | done | rfl | (simp only [List.length_drop, List.length_take]; rfl)) ?_
                          with_reducible refine (impl_Clash.calls t430 t431 _ _ t432 t435 t436 _ _ t437 t442 _ ?side1 ?side2 ?side3 ?side4 A138.out).mono ?_
                          (case side1 => repeat (first | exact (Kd.R_reads' HO434.out).2.2 | (with_reducible refine Kd.C_alloc ?_ _) | (with_reducible refine Kd.C_drewN ?_ _) | (with_reducible refine Kd.C_drew ?_)))
                          (case side2 => exact (Kd.R_reads' HO434.out).2.1)
                          (case side3 => repeat (first | exact (Kd.R_reads' HO439.out).2.2 | (with_reducible refine Kd.C_alloc ?_ _) | (with_reducible refine Kd.C_drewN ?_ _) | (with_reducible refine Kd.C_drew ?_)))
                          (case side4 => exact (Kd.R_reads' HO439.out).2.1)
                          rintro e w160 ⟨rfl, hb⟩
                          refine ⟨_, rfl, ?_⟩
                          have n0_ := Aside0.mk (Kd.R_below (by (with_reducible repeat (first | apply Kd.R_alloc | apply Kd.R_drewN | apply Kd.R_drew)); exact HO_384002.out) hb)
                          have n1_ := Aside0.mk (Kd.R_below (by (with_reducible repeat (first | apply Kd.R_alloc | apply Kd.R_drewN | apply Kd.R_drew)); exact HO_395002.out) hb)
                          have n2_ := Aside0.mk (Kd.R_below (by (with_reducible repeat (first | apply Kd.R_alloc | apply Kd.R_drewN | apply Kd.R_drew)); exact HO_414002.out) hb)
                          have n3_ := Aside0.mk (Kd.R_below (by (with_reducible repeat (first | apply Kd.R_alloc | apply Kd.R_drewN | apply Kd.R_drew)); exact HO423.out) hb)
                          have n4_ := Aside0.mk (Kd.S_below (by (with_reducible repeat (first | apply Kd.S_alloc | apply Kd.S_drewN | apply Kd.S_drew)); exact HO425.out) hb)
                          have n5_ := Aside0.mk (Kd.R_below (by (with_reducible repeat (first | apply Kd.R_alloc | apply Kd.R_drewN | apply Kd.R_drew)); exact HO429.out) hb)
                          have n6_ := Aside0.mk (Kd.R_below (by (with_reducible repeat (first | apply Kd.R_alloc | apply Kd.R_drewN | apply Kd.R_drew)); exact HO434.out) hb)
                          have n7_ := Aside0.mk (Kd.R_below (by (with_reducible repeat (first | apply Kd.R_alloc | apply Kd.R_drewN | apply Kd.R_drew)); exact HO439.out) hb)
                          have n8_ := Aside0.mk (blk_below (g := gb383) (o := .cells #[.int .i64 t378, .int .i64 t379, .slice Ao11 t380.length co11] 28 (0, 0)) (by (with_reducible repeat (first | refine blk_drewN ?_ _ | refine blk_drew ?_ | refine blk_alloc ?_ _)); exact BK383.out) hb)
                          have n9_ := Aside0.mk (blk_below (g := gb394) (o := .cells #[.int .i64 t388, .int .i64 t389, .slice Ao19 t390.length co19] 28 (0, 0)) (by (with_reducible repeat (first | refine blk_drewN ?_ _ | refine blk_drew ?_ | refine blk_alloc ?_ _)); exact BK394.out) hb)
                          have n10_ := Aside0.mk (blk_below (g := gb413) (o := .cells #[.int .i64 t408, .int .i64 t409, .slice Ao83 t410.length co83] 28 (0, 0)) (by (with_reducible repeat (first | refine blk_drewN ?_ _ | refine blk_drew ?_ | refine blk_alloc ?_ _)); exact BK413.out) hb)
                          have n11_ := Aside0.mk (blk_below (g := gb440) (o := .cells #[.int .i64 t430, .int .i64 t431, .slice Ao152 t432.length co152] 28 (0, 0)) (by (with_reducible repeat (first | refine blk_drewN ?_ _ | refine blk_drew ?_ | refine blk_alloc ?_ _)); exact BK440.out) hb)
                          have n12_ := Aside0.mk (blk_below (g := gb441) (o := .cells #[.int .i64 t435, .int .i64 t436, .slice Ao157 t437.length co157] 28 (0, 0)) (by (with_reducible repeat (first | refine blk_drewN ?_ _ | refine blk_drew ?_ | refine blk_alloc ?_ _)); exact BK441.out) hb)
                          have n13_ := Aside0.mk (below_step (by repeat (first | (with_reducible first | exact HB.out | apply below_alloc | apply pw_below_drewN | apply below_drew1 | refine below_set ?_ GE383.out | refine below_set ?_ GE394.out | refine below_set ?_ GE413.out | refine below_set ?_ GE440.out | refine below_set ?_ GE441.out) | exact HB.out)) hb)
                          clear HO_384002
                          clear HO_395002
                          clear HO_414002
                          clear HO423
                          clear HO425
                          clear HO429
                          clear HO434
                          clear HO439
                          clear BK383
                          clear BK394
                          clear BK413
                          clear BK440
                          clear BK441
                          clear HB
                          have HO_384002 := n0_
                          have HO_395002 := n1_
                          have HO_414002 := n2_
                          have HO423 := n3_
                          have HO425 := n4_
                          have HO429 := n5_
                          have HO434 := n6_
                          have HO439 := n7_
                          have BK383 := n8_
                          have BK394 := n9_
                          have BK413 := n10_
                          have BK440 := n11_
                          have BK441 := n12_
                          have HB := n13_
                          clear n0_ n1_ n2_ n3_ n4_ n5_ n6_ n7_ n8_ n9_ n10_ n11_ n12_ n13_
                          (try clear hb)
                          (try clear hb2)
                          (try clear hk)
                          (try clear hi)
                          refine hK.out _ _ ⟨(blk_cell BK440.out 0).trans rfl, (blk_cell BK440.out 1).trans rfl, (blk_cell BK440.out 2).trans rfl, (blk_cell BK441.out 0).trans rfl, (blk_cell BK441.out 1).trans rfl, (blk_cell BK441.out 2).trans rfl⟩ (fun hHeld => ?_)
                          clear hK K
                          refine norm_ (a' := ?_) ?_ ?_
                          rotate_left
                          · show Act.put _ (some 178) _ = _
                            simp only [Act.put, List.setIfInBounds_toArray, List.set_cons_zero, List.set_cons_succ, i64_w, i32_w]
                            rfl
                          refine one_ (i := 14) (N := some 181) #[true, true, true, true, true, true, true, true, true, true, true, true, true, true, true, false, false, false] rfl rfl (one_of HT_.out (by kernel_rfl)) (by decide) (fun K hK => ?_)
                          refine goes_ Try.func22 (by kernel_rfl) rfl #[.agg #[.int .i64 t435, .int .i64 t436, .slice Ao157 t437.length co157], .agg #[.int .i64 t430, .int .i64 t431, .slice Ao152 t432.length co152]] (by rfl) rfl rfl (by (try simp only [List.map_toArray, List.map_cons, List.map_nil]); first | done | rfl | (simp only [List.length_drop, List.length_take]; rfl)) ?_
                          with_reducible refine (impl_Clash.calls t435 t436 _ _ t437 t430 t431 _ _ t432 t443 _ ?side1 ?side2 ?side3 ?side4 A139.out).mono ?_
                          (case side1 => repeat (first | exact (Kd.R_reads' HO439.out).2.2 | (with_reducible refine Kd.C_alloc ?_ _) | (with_reducible refine Kd.C_drewN ?_ _) | (with_reducible refine Kd.C_drew ?_)))
                          (case side2 => exact (Kd.R_reads' HO439.out).2.1)
                          (case side3 => repeat (first | exact (Kd.R_reads' HO434.out).2.2 | (with_reducible refine Kd.C_alloc ?_ _) | (with_reducible refine Kd.C_drewN ?_ _) | (with_reducible refine Kd.C_drew ?_)))
                          (case side4 => exact (Kd.R_reads' HO434.out).2.1)
                          rintro e w161 ⟨rfl, hb⟩
                          refine ⟨_, rfl, ?_⟩
                          have n0_ := Aside0.mk (Kd.R_below (by (with_reducible repeat (first | apply Kd.R_alloc | apply Kd.R_drewN | apply Kd.R_drew)); exact HO_384002.out) hb)
                          have n1_ := Aside0.mk (Kd.R_below (by (with_reducible repeat (first | apply Kd.R_alloc | apply Kd.R_drewN | apply Kd.R_drew)); exact HO_395002.out) hb)
                          have n2_ := Aside0.mk (Kd.R_below (by (with_reducible repeat (first | apply Kd.R_alloc | apply Kd.R_drewN | apply Kd.R_drew)); exact HO_414002.out) hb)
                          have n3_ := Aside0.mk (Kd.R_below (by (with_reducible repeat (first | apply Kd.R_alloc | apply Kd.R_drewN | apply Kd.R_drew)); exact HO423.out) hb)
                          have n4_ := Aside0.mk (Kd.S_below (by (with_reducible repeat (first | apply Kd.S_alloc | apply Kd.S_drewN | apply Kd.S_drew)); exact HO425.out) hb)
                          have n5_ := Aside0.mk (Kd.R_below (by (with_reducible repeat (first | apply Kd.R_alloc | apply Kd.R_drewN | apply Kd.R_drew)); exact HO429.out) hb)
                          have n6_ := Aside0.mk (Kd.R_below (by (with_reducible repeat (first | apply Kd.R_alloc | apply Kd.R_drewN | apply Kd.R_drew)); exact HO434.out) hb)
                          have n7_ := Aside0.mk (Kd.R_below (by (with_reducible repeat (first | apply Kd.R_alloc | apply Kd.R_drewN | apply Kd.R_drew)); exact HO439.out) hb)
                          have n8_ := Aside0.mk (blk_below (g := gb383) (o := .cells #[.int .i64 t378, .int .i64 t379, .slice Ao11 t380.length co11] 28 (0, 0)) (by (with_reducible repeat (first | refine blk_drewN ?_ _ | refine blk_drew ?_ | refine blk_alloc ?_ _)); exact BK383.out) hb)
                          have n9_ := Aside0.mk (blk_below (g := gb394) (o := .cells #[.int .i64 t388, .int .i64 t389, .slice Ao19 t390.length co19] 28 (0, 0)) (by (with_reducible repeat (first | refine blk_drewN ?_ _ | refine blk_drew ?_ | refine blk_alloc ?_ _)); exact BK394.out) hb)
                          have n10_ := Aside0.mk (blk_below (g := gb413) (o := .cells #[.int .i64 t408, .int .i64 t409, .slice Ao83 t410.length co83] 28 (0, 0)) (by (with_reducible repeat (first | refine blk_drewN ?_ _ | refine blk_drew ?_ | refine blk_alloc ?_ _)); exact BK413.out) hb)
                          have n11_ := Aside0.mk (blk_below (g := gb440) (o := .cells #[.int .i64 t430, .int .i64 t431, .slice Ao152 t432.length co152] 28 (0, 0)) (by (with_reducible repeat (first | refine blk_drewN ?_ _ | refine blk_drew ?_ | refine blk_alloc ?_ _)); exact BK440.out) hb)
                          have n12_ := Aside0.mk (blk_below (g := gb441) (o := .cells #[.int .i64 t435, .int .i64 t436, .slice Ao157 t437.length co157] 28 (0, 0)) (by (with_reducible repeat (first | refine blk_drewN ?_ _ | refine blk_drew ?_ | refine blk_alloc ?_ _)); exact BK441.out) hb)
                          have n13_ := Aside0.mk (below_step (by repeat (first | (with_reducible first | exact HB.out | apply below_alloc | apply pw_below_drewN | apply below_drew1 | refine below_set ?_ GE383.out | refine below_set ?_ GE394.out | refine below_set ?_ GE413.out | refine below_set ?_ GE440.out | refine below_set ?_ GE441.out) | exact HB.out)) hb)
                          clear HO_384002
                          clear HO_395002
                          clear HO_414002
                          clear HO423
                          clear HO425
                          clear HO429
                          clear HO434
                          clear HO439
                          clear BK383
                          clear BK394
                          clear BK413
                          clear BK440
                          clear BK441
                          clear HB
                          have HO_384002 := n0_
                          have HO_395002 := n1_
                          have HO_414002 := n2_
                          have HO423 := n3_
                          have HO425 := n4_
                          have HO429 := n5_
                          have HO434 := n6_
                          have HO439 := n7_
                          have BK383 := n8_
                          have BK394 := n9_
                          have BK413 := n10_
                          have BK440 := n11_
                          have BK441 := n12_
                          have HB := n13_
                          clear n0_ n1_ n2_ n3_ n4_ n5_ n6_ n7_ n8_ n9_ n10_ n11_ n12_ n13_
                          (try clear hb)
                          (try clear hb2)
                          (try clear hk)
                          (try clear hi)
                          refine hK.out _ _ ⟨(blk_cell BK440.out 0).trans rfl, (blk_cell BK440.out 1).trans rfl, (blk_cell BK440.out 2).trans rfl, (blk_cell BK441.out 0).trans rfl, (blk_cell BK441.out 1).trans rfl, (blk_cell BK441.out 2).trans rfl⟩ (fun hHeld => ?_)
                          clear hK K
                          refine norm_ (a' := ?_) ?_ ?_
                          rotate_left
                          · show Act.put _ (some 181) _ = _
                            simp only [Act.put, List.setIfInBounds_toArray, List.set_cons_zero, List.set_cons_succ, i64_w, i32_w]
                            rfl
                          refine pure_ (i := 15) (N := some 182) (v := ?_) (a' := ?_) #[true, true, true, true, true, true, true, true, true, true, true, true, true, true, true, true, false, false] rfl rfl (any_of HT_.out (by kernel_rfl)) (fun _ _ _ h => h) (Or.inl ⟨by rfl, ?_⟩) ?_ ?_
                          rotate_left
                          · intro w'
                            go_simp
                            with_reducible rfl
                          rotate_left
                          · simp only [Act.put, List.setIfInBounds_toArray, List.set_cons_zero, List.set_cons_succ, i64_w, i32_w]
                            rfl
                          refine pure_ (i := 16) (N := some 183) (v := ?_) (a' := ?_) #[true, true, true, true, true, true, true, true, true, true, true, true, true, true, true, true, true, false] rfl rfl (any_of HT_.out (by kernel_rfl)) (fun _ _ _ h => h) (Or.inl ⟨by rfl, ?_⟩) ?_ ?_
                          rotate_left
                          · intro w'
                            go_simp
                            with_reducible rfl
                          rotate_left
                          · simp only [Act.put, List.setIfInBounds_toArray, List.set_cons_zero, List.set_cons_succ, i64_w, i32_w]
                            rfl
                          refine pure_ (i := 17) (N := some 2) (v := ?_) (a' := ?_) #[true, true, true, true, true, true, true, true, true, true, true, true, true, true, true, true, true, true] rfl rfl (any_of HT_.out (by kernel_rfl)) (fun _ _ _ h => h) (Or.inl ⟨by rfl, ?_⟩) ?_ ?_
                          rotate_left
                          · intro w'
                            go_simp
                            with_reducible rfl
                          rotate_left
                          · simp only [Act.put, List.setIfInBounds_toArray, List.set_cons_zero, List.set_cons_succ, i64_w, i32_w]
                            rfl
                          refine done_ (done_of HT_.out (by kernel_rfl)) ?_
                          try go_wp2
                          go_ret
                          exact ⟨by first | rfl | (simp [errW_none, errW_some] <;> rfl) | (simp [*, errW_none, errW_some] <;> rfl), by repeat (first | (with_reducible first | exact HB.out | apply below_alloc | apply pw_below_drewN | apply below_drew1 | refine below_set ?_ GE383.out | refine below_set ?_ GE394.out | refine below_set ?_ GE413.out | refine below_set ?_ GE440.out | refine below_set ?_ GE441.out) | exact HB.out)⟩
                        · rw [if_neg c137] at H
                          have c137b0 : decide (t427 ≤ (t421.length : Int)) = false := decide_eq_false c137
                          clear c137
                          exact absurd ((Option.some.inj H).trans hr_) (by decide)
                      · rw [if_neg c136] at H
                        have c136b0 : decide (0 ≤ t427) = false := decide_eq_false c136
                        clear c136
                        exact absurd ((Option.some.inj H).trans hr_) (by decide)

/-- THE ONE PURE STATEMENT of laws_FnAmendments: yours. -/
def laws_FnAmendments.Pure : Prop := ∀ (l0 : List Int), l0.length ≤ maxLen → l0.length * 1 ≤ 140737488351232 → (∀ x ∈ l0, (Lit.int .u8 x).wf = true) → ∃ k, laws_FnAmendments.f k l0 = some true
theorem laws_FnAmendments.walk (P : laws_FnAmendments.Pure) (a0 : Option Addr) (len0 cap0 : Nat) (z0 : List Int) (w : World) (w0 : (a0 = none ∧ len0 = 0 ∧ cap0 = 0 ∧ z0 = []) ∨ ∃ x, a0 = some x ∧ len0 ≤ cap0 ∧ cap0 ≤ maxLen ∧ z0.length = cap0 ∧ (∀ i, i < z0.length → w.cell? (x.add i) = some (.int .u8 (z0.getD i 0))) ∧ ∀ n ∈ z0, (Lit.int .u8 n).wf = true) (y0 : len0 * 1 ≤ 140737488351232) :
    Calls Try.prog 9 #[.slice a0 len0 cap0] w fun e w' => e = .returned (.bool true) ∧ Below w.heap.size w w' := by
  obtain ⟨l0, rfl, hr0, hm0, hw0, hc0⟩ := ReadsInt.ofRowC w0
  obtain ⟨k, h⟩ := P l0 hm0 y0 hw0
  refine (laws_FnAmendments.calls k _ _ l0 true w (Kd.C_of_reads (d := (0 : Int)) (h1 := fun _ => rfl) hr0) hc0 rfl h).mono ?_
  rintro e w' ⟨rfl, hd⟩
  exact ⟨rfl, hd⟩

end Go.Proofs.Ytfdalcklgfdadaa.QFnAmendments
