-- Laid by this session's own program (wip/myprint.py), the kit's printer its engine; turned by hand where that fell. Lean checks it.
import Derived.Test.YtimikonnmcgljaaQFnOffersx0
import Derived.Test.YtimikonnmcgljaaQFnOffersx1
import Derived.Test.YtimikonnmcgljaaQFnOffersx9
import Derived.Test.YtimikonnmcgljaaQFnOffersx10
import Derived.Test.YtimikonnmcgljaaQFnOffersx11
import Derived.Test.YtimikonnmcgljaaQFnOffersx15
namespace Go.Proofs.Ytimikonnmcgljaa.QFnOffers
open Go.RowKit Go.Proofs.YtimikonnmcgljaaW.PrintWords Go.Proofs.YtimikonnmcgljaaW.PrintLast Go.Proofs.YtimikonnmcgljaaW.PrintMore
attribute [local go_sem] max2_int min2_int max_two min_two max_three min_three max_four min_four   -- for this text's walks alone
set_option linter.unusedVariables false
set_option linter.unusedSimpArgs false

/-! ### laws_FnOffers: function 8 -/
mutual
def laws_FnOffers.j0 : Nat → List Int → List (S46) → Bool → Int → Int → Int → Option (Bool)
 | 0, _, _, _, _, _, _ => none
 | k + 1, x0, x4, x60, x432000, x432001, x432002 => if x60 = true then (some false) else ((impl_AreOffers.f k x432000 x432001 x432002 x4).bind fun t439 => (if t439 = true then (laws_FnOffers.l0 k x0 x4 0 1) else (laws_FnOffers.j2 k x0)))
def laws_FnOffers.j2 : Nat → List Int → Option (Bool)
 | 0, _ => none
 | k + 1, x0 => (spec_DrawRefusedOf.f k x0).bind fun t441 => ((impl_RefusedOf.f k t441).bind fun t444 => (laws_FnOffers.l1 k t441 t444 0))
def laws_FnOffers.l1 : Nat → List (S46) → List Int → Int → Option (Bool)
 | 0, _, _, _ => none
 | k + 1, x10, x11, x12 => if x12 < (x10.length : Int) then (if 0 ≤ x12 then ((laws_contains.f k x11 ((rd_T46 x10 x12).f1)).bind fun t449 => ((impl_TakenFrom.f k x10 ((rd_T46 x10 x12).f1)).bind fun t451 => (if (t449 != (t451 == 0)) = true then (some false) else (laws_FnOffers.l1 k x10 x11 (wrap64 (x12 + 1)))))) else (none)) else ((laws_ascends.f k x11).bind fun t447 => (some t447))
def laws_FnOffers.l0 : Nat → List Int → List (S46) → Int → Int → Option (Bool)
 | 0, _, _, _, _ => none
 | k + 1, x0, x4, x8, x9 => if x9 < 100 then ((impl_TakenFrom.f k x4 x9).bind fun t440 => (laws_FnOffers.l0 k x0 x4 (wrap64 (x8 + t440)) (wrap64 (x9 + 1)))) else (if x8 > 2 then (some false) else (laws_FnOffers.j2 k x0))
end
def laws_FnOffers.f (k : Nat) (l0 : List Int) : Option (Bool) := (laws_big.f l0).bind fun t421 => (if t421 = true then (some true) else ((spec_DrawMakeOffer.f k l0).bind fun bt422 => ((impl_MakeOffer.f k bt422.1 bt422.2.1 bt422.2.2.1 bt422.2.2.2.1 bt422.2.2.2.2.1 bt422.2.2.2.2.2.1 bt422.2.2.2.2.2.2).bind fun bt433 => (if bt433.2 = true then ((impl_AreOffers.f k bt422.1 bt422.2.1 bt422.2.2.1 bt433.1).bind fun t437 => (if t437 = true then ((impl_MayOffer.f bt422.1 bt422.2.1 bt422.2.2.1 bt422.2.2.2.2.1).bind fun t438 => (if t438 = true then (if (bt433.1.length : Int) = (wrap64 ((bt422.2.2.2.1.length : Int) + 1)) then (laws_FnOffers.j0 k l0 bt422.2.2.2.1 false bt422.1 bt422.2.1 bt422.2.2.1) else (laws_FnOffers.j0 k l0 bt422.2.2.2.1 true bt422.1 bt422.2.1 bt422.2.2.1)) else (laws_FnOffers.j0 k l0 bt422.2.2.2.1 true bt422.1 bt422.2.1 bt422.2.2.1))) else (laws_FnOffers.j0 k l0 bt422.2.2.2.1 true bt422.1 bt422.2.1 bt422.2.2.1))) else (laws_FnOffers.j0 k l0 bt422.2.2.2.1 ((bt433.1.length : Int) != (bt422.2.2.2.1.length : Int)) bt422.1 bt422.2.1 bt422.2.2.1)))))
theorem laws_FnOffers.mono_l : ∀ k, (∀ y0 y1 y2 y3 y4 y5, LeO (laws_FnOffers.j0 k y0 y1 y2 y3 y4 y5) (laws_FnOffers.j0 (k + 1) y0 y1 y2 y3 y4 y5)) ∧ (∀ y0, LeO (laws_FnOffers.j2 k y0) (laws_FnOffers.j2 (k + 1) y0)) ∧ (∀ y0 y1 y2, LeO (laws_FnOffers.l1 k y0 y1 y2) (laws_FnOffers.l1 (k + 1) y0 y1 y2)) ∧ (∀ y0 y1 y2 y3, LeO (laws_FnOffers.l0 k y0 y1 y2 y3) (laws_FnOffers.l0 (k + 1) y0 y1 y2 y3))
 | 0 => ⟨fun _ _ _ _ _ _ r h => by simp [laws_FnOffers.j0] at h, fun _ r h => by simp [laws_FnOffers.j2] at h, fun _ _ _ r h => by simp [laws_FnOffers.l1] at h, fun _ _ _ _ r h => by simp [laws_FnOffers.l0] at h⟩
 | k + 1 => by
  obtain ⟨ih0, ih1, ih2, ih3⟩ := laws_FnOffers.mono_l k
  refine ⟨?_, ?_, ?_, ?_⟩
  ·
   intro y0 y1 y2 y3 y4 y5
   unfold laws_FnOffers.j0
   repeat' first
   | (with_reducible exact ih0 _ _ _ _ _ _)
   | (with_reducible exact ih1 _)
   | (with_reducible exact ih2 _ _ _)
   | (with_reducible exact ih3 _ _ _ _)
   | (with_reducible exact impl_AreOffers.mono _ _ _ _ _)
   | (with_reducible exact impl_MakeOffer.mono _ _ _ _ _ _ _ _)
   | (with_reducible exact impl_RefusedOf.mono _ _)
   | (with_reducible exact impl_TakenFrom.mono _ _ _)
   | (with_reducible exact laws_ascends.mono _ _)
   | (with_reducible exact laws_contains.mono _ _ _)
   | (with_reducible exact spec_DrawMakeOffer.mono _ _)
   | (with_reducible exact spec_DrawRefusedOf.mono _ _)
   | (with_reducible exact LeO.refl _)
   | (with_reducible exact LeO.none _)
   | (with_reducible refine LeO.ite ?_ ?_)
   | (with_reducible refine LeO.bind ?_ (fun _ => ?_))
   | exact ih0 _ _ _ _ _ _
   | exact ih1 _
   | exact ih2 _ _ _
   | exact ih3 _ _ _ _
   | exact impl_AreOffers.mono _ _ _ _ _
   | exact impl_MakeOffer.mono _ _ _ _ _ _ _ _
   | exact impl_RefusedOf.mono _ _
   | exact impl_TakenFrom.mono _ _ _
   | exact laws_ascends.mono _ _
   | exact laws_contains.mono _ _ _
   | exact spec_DrawMakeOffer.mono _ _
   | exact spec_DrawRefusedOf.mono _ _
   | exact LeO.none _
   | refine LeO.ite ?_ ?_
   | refine LeO.bind ?_ (fun _ => ?_)
  ·
   intro y0
   unfold laws_FnOffers.j2
   repeat' first
   | (with_reducible exact ih0 _ _ _ _ _ _)
   | (with_reducible exact ih1 _)
   | (with_reducible exact ih2 _ _ _)
   | (with_reducible exact ih3 _ _ _ _)
   | (with_reducible exact impl_AreOffers.mono _ _ _ _ _)
   | (with_reducible exact impl_MakeOffer.mono _ _ _ _ _ _ _ _)
   | (with_reducible exact impl_RefusedOf.mono _ _)
   | (with_reducible exact impl_TakenFrom.mono _ _ _)
   | (with_reducible exact laws_ascends.mono _ _)
   | (with_reducible exact laws_contains.mono _ _ _)
   | (with_reducible exact spec_DrawMakeOffer.mono _ _)
   | (with_reducible exact spec_DrawRefusedOf.mono _ _)
   | (with_reducible exact LeO.refl _)
   | (with_reducible exact LeO.none _)
   | (with_reducible refine LeO.ite ?_ ?_)
   | (with_reducible refine LeO.bind ?_ (fun _ => ?_))
   | exact ih0 _ _ _ _ _ _
   | exact ih1 _
   | exact ih2 _ _ _
   | exact ih3 _ _ _ _
   | exact impl_AreOffers.mono _ _ _ _ _
   | exact impl_MakeOffer.mono _ _ _ _ _ _ _ _
   | exact impl_RefusedOf.mono _ _
   | exact impl_TakenFrom.mono _ _ _
   | exact laws_ascends.mono _ _
   | exact laws_contains.mono _ _ _
   | exact spec_DrawMakeOffer.mono _ _
   | exact spec_DrawRefusedOf.mono _ _
   | exact LeO.none _
   | refine LeO.ite ?_ ?_
   | refine LeO.bind ?_ (fun _ => ?_)
  ·
   intro y0 y1 y2
   unfold laws_FnOffers.l1
   repeat' first
   | (with_reducible exact ih0 _ _ _ _ _ _)
   | (with_reducible exact ih1 _)
   | (with_reducible exact ih2 _ _ _)
   | (with_reducible exact ih3 _ _ _ _)
   | (with_reducible exact impl_AreOffers.mono _ _ _ _ _)
   | (with_reducible exact impl_MakeOffer.mono _ _ _ _ _ _ _ _)
   | (with_reducible exact impl_RefusedOf.mono _ _)
   | (with_reducible exact impl_TakenFrom.mono _ _ _)
   | (with_reducible exact laws_ascends.mono _ _)
   | (with_reducible exact laws_contains.mono _ _ _)
   | (with_reducible exact spec_DrawMakeOffer.mono _ _)
   | (with_reducible exact spec_DrawRefusedOf.mono _ _)
   | (with_reducible exact LeO.refl _)
   | (with_reducible exact LeO.none _)
   | (with_reducible refine LeO.ite ?_ ?_)
   | (with_reducible refine LeO.bind ?_ (fun _ => ?_))
   | exact ih0 _ _ _ _ _ _
   | exact ih1 _
   | exact ih2 _ _ _
   | exact ih3 _ _ _ _
   | exact impl_AreOffers.mono _ _ _ _ _
   | exact impl_MakeOffer.mono _ _ _ _ _ _ _ _
   | exact impl_RefusedOf.mono _ _
   | exact impl_TakenFrom.mono _ _ _
   | exact laws_ascends.mono _ _
   | exact laws_contains.mono _ _ _
   | exact spec_DrawMakeOffer.mono _ _
   | exact spec_DrawRefusedOf.mono _ _
   | exact LeO.none _
   | refine LeO.ite ?_ ?_
   | refine LeO.bind ?_ (fun _ => ?_)
  ·
   intro y0 y1 y2 y3
   unfold laws_FnOffers.l0
   repeat' first
   | (with_reducible exact ih0 _ _ _ _ _ _)
   | (with_reducible exact ih1 _)
   | (with_reducible exact ih2 _ _ _)
   | (with_reducible exact ih3 _ _ _ _)
   | (with_reducible exact impl_AreOffers.mono _ _ _ _ _)
   | (with_reducible exact impl_MakeOffer.mono _ _ _ _ _ _ _ _)
   | (with_reducible exact impl_RefusedOf.mono _ _)
   | (with_reducible exact impl_TakenFrom.mono _ _ _)
   | (with_reducible exact laws_ascends.mono _ _)
   | (with_reducible exact laws_contains.mono _ _ _)
   | (with_reducible exact spec_DrawMakeOffer.mono _ _)
   | (with_reducible exact spec_DrawRefusedOf.mono _ _)
   | (with_reducible exact LeO.refl _)
   | (with_reducible exact LeO.none _)
   | (with_reducible refine LeO.ite ?_ ?_)
   | (with_reducible refine LeO.bind ?_ (fun _ => ?_))
   | exact ih0 _ _ _ _ _ _
   | exact ih1 _
   | exact ih2 _ _ _
   | exact ih3 _ _ _ _
   | exact impl_AreOffers.mono _ _ _ _ _
   | exact impl_MakeOffer.mono _ _ _ _ _ _ _ _
   | exact impl_RefusedOf.mono _ _
   | exact impl_TakenFrom.mono _ _ _
   | exact laws_ascends.mono _ _
   | exact laws_contains.mono _ _ _
   | exact spec_DrawMakeOffer.mono _ _
   | exact spec_DrawRefusedOf.mono _ _
   | exact LeO.none _
   | refine LeO.ite ?_ ?_
   | refine LeO.bind ?_ (fun _ => ?_)
theorem laws_FnOffers.mono : ∀ a0 k, LeO (laws_FnOffers.f k a0) (laws_FnOffers.f (k + 1) a0) := by
 intro a0 k
 obtain ⟨ih0, ih1, ih2, ih3⟩ := laws_FnOffers.mono_l k
 unfold laws_FnOffers.f
 repeat' first
   | (with_reducible exact ih0 _ _ _ _ _ _)
   | (with_reducible exact ih1 _)
   | (with_reducible exact ih2 _ _ _)
   | (with_reducible exact ih3 _ _ _ _)
   | (with_reducible exact impl_AreOffers.mono _ _ _ _ _)
   | (with_reducible exact impl_MakeOffer.mono _ _ _ _ _ _ _ _)
   | (with_reducible exact impl_RefusedOf.mono _ _)
   | (with_reducible exact impl_TakenFrom.mono _ _ _)
   | (with_reducible exact laws_ascends.mono _ _)
   | (with_reducible exact laws_contains.mono _ _ _)
   | (with_reducible exact spec_DrawMakeOffer.mono _ _)
   | (with_reducible exact spec_DrawRefusedOf.mono _ _)
   | (with_reducible exact LeO.refl _)
   | (with_reducible exact LeO.none _)
   | (with_reducible refine LeO.ite ?_ ?_)
   | (with_reducible refine LeO.bind ?_ (fun _ => ?_))
   | exact ih0 _ _ _ _ _ _
   | exact ih1 _
   | exact ih2 _ _ _
   | exact ih3 _ _ _ _
   | exact impl_AreOffers.mono _ _ _ _ _
   | exact impl_MakeOffer.mono _ _ _ _ _ _ _ _
   | exact impl_RefusedOf.mono _ _
   | exact impl_TakenFrom.mono _ _ _
   | exact laws_ascends.mono _ _
   | exact laws_contains.mono _ _ _
   | exact spec_DrawMakeOffer.mono _ _
   | exact spec_DrawRefusedOf.mono _ _
   | exact LeO.none _
   | refine LeO.ite ?_ ?_
   | refine LeO.bind ?_ (fun _ => ?_)
def laws_FnOffers.T20 : Bool × List (List Nat × List Nat) := (true, [([], []), ([], []), ([], []), ([1, 2], [1, 2]), ([3], [3]), ([4], [4]), ([0, 5], [0, 5]), ([], []), ([], []), ([], []), ([8, 9], [8, 9]), ([10], [10]), ([11], [11]), ([7, 12, 6], [7, 12]), ([13], [13]), ([6, 14], [6, 14])])
def laws_FnOffers.B20 : List Nat := [0, 0, 0, 6, 14, 30, 63, 0, 0, 0, 768, 1792, 3840, 8191, 16383, 32767]
theorem laws_FnOffers.tab20 : rtab .any (opsOf Try.f8 20) = laws_FnOffers.T20 := by kernel_rfl
theorem laws_FnOffers.bits20 : waitsOk laws_FnOffers.T20.2 laws_FnOffers.B20 = true := by kernel_rfl
theorem laws_FnOffers.j0_no : ∀ k a0 a1 a3 a4 a5, laws_FnOffers.j0 k a0 a1 true a3 a4 a5 = some true → False := by
 intro k a0 a1 a3 a4 a5
 cases k <;> simp [laws_FnOffers.j0]
set_option linter.defProp false
def υa := @blk_drewN
def υb := @blk_alloc
def υc := @blk_drew
def υd := @Kd.R_alloc
def υe := @Kd.R_drewN
def υf := @Kd.R_drew
def υg := @below_set
def υh := @pw_below_drewN
def υi := @below_drew1
def υj := @below_alloc
def υm := @List.setIfInBounds_toArray
def υn := @List.set_cons_zero
def υo := @List.set_cons_succ
def υp := @Aside0.mk
abbrev υ0 : Array Bool := #[false, false, false, false, false, false, false, false, false, false, false, false, false, false, false, false]
abbrev υ1 : Array Bool := #[true, false, false, false, false, false, false, false, false, false, false, false, false, false, false, false]
abbrev υ2 : Array Bool := #[true, true, false, false, false, false, false, false, false, false, false, false, false, false, false, false]
abbrev υ3 : Array Bool := #[true, true, true, false, false, false, false, false, false, false, false, false, false, false, false, false]
abbrev υ4 : Array Bool := #[true, true, true, true, false, false, false, false, false, false, false, false, false, false, false, false]
abbrev υ5 : Array Bool := #[true, true, true, true, true, false, false, false, false, false, false, false, false, false, false, false]
abbrev υ6 : Array Bool := #[true, true, true, true, true, false, false, true, false, false, false, false, false, false, false, false]
abbrev υ7 : Array Bool := #[true, true, true, true, true, false, false, true, true, false, false, false, false, false, false, false]
abbrev υ8 : Array Bool := #[true, true, true, true, true, false, false, true, true, true, false, false, false, false, false, false]
abbrev υ9 : Array Bool := #[true, true, true, true, true, false, false, true, true, true, true, false, false, false, false, false]
abbrev υ10 : Array Bool := #[true, true, true, true, true, false, false, true, true, true, true, true, false, false, false, false]
abbrev υ11 : Array Bool := #[true, true, true, true, true, true, false, true, true, true, true, true, false, false, false, false]
abbrev υ12 : Array Bool := #[true, true, true, true, true, true, false, true, true, true, true, true, true, false, false, false]
abbrev υ13 : Array Bool := #[true, true, true, true, true, true, true, true, true, true, true, true, true, false, false, false]
abbrev υ14 : Array Bool := #[true, true, true, true, true, true, true, true, true, true, true, true, true, true, false, false]
abbrev υ15 : Array Bool := #[true, true, true, true, true, true, true, true, true, true, true, true, true, true, true, false]
abbrev υ16 : Array Bool := #[true, true, true, true, true, true, true, true, true, true, true, true, true, true, true, true]
set_option maxHeartbeats 8000000 in
set_option maxRecDepth 100000 in
theorem laws_FnOffers.calls (k : Nat) (A0 : Option Addr) (c0 : Nat) (l0 : List Int) (r : Bool) (w : World) (hr0 : Kd.C (Kd.int .u8) w A0 l0.length l0) (hc0 : l0.length ≤ c0) (hr_ : r = true) (h : laws_FnOffers.f k l0 = some r) :
  Calls Try.prog 8 #[.slice A0 l0.length c0] w fun e w' => e = .returned (.bool r) ∧ Below w.heap.size w w' := by
 have hu25 := Try.underlying25
 have hu46 := Try.underlying46
 have HR0 := υp hr0
 have HC0 := υp hc0
 clear hr0 hc0
 have HB := υp (Below.refl w.heap.size w)
 have H : ((laws_big.f l0).bind fun t421 => (if t421 = true then (some true) else ((spec_DrawMakeOffer.f k l0).bind fun bt422 => ((impl_MakeOffer.f k bt422.1 bt422.2.1 bt422.2.2.1 bt422.2.2.2.1 bt422.2.2.2.2.1 bt422.2.2.2.2.2.1 bt422.2.2.2.2.2.2).bind fun bt433 => (if bt433.2 = true then ((impl_AreOffers.f k bt422.1 bt422.2.1 bt422.2.2.1 bt433.1).bind fun t437 => (if t437 = true then ((impl_MayOffer.f bt422.1 bt422.2.1 bt422.2.2.1 bt422.2.2.2.2.1).bind fun t438 => (if t438 = true then (if (bt433.1.length : Int) = (wrap64 ((bt422.2.2.2.1.length : Int) + 1)) then (laws_FnOffers.j0 k l0 bt422.2.2.2.1 false bt422.1 bt422.2.1 bt422.2.2.1) else (laws_FnOffers.j0 k l0 bt422.2.2.2.1 true bt422.1 bt422.2.1 bt422.2.2.1)) else (laws_FnOffers.j0 k l0 bt422.2.2.2.1 true bt422.1 bt422.2.1 bt422.2.2.1))) else (laws_FnOffers.j0 k l0 bt422.2.2.2.1 true bt422.1 bt422.2.1 bt422.2.2.1))) else (laws_FnOffers.j0 k l0 bt422.2.2.2.1 ((bt433.1.length : Int) != (bt422.2.2.2.1.length : Int)) bt422.1 bt422.2.1 bt422.2.2.1)))))) = some r := h
 clear h
 replace H := Option.bind_eq_some_iff.mp H
 obtain ⟨t421, A20, H⟩ := H
 try dsimp only at H
 have A2 := υp A20
 clear A20
 by_cases c3 : t421 = true
 ·
  subst c3
  rw [if_pos rfl] at H
  obtain rfl := Option.some.inj H
  go_enter Try.func8, Try.ntmps8
  go_wp2_with (first | ((with_reducible refine gate_callee (f := 35) rfl ?_); refine goesL_ (some 14) rfl rfl Try.func35 (by kernel_rfl) rfl #[.slice A0 l0.length c0] rfl (by (try simp only [List.map_toArray, List.map_cons, List.map_nil]); first | done | rfl | (simp only [List.length_drop, List.length_take]; rfl)) ?_; (with_reducible refine (laws_big.calls _ _ l0 true _ ?side1 ?side2 A2.out).mono ?_); (case side1 => repeat (first | exact HR0.out | (with_reducible refine Kd.C_alloc ?_ _) | (with_reducible refine Kd.C_drewN ?_ _) | (with_reducible refine Kd.C_drew ?_))); (case side2 => exact HC0.out); rintro e w' ⟨rfl, ⟨nd, rfl⟩⟩; refine ⟨_, rfl, ?_⟩))
  go_ret
  exact ⟨by first | rfl | (simp [errW_none, errW_some] <;> rfl) | (simp [*, errW_none, errW_some] <;> rfl), by repeat (first | (with_reducible first | exact HB.out | apply υj | apply υh | apply υi) | exact HB.out)⟩
 replace c3 := Bool.eq_false_iff.mpr c3
 subst c3
 have H1 : ((spec_DrawMakeOffer.f k l0).bind fun bt422 => ((impl_MakeOffer.f k bt422.1 bt422.2.1 bt422.2.2.1 bt422.2.2.2.1 bt422.2.2.2.2.1 bt422.2.2.2.2.2.1 bt422.2.2.2.2.2.2).bind fun bt433 => (if bt433.2 = true then ((impl_AreOffers.f k bt422.1 bt422.2.1 bt422.2.2.1 bt433.1).bind fun t437 => (if t437 = true then ((impl_MayOffer.f bt422.1 bt422.2.1 bt422.2.2.1 bt422.2.2.2.2.1).bind fun t438 => (if t438 = true then (if (bt433.1.length : Int) = (wrap64 ((bt422.2.2.2.1.length : Int) + 1)) then (laws_FnOffers.j0 k l0 bt422.2.2.2.1 false bt422.1 bt422.2.1 bt422.2.2.1) else (laws_FnOffers.j0 k l0 bt422.2.2.2.1 true bt422.1 bt422.2.1 bt422.2.2.1)) else (laws_FnOffers.j0 k l0 bt422.2.2.2.1 true bt422.1 bt422.2.1 bt422.2.2.1))) else (laws_FnOffers.j0 k l0 bt422.2.2.2.1 true bt422.1 bt422.2.1 bt422.2.2.1))) else (laws_FnOffers.j0 k l0 bt422.2.2.2.1 ((bt433.1.length : Int) != (bt422.2.2.2.1.length : Int)) bt422.1 bt422.2.1 bt422.2.2.1)))) = some r := by rw [if_neg (show ¬ (false = true) by decide)] at H; exact H
 clear H
 have H := H1
 clear H1
 replace H := Option.bind_eq_some_iff.mp H
 obtain ⟨⟨t422, t423, t424, t425, t428, t429, t430⟩, A40, H⟩ := H
 try dsimp only at H
 have A4 := υp A40
 clear A40
 replace H := Option.bind_eq_some_iff.mp H
 obtain ⟨⟨t433, t436⟩, A50, H⟩ := H
 try dsimp only at H
 have A5 := υp A50
 clear A50
 have HC6 := υp H
 clear H
 go_enter Try.func8, Try.ntmps8
 go_upto_region 5 with (first | ((with_reducible refine gate_callee (f := 35) rfl ?_); refine goesL_ (some 14) rfl rfl Try.func35 (by kernel_rfl) rfl #[.slice A0 l0.length c0] rfl (by (try simp only [List.map_toArray, List.map_cons, List.map_nil]); first | done | rfl | (simp only [List.length_drop, List.length_take]; rfl)) ?_; (with_reducible refine (laws_big.calls _ _ l0 false _ ?side1 ?side2 A2.out).mono ?_); (case side1 => repeat (first | exact HR0.out | (with_reducible refine Kd.C_alloc ?_ _) | (with_reducible refine Kd.C_drewN ?_ _) | (with_reducible refine Kd.C_drew ?_))); (case side2 => exact HC0.out); rintro e w' ⟨rfl, ⟨nd, rfl⟩⟩; refine ⟨_, rfl, ?_⟩) | ((with_reducible refine gate_callee (f := 36) rfl ?_); refine goesL_ (some 17) rfl rfl Try.func36 (by kernel_rfl) rfl #[.slice A0 l0.length c0] rfl (by (try simp only [List.map_toArray, List.map_cons, List.map_nil]); first | done | rfl | (simp only [List.length_drop, List.length_take]; rfl)) ?_; (with_reducible refine (spec_DrawMakeOffer.calls k _ _ l0 t422 t423 t424 t425 t428 t429 t430 _ ?side1 ?side2 A4.out).mono ?_); (case side1 => repeat (first | exact HR0.out | (with_reducible refine Kd.C_alloc ?_ _) | (with_reducible refine Kd.C_drewN ?_ _) | (with_reducible refine Kd.C_drew ?_))); (case side2 => exact HC0.out); rintro e w7 ⟨v426, rfl, ho0, hb⟩; refine ⟨_, rfl, ?_⟩; have n0_ := υp (Kd.R_lower ho0 (below_size (by repeat (first | (with_reducible first | exact HB.out | apply υj | apply υh | apply υi) | exact HB.out)))); have n1_ := υp (below_step (by repeat (first | (with_reducible first | exact HB.out | apply υj | apply υh | apply υi) | exact HB.out)) hb); clear HB; have HO427 := n0_; have HB := n1_; clear n0_ n1_; (try clear hb); (try clear hb2); (try clear hk); (try clear hi); (try clear ho0)) | ((with_reducible refine gate_dst (N := 3) rfl ?_); (try (refine gate_guard (by rfl) ?_; dsimp only)); refine box_event ?hg (N := 3) ?hd (cs := #[.int .i64 0, .int .i64 0, .int .i64 0]) (t := 25) ?hr ?_; (case hd => rfl); (case hg => rfl); (case hr => first | (go_simp; done) | (go_simp; rfl)); intro gb431 hg w8 hbox hb; have n0_ := υp (Kd.R_below (by (with_reducible repeat (first | apply υd | apply υe | apply υf)); exact HO427.out) hb); have n1_ := υp (below_step (by repeat (first | (with_reducible first | exact HB.out | apply υj | apply υh | apply υi) | exact HB.out)) hb); have n2_ := υp (hbox); have n3_ := υp ((by rw [hg]; exact (below_size (by repeat (first | (with_reducible first | exact HB.out | apply υj | apply υh | apply υi) | exact HB.out))) : w.heap.size ≤ gb431)); have n4_ := υp ((by rw [hg]; exact (below_size (by repeat (first | (with_reducible first | exact HB.out | apply υj | apply υh | apply υi) | exact HB.out))) : w.heap.size ≤ gb431)); clear HO427; clear HB; have HO427 := n0_; have HB := n1_; have BK431 := n2_; have GW431 := n3_; have GE431 := n4_; clear n0_ n1_ n2_ n3_ n4_; clear hb hbox hg) | ((with_reducible refine gate_dst (N := 5) rfl ?_); (try (refine gate_guard (by rfl) ?_; dsimp only)); refine box_event ?hg (N := 5) ?hd (cs := #[.int .i64 0, .int .i64 0, .bool false]) (t := 46) ?hr ?_; (case hd => rfl); (case hg => rfl); (case hr => first | (go_simp; done) | (go_simp; rfl)); intro gb432 hg w9 hbox hb; have n0_ := υp (Kd.R_below (Kd.R_elderB (by (with_reducible repeat (first | apply υd | apply υe | apply υf)); exact HO427.out) gb432 (Nat.le_of_eq hg.symm)) hb); have n1_ := υp (blk_below (g := gb431) (o := .cells #[.int .i64 0, .int .i64 0, .int .i64 0] 25 (0, 0)) (by (with_reducible repeat (first | refine υa ?_ _ | refine υc ?_ | refine υb ?_ _)); exact BK431.out) hb); have n2_ := υp (below_step (by repeat (first | (with_reducible first | exact HB.out | apply υj | apply υh | apply υi | refine υg ?_ GE431.out) | exact HB.out)) hb); have n3_ := υp (hbox); have n4_ := υp ((by rw [hg]; exact (below_size (by repeat (first | (with_reducible first | exact HB.out | apply υj | apply υh | apply υi | refine υg ?_ GE431.out) | exact HB.out))) : w.heap.size ≤ gb432)); have n5_ := υp ((by rw [hg]; exact (below_size (by repeat (first | (with_reducible first | exact HB.out | apply υj | apply υh | apply υi | refine υg ?_ GE431.out) | exact HB.out))) : w.heap.size ≤ gb432)); have n6_ := υp ((by rw [hg]; exact Nat.ne_of_lt (blk_lt (g := gb431) (o := .cells #[.int .i64 0, .int .i64 0, .int .i64 0] 25 (0, 0)) (by (with_reducible repeat (first | refine υa ?_ _ | refine υc ?_ | refine υb ?_ _)); exact BK431.out)) : gb431 ≠ gb432)); have n7_ := υp ((by rw [hg]; exact Nat.ne_of_gt (blk_lt (g := gb431) (o := .cells #[.int .i64 0, .int .i64 0, .int .i64 0] 25 (0, 0)) (by (with_reducible repeat (first | refine υa ?_ _ | refine υc ?_ | refine υb ?_ _)); exact BK431.out)) : gb432 ≠ gb431)); clear HO427; clear BK431; clear HB; have HO427 := n0_; have BK431 := n1_; have HB := n2_; have BK432 := n3_; have GW432 := n4_; have GE432 := n5_; have NB431_432 := n6_; have NB432_431 := n7_; clear n0_ n1_ n2_ n3_ n4_ n5_ n6_ n7_; clear hb hbox hg; have hnb10 := NB431_432.out; have hnc10 := NB432_431.out; have hcz11_0 : w9.cell? ⟨gb431, 0, none⟩ = some (.int .i64 0) := (blk_cell BK431.out 0).trans rfl; have hcz11_1 : w9.cell? ⟨gb431, 1, none⟩ = some (.int .i64 0) := (blk_cell BK431.out 1).trans rfl; have hcz11_2 : w9.cell? ⟨gb431, 2, none⟩ = some (.int .i64 0) := (blk_cell BK431.out 2).trans rfl; have hfz11_0 := blk_frozen BK431.out 0; have hfz11_1 := blk_frozen BK431.out 1; have hfz11_2 := blk_frozen BK431.out 2; have hcz12_0 : w9.cell? ⟨gb432, 0, none⟩ = some (.int .i64 0) := (blk_cell BK432.out 0).trans rfl; have hcz12_1 : w9.cell? ⟨gb432, 1, none⟩ = some (.int .i64 0) := (blk_cell BK432.out 1).trans rfl; have hcz12_2 : w9.cell? ⟨gb432, 2, none⟩ = some (.bool false) := (blk_cell BK432.out 2).trans rfl; have hfz12_0 := blk_frozen BK432.out 0; have hfz12_1 := blk_frozen BK432.out 1; have hfz12_2 := blk_frozen BK432.out 2; obtain ⟨Ao13, co13, eo13⟩ := Kd.R_slice HO427.out; subst eo13) | ((with_reducible refine gate_callee (f := 33) rfl ?_); refine goesL_ (some 25) rfl rfl Try.func33 (by kernel_rfl) rfl #[.agg #[.int .i64 t422, .int .i64 t423, .int .i64 t424], .slice Ao13 t425.length co13, .agg #[.int .i64 t428, .int .i64 t429, .bool t430]] rfl (by (try simp only [List.map_toArray, List.map_cons, List.map_nil]); first | done | rfl | (simp only [List.length_drop, List.length_take]; rfl)) ?_; (with_reducible refine (impl_MakeOffer.calls k t422 t423 t424 _ _ t425 t428 t429 t430 t433 t436 _ ?side1 ?side2 A5.out).mono ?_); (case side1 => refine (Kd.R_reads' (e := 46) (base := w.heap.size) (ok := fun k_ => (True ∧ k_ ≠ gb432)) (n := t425.length) (c := co13) ?_).2.2; exact (by (with_reducible repeat (first | apply υd | apply υe | apply υf)); exact (Kd.R_mono (Kd.R_mono (Kd.R_far (p := ⟨gb432, 2, none⟩) (Kd.R_far (p := ⟨gb432, 1, none⟩) (Kd.R_far (p := ⟨gb432, 0, none⟩) (Kd.R_far (p := ⟨gb431, 2, none⟩) (Kd.R_far (p := ⟨gb431, 1, none⟩) (Kd.R_far (p := ⟨gb431, 0, none⟩) (Kd.R_mono (Kd.R_types HO427.out BK431.out (by decide)) (fun k_ hk => (⟨hk, hk.1.2⟩ : _ ∧ k_ ≠ gb432))) (fun _ hk => hk.1.2) (.int .i64 t422)) (fun _ hk => hk.1.2) (.int .i64 t423)) (fun _ hk => hk.1.2) (.int .i64 t424)) (fun _ hk => hk.2) (.int .i64 t428)) (fun _ hk => hk.2) (.int .i64 t429)) (fun _ hk => hk.2) (.bool t430)) (fun _ h_ => h_.1)) (fun _ h_ => h_.1)))); (case side2 => exact (Kd.R_reads' HO427.out).2.1); rintro e w14 ⟨v434, rfl, ho0, hb⟩; refine ⟨_, rfl, ?_⟩; have n0_ := υp (Kd.R_elder' (by (with_reducible repeat (first | apply υd | apply υe | apply υf)); exact (Kd.R_mono (Kd.R_mono (Kd.R_far (p := ⟨gb432, 2, none⟩) (Kd.R_far (p := ⟨gb432, 1, none⟩) (Kd.R_far (p := ⟨gb432, 0, none⟩) (Kd.R_far (p := ⟨gb431, 2, none⟩) (Kd.R_far (p := ⟨gb431, 1, none⟩) (Kd.R_far (p := ⟨gb431, 0, none⟩) (Kd.R_mono (Kd.R_types HO427.out BK431.out (by decide)) (fun k_ hk => (⟨hk, hk.1.2⟩ : _ ∧ k_ ≠ gb432))) (fun _ hk => hk.1.2) (.int .i64 t422)) (fun _ hk => hk.1.2) (.int .i64 t423)) (fun _ hk => hk.1.2) (.int .i64 t424)) (fun _ hk => hk.2) (.int .i64 t428)) (fun _ hk => hk.2) (.int .i64 t429)) (fun _ hk => hk.2) (.bool t430)) (fun _ h_ => h_.1)) (fun _ h_ => h_.1))) (Kd.R_base ho0) hb); have n1_ := υp (Kd.R_lower (Kd.R_newB (Kd.R_new' ho0 (Kd.R_lt (by (with_reducible repeat (first | apply υd | apply υe | apply υf)); exact (Kd.R_mono (Kd.R_mono (Kd.R_far (p := ⟨gb432, 2, none⟩) (Kd.R_far (p := ⟨gb432, 1, none⟩) (Kd.R_far (p := ⟨gb432, 0, none⟩) (Kd.R_far (p := ⟨gb431, 2, none⟩) (Kd.R_far (p := ⟨gb431, 1, none⟩) (Kd.R_far (p := ⟨gb431, 0, none⟩) (Kd.R_mono (Kd.R_types HO427.out BK431.out (by decide)) (fun k_ hk => (⟨hk, hk.1.2⟩ : _ ∧ k_ ≠ gb432))) (fun _ hk => hk.1.2) (.int .i64 t422)) (fun _ hk => hk.1.2) (.int .i64 t423)) (fun _ hk => hk.1.2) (.int .i64 t424)) (fun _ hk => hk.2) (.int .i64 t428)) (fun _ hk => hk.2) (.int .i64 t429)) (fun _ hk => hk.2) (.bool t430)) (fun _ h_ => h_.1)) (fun _ h_ => h_.1))))) (g := gb432) (o := .cells #[.int .i64 t428, .int .i64 t429, .bool t430] 46 (0, 0)) (by (with_reducible repeat (first | refine υa ?_ _ | refine υc ?_ | refine υb ?_ _)); refine blk_put (cs := #[.int .i64 t428, .int .i64 t429, .bool false]) ?_ 2 _ rfl; (with_reducible repeat (first | refine υa ?_ _ | refine υc ?_ | refine υb ?_ _)); refine blk_put (cs := #[.int .i64 t428, .int .i64 0, .bool false]) ?_ 1 _ rfl; (with_reducible repeat (first | refine υa ?_ _ | refine υc ?_ | refine υb ?_ _)); refine blk_put (cs := #[.int .i64 0, .int .i64 0, .bool false]) ?_ 0 _ rfl; (with_reducible repeat (first | refine υa ?_ _ | refine υc ?_ | refine υb ?_ _)); refine blk_far ?_ NB432_431.out _; (with_reducible repeat (first | refine υa ?_ _ | refine υc ?_ | refine υb ?_ _)); refine blk_far ?_ NB432_431.out _; (with_reducible repeat (first | refine υa ?_ _ | refine υc ?_ | refine υb ?_ _)); refine blk_far ?_ NB432_431.out _; (with_reducible repeat (first | refine υa ?_ _ | refine υc ?_ | refine υb ?_ _)); exact BK432.out)) (below_size (by repeat (first | (with_reducible first | exact HB.out | apply υj | apply υh | apply υi | refine υg ?_ GE431.out | refine υg ?_ GE432.out) | exact HB.out)))); have n2_ := υp (blk_below (g := gb431) (o := .cells #[.int .i64 t422, .int .i64 t423, .int .i64 t424] 25 (0, 0)) (by (with_reducible repeat (first | refine υa ?_ _ | refine υc ?_ | refine υb ?_ _)); refine blk_far ?_ NB431_432.out _; (with_reducible repeat (first | refine υa ?_ _ | refine υc ?_ | refine υb ?_ _)); refine blk_far ?_ NB431_432.out _; (with_reducible repeat (first | refine υa ?_ _ | refine υc ?_ | refine υb ?_ _)); refine blk_far ?_ NB431_432.out _; (with_reducible repeat (first | refine υa ?_ _ | refine υc ?_ | refine υb ?_ _)); refine blk_put (cs := #[.int .i64 t422, .int .i64 t423, .int .i64 0]) ?_ 2 _ rfl; (with_reducible repeat (first | refine υa ?_ _ | refine υc ?_ | refine υb ?_ _)); refine blk_put (cs := #[.int .i64 t422, .int .i64 0, .int .i64 0]) ?_ 1 _ rfl; (with_reducible repeat (first | refine υa ?_ _ | refine υc ?_ | refine υb ?_ _)); refine blk_put (cs := #[.int .i64 0, .int .i64 0, .int .i64 0]) ?_ 0 _ rfl; (with_reducible repeat (first | refine υa ?_ _ | refine υc ?_ | refine υb ?_ _)); exact BK431.out) hb); have n3_ := υp (blk_below (g := gb432) (o := .cells #[.int .i64 t428, .int .i64 t429, .bool t430] 46 (0, 0)) (by (with_reducible repeat (first | refine υa ?_ _ | refine υc ?_ | refine υb ?_ _)); refine blk_put (cs := #[.int .i64 t428, .int .i64 t429, .bool false]) ?_ 2 _ rfl; (with_reducible repeat (first | refine υa ?_ _ | refine υc ?_ | refine υb ?_ _)); refine blk_put (cs := #[.int .i64 t428, .int .i64 0, .bool false]) ?_ 1 _ rfl; (with_reducible repeat (first | refine υa ?_ _ | refine υc ?_ | refine υb ?_ _)); refine blk_put (cs := #[.int .i64 0, .int .i64 0, .bool false]) ?_ 0 _ rfl; (with_reducible repeat (first | refine υa ?_ _ | refine υc ?_ | refine υb ?_ _)); refine blk_far ?_ NB432_431.out _; (with_reducible repeat (first | refine υa ?_ _ | refine υc ?_ | refine υb ?_ _)); refine blk_far ?_ NB432_431.out _; (with_reducible repeat (first | refine υa ?_ _ | refine υc ?_ | refine υb ?_ _)); refine blk_far ?_ NB432_431.out _; (with_reducible repeat (first | refine υa ?_ _ | refine υc ?_ | refine υb ?_ _)); exact BK432.out) hb); have n4_ := υp (below_step (by repeat (first | (with_reducible first | exact HB.out | apply υj | apply υh | apply υi | refine υg ?_ GE431.out | refine υg ?_ GE432.out) | exact HB.out)) hb); clear HO427; clear BK431; clear BK432; clear HB; have HO427 := n0_; have HO435 := n1_; have BK431 := n2_; have BK432 := n3_; have HB := n4_; clear n0_ n1_ n2_ n3_ n4_; (try clear hb); (try clear hb2); (try clear hk); (try clear hi); (try clear ho0)))
 (try simp only [Act.put, υm, υn, υo])
 go_cut [60] (fun v60 wc => ∃ (kq : Nat) (x60_5 : Bool), v60 = .bool x60_5 ∧ Aside0 (laws_FnOffers.j0 kq l0 t425 x60_5 t422 t423 t424 = some r) ∧ Aside0 (kq ≤ k) ∧ Aside0 (Kd.R k46 46 wc w.heap.size (fun k_ => k_ ≠ gb432) (.slice Ao13 t425.length co13) t425) ∧ Aside0 (wc.heap[gb431]? = some (.cells #[.int .i64 t422, .int .i64 t423, .int .i64 t424] 25 (0, 0))) ∧ Aside0 (wc.heap[gb432]? = some (.cells #[.int .i64 t428, .int .i64 t429, .bool t430] 46 (0, 0))) ∧ Aside0 (Below w.heap.size w wc))
 case first =>
  have H := HC6.out
  clear HC6
  by_cases c15 : t436 = true
  ·
   subst c15
   rw [if_pos rfl] at H
   replace H := Option.bind_eq_some_iff.mp H
   obtain ⟨t437, A160, H⟩ := H
   try dsimp only at H
   have A16 := υp A160
   clear A160
   by_cases c17 : t437 = true
   ·
    subst c17
    rw [if_pos rfl] at H
    replace H := Option.bind_eq_some_iff.mp H
    obtain ⟨t438, A180, H⟩ := H
    try dsimp only at H
    have A18 := υp A180
    clear A180
    by_cases c19 : t438 = true
    ·
     subst c19
     rw [if_pos rfl] at H
     by_cases c20 : (t433.length : Int) = (wrap64 ((t425.length : Int) + 1))
     ·
      rw [if_pos c20] at H
      have c20b0 : ((t433.length : Int) == (wrap64 ((t425.length : Int) + 1))) = true := beq_iff_eq.mpr c20
      have c20b1 : ((t433.length : Int) != (wrap64 ((t425.length : Int) + 1))) = false := bne_eq_false_iff_eq.mpr c20
      clear c20
      (first | rw [c20b0] | (simp only [i64_w, i32_w]; rw [c20b0]) | skip)
      have H' := υp H
      clear H
      have hnb21 := NB431_432.out
      have hnc21 := NB432_431.out
      have hcz22_0 : w14.cell? ⟨gb431, 0, none⟩ = some (.int .i64 t422) := (blk_cell BK431.out 0).trans rfl
      have hcz22_1 : w14.cell? ⟨gb431, 1, none⟩ = some (.int .i64 t423) := (blk_cell BK431.out 1).trans rfl
      have hcz22_2 : w14.cell? ⟨gb431, 2, none⟩ = some (.int .i64 t424) := (blk_cell BK431.out 2).trans rfl
      have hfz22_0 := blk_frozen BK431.out 0
      have hfz22_1 := blk_frozen BK431.out 1
      have hfz22_2 := blk_frozen BK431.out 2
      obtain ⟨Ao23, co23, eo23⟩ := Kd.R_slice HO435.out
      subst eo23
      go_wp2_with (first | (go_at_call 30; (with_reducible refine (impl_AreOffers.calls k t422 t423 t424 _ _ t433 true _ ?side1 ?side2 A16.out).mono ?_); (case side1 => repeat (first | exact (Kd.R_reads' HO435.out).2.2 | (with_reducible refine Kd.C_alloc ?_ _) | (with_reducible refine Kd.C_drewN ?_ _) | (with_reducible refine Kd.C_drew ?_))); (case side2 => exact (Kd.R_reads' HO435.out).2.1); rintro e w24 ⟨rfl, hb⟩; have n0_ := υp (Kd.R_below (by (with_reducible repeat (first | apply υd | apply υe | apply υf)); exact HO427.out) hb); have n1_ := υp (Kd.R_below (by (with_reducible repeat (first | apply υd | apply υe | apply υf)); exact HO435.out) hb); have n2_ := υp (blk_below (g := gb431) (o := .cells #[.int .i64 t422, .int .i64 t423, .int .i64 t424] 25 (0, 0)) (by (with_reducible repeat (first | refine υa ?_ _ | refine υc ?_ | refine υb ?_ _)); exact BK431.out) hb); have n3_ := υp (blk_below (g := gb432) (o := .cells #[.int .i64 t428, .int .i64 t429, .bool t430] 46 (0, 0)) (by (with_reducible repeat (first | refine υa ?_ _ | refine υc ?_ | refine υb ?_ _)); exact BK432.out) hb); have n4_ := υp (below_step (by repeat (first | (with_reducible first | exact HB.out | apply υj | apply υh | apply υi | refine υg ?_ GE431.out | refine υg ?_ GE432.out) | exact HB.out)) hb); clear HO427; clear HO435; clear BK431; clear BK432; clear HB; have HO427 := n0_; have HO435 := n1_; have BK431 := n2_; have BK432 := n3_; have HB := n4_; clear n0_ n1_ n2_ n3_ n4_; (try clear hb); (try clear hb2); (try clear hk); (try clear hi); have hcz25_0 : w24.cell? ⟨gb431, 0, none⟩ = some (.int .i64 t422) := (blk_cell BK431.out 0).trans rfl; have hcz25_1 : w24.cell? ⟨gb431, 1, none⟩ = some (.int .i64 t423) := (blk_cell BK431.out 1).trans rfl; have hcz25_2 : w24.cell? ⟨gb431, 2, none⟩ = some (.int .i64 t424) := (blk_cell BK431.out 2).trans rfl; have hfz25_0 := blk_frozen BK431.out 0; have hfz25_1 := blk_frozen BK431.out 1; have hfz25_2 := blk_frozen BK431.out 2; have hcz26_0 : w24.cell? ⟨gb432, 0, none⟩ = some (.int .i64 t428) := (blk_cell BK432.out 0).trans rfl; have hcz26_1 : w24.cell? ⟨gb432, 1, none⟩ = some (.int .i64 t429) := (blk_cell BK432.out 1).trans rfl; have hcz26_2 : w24.cell? ⟨gb432, 2, none⟩ = some (.bool t430) := (blk_cell BK432.out 2).trans rfl; have hfz26_0 := blk_frozen BK432.out 0; have hfz26_1 := blk_frozen BK432.out 1; have hfz26_2 := blk_frozen BK432.out 2) | (go_at_call 17; (with_reducible refine (impl_MayOffer.calls t422 t423 t424 t428 true _ A18.out).mono ?_); rintro e w27 ⟨rfl, hb⟩; have n0_ := υp (Kd.R_below (by (with_reducible repeat (first | apply υd | apply υe | apply υf)); exact HO427.out) hb); have n1_ := υp (Kd.R_below (by (with_reducible repeat (first | apply υd | apply υe | apply υf)); exact HO435.out) hb); have n2_ := υp (blk_below (g := gb431) (o := .cells #[.int .i64 t422, .int .i64 t423, .int .i64 t424] 25 (0, 0)) (by (with_reducible repeat (first | refine υa ?_ _ | refine υc ?_ | refine υb ?_ _)); exact BK431.out) hb); have n3_ := υp (blk_below (g := gb432) (o := .cells #[.int .i64 t428, .int .i64 t429, .bool t430] 46 (0, 0)) (by (with_reducible repeat (first | refine υa ?_ _ | refine υc ?_ | refine υb ?_ _)); exact BK432.out) hb); have n4_ := υp (below_step (by repeat (first | (with_reducible first | exact HB.out | apply υj | apply υh | apply υi | refine υg ?_ GE431.out | refine υg ?_ GE432.out) | exact HB.out)) hb); clear HO427; clear HO435; clear BK431; clear BK432; clear HB; have HO427 := n0_; have HO435 := n1_; have BK431 := n2_; have BK432 := n3_; have HB := n4_; clear n0_ n1_ n2_ n3_ n4_; (try clear hb); (try clear hb2); (try clear hk); (try clear hi)))
      go_meet
      case rel => exact ⟨_, (false), (by first | rfl | (simp; done) | (simp [*]; done)), H', ⟨by first | omega | exact Nat.le_refl _⟩, ⟨by (with_reducible repeat (first | apply υd | apply υe | apply υf)); exact Kd.R_mono HO427.out (fun _ hk => hk.1.2)⟩, ⟨by (with_reducible repeat (first | refine υa ?_ _ | refine υc ?_ | refine υb ?_ _)); exact BK431.out⟩, ⟨by (with_reducible repeat (first | refine υa ?_ _ | refine υc ?_ | refine υb ?_ _)); exact BK432.out⟩, ⟨by repeat (first | (with_reducible first | exact HB.out | apply υj | apply υh | apply υi | refine υg ?_ GE431.out | refine υg ?_ GE432.out) | exact HB.out)⟩⟩
     rw [if_neg c20] at H
     have c20b0 : ((t433.length : Int) == (wrap64 ((t425.length : Int) + 1))) = false := beq_eq_false_iff_ne.mpr c20
     have c20b1 : ((t433.length : Int) != (wrap64 ((t425.length : Int) + 1))) = true := bne_iff_ne.mpr c20
     (first | rw [c20b0] | (simp only [i64_w, i32_w]; rw [c20b0]) | skip)
     exact absurd (H.trans (congrArg some hr_)) (fun h_ => laws_FnOffers.j0_no _ _ _ _ _ _ h_)
    replace c19 := Bool.eq_false_iff.mpr c19
    subst c19
    have H1 : (laws_FnOffers.j0 k l0 t425 true t422 t423 t424) = some r := by rw [if_neg (show ¬ (false = true) by decide)] at H; exact H
    clear H
    have H := H1
    clear H1
    exact absurd (H.trans (congrArg some hr_)) (fun h_ => laws_FnOffers.j0_no _ _ _ _ _ _ h_)
   replace c17 := Bool.eq_false_iff.mpr c17
   subst c17
   have H1 : (laws_FnOffers.j0 k l0 t425 true t422 t423 t424) = some r := by rw [if_neg (show ¬ (false = true) by decide)] at H; exact H
   clear H
   have H := H1
   clear H1
   exact absurd (H.trans (congrArg some hr_)) (fun h_ => laws_FnOffers.j0_no _ _ _ _ _ _ h_)
  replace c15 := Bool.eq_false_iff.mpr c15
  subst c15
  have H1 : (laws_FnOffers.j0 k l0 t425 ((t433.length : Int) != (t425.length : Int)) t422 t423 t424) = some r := by rw [if_neg (show ¬ (false = true) by decide)] at H; exact H
  clear H
  have H := H1
  clear H1
  have H' := υp H
  clear H
  obtain ⟨Ao46, co46, eo46⟩ := Kd.R_slice HO435.out
  subst eo46
  go_wp2
  go_meet
  case rel => exact ⟨_, (((t433.length : Int) != (t425.length : Int))), (by first | rfl | (simp; done) | (simp [*]; done)), H', ⟨by first | omega | exact Nat.le_refl _⟩, ⟨by (with_reducible repeat (first | apply υd | apply υe | apply υf)); exact Kd.R_mono HO427.out (fun _ hk => hk.1.2)⟩, ⟨by (with_reducible repeat (first | refine υa ?_ _ | refine υc ?_ | refine υb ?_ _)); exact BK431.out⟩, ⟨by (with_reducible repeat (first | refine υa ?_ _ | refine υc ?_ | refine υb ?_ _)); exact BK432.out⟩, ⟨by repeat (first | (with_reducible first | exact HB.out | apply υj | apply υh | apply υi | refine υg ?_ GE431.out | refine υg ?_ GE432.out) | exact HB.out)⟩⟩
 case rest =>
  clear HC6
  try clear c1
  try clear c2
  try clear p2
  try clear c3
  try clear c4
  try clear p6
  try clear c8
  try clear c10
  try clear c15
  try clear c17
  try clear c19
  try clear c20
  try clear c20b0
  try clear c20b1
  try clear c21
  try clear c28
  try clear c33
  try clear c35
  try clear c36
  try clear c42
  try clear hcz11_0
  try clear hcz11_1
  try clear hcz11_2
  try clear hcz12_0
  try clear hcz12_1
  try clear hcz12_2
  try clear hcz22_0
  try clear hcz22_1
  try clear hcz22_2
  try clear hcz25_0
  try clear hcz25_1
  try clear hcz25_2
  try clear hcz26_0
  try clear hcz26_1
  try clear hcz26_2
  try clear hcz29_0
  try clear hcz29_1
  try clear hcz29_2
  try clear hcz32_0
  try clear hcz32_1
  try clear hcz32_2
  try clear hcz33_0
  try clear hcz33_1
  try clear hcz33_2
  try clear hcz36_0
  try clear hcz36_1
  try clear hcz36_2
  try clear hcz39_0
  try clear hcz39_1
  try clear hcz39_2
  try clear hcz40_0
  try clear hcz40_1
  try clear hcz40_2
  try clear hcz43_0
  try clear hcz43_1
  try clear hcz43_2
  try clear hfz11_0
  try clear hfz11_1
  try clear hfz11_2
  try clear hfz12_0
  try clear hfz12_1
  try clear hfz12_2
  try clear hfz22_0
  try clear hfz22_1
  try clear hfz22_2
  try clear hfz25_0
  try clear hfz25_1
  try clear hfz25_2
  try clear hfz26_0
  try clear hfz26_1
  try clear hfz26_2
  try clear hfz29_0
  try clear hfz29_1
  try clear hfz29_2
  try clear hfz32_0
  try clear hfz32_1
  try clear hfz32_2
  try clear hfz33_0
  try clear hfz33_1
  try clear hfz33_2
  try clear hfz36_0
  try clear hfz36_1
  try clear hfz36_2
  try clear hfz39_0
  try clear hfz39_1
  try clear hfz39_2
  try clear hfz40_0
  try clear hfz40_1
  try clear hfz40_2
  try clear hfz43_0
  try clear hfz43_1
  try clear hfz43_2
  obtain ⟨kq, x60_5, rfl, HA, HJ5, HO_4, BK431, BK432, HB⟩ := hcut
  cases kq with
  | zero => exact absurd HA.out (by simp [laws_FnOffers.j0])
  | succ kj5 =>
   have H := HA.out
   clear HA
   simp only [laws_FnOffers.j0] at H
   by_cases c47 : x60_5 = true
   ·
    subst c47
    rw [if_pos rfl] at H
    exact absurd ((Option.some.inj H).trans hr_) (by decide)
   replace c47 := Bool.eq_false_iff.mpr c47
   subst c47
   have H1 : ((impl_AreOffers.f kj5 t422 t423 t424 t425).bind fun t439 => (if t439 = true then (laws_FnOffers.l0 kj5 l0 t425 0 1) else (laws_FnOffers.j2 kj5 l0))) = some r := by rw [if_neg (show ¬ (false = true) by decide)] at H; exact H
   clear H
   have H := H1
   clear H1
   replace H := Option.bind_eq_some_iff.mp H
   obtain ⟨t439, A480, H⟩ := H
   try dsimp only at H
   have A48 := υp A480
   clear A480
   have HC49 := υp H
   clear H
   have hnb50 := NB431_432.out
   have hnc50 := NB432_431.out
   have hcz51_0 : wc.cell? ⟨gb431, 0, none⟩ = some (.int .i64 t422) := (blk_cell BK431.out 0).trans rfl
   have hcz51_1 : wc.cell? ⟨gb431, 1, none⟩ = some (.int .i64 t423) := (blk_cell BK431.out 1).trans rfl
   have hcz51_2 : wc.cell? ⟨gb431, 2, none⟩ = some (.int .i64 t424) := (blk_cell BK431.out 2).trans rfl
   have hfz51_0 := blk_frozen BK431.out 0
   have hfz51_1 := blk_frozen BK431.out 1
   have hfz51_2 := blk_frozen BK431.out 2
   go_upto_if 63 with (first | ((with_reducible refine gate_callee (f := 30) rfl ?_); refine goesL_ (some 63) rfl rfl Try.func30 (by kernel_rfl) rfl #[.agg #[.int .i64 t422, .int .i64 t423, .int .i64 t424], .slice Ao13 t425.length co13] rfl (by (try simp only [List.map_toArray, List.map_cons, List.map_nil]); first | done | rfl | (simp only [List.length_drop, List.length_take]; rfl)) ?_; (with_reducible refine (impl_AreOffers.calls kj5 t422 t423 t424 _ _ t425 t439 _ ?side1 ?side2 A48.out).mono ?_); (case side1 => repeat (first | exact (Kd.R_reads' HO_4.out).2.2 | (with_reducible refine Kd.C_alloc ?_ _) | (with_reducible refine Kd.C_drewN ?_ _) | (with_reducible refine Kd.C_drew ?_))); (case side2 => exact (Kd.R_reads' HO_4.out).2.1); rintro e w52 ⟨rfl, hb⟩; refine ⟨_, rfl, ?_⟩; have n0_ := υp (Kd.R_below (by (with_reducible repeat (first | apply υd | apply υe | apply υf)); exact HO_4.out) hb); have n1_ := υp (blk_below (g := gb431) (o := .cells #[.int .i64 t422, .int .i64 t423, .int .i64 t424] 25 (0, 0)) (by (with_reducible repeat (first | refine υa ?_ _ | refine υc ?_ | refine υb ?_ _)); exact BK431.out) hb); have n2_ := υp (blk_below (g := gb432) (o := .cells #[.int .i64 t428, .int .i64 t429, .bool t430] 46 (0, 0)) (by (with_reducible repeat (first | refine υa ?_ _ | refine υc ?_ | refine υb ?_ _)); exact BK432.out) hb); have n3_ := υp (below_step (by repeat (first | (with_reducible first | exact HB.out | apply υj | apply υh | apply υi | refine υg ?_ GE431.out | refine υg ?_ GE432.out) | exact HB.out)) hb); clear HO_4; clear BK431; clear BK432; clear HB; have HO_4 := n0_; have BK431 := n1_; have BK432 := n2_; have HB := n3_; clear n0_ n1_ n2_ n3_; (try clear hb); (try clear hb2); (try clear hk); (try clear hi)))
   (try simp only [Act.put, υm, υn, υo])
   go_cut [] (fun wc => ∃ (kq : Nat), Aside0 (laws_FnOffers.j2 kq l0 = some r) ∧ Aside0 (kq ≤ kj5) ∧ Aside0 (wc.heap[gb431]? = some (.cells #[.int .i64 t422, .int .i64 t423, .int .i64 t424] 25 (0, 0))) ∧ Aside0 (wc.heap[gb432]? = some (.cells #[.int .i64 t428, .int .i64 t429, .bool t430] 46 (0, 0))) ∧ Aside0 (Below w.heap.size w wc))
   case first =>
    have H := HC49.out
    clear HC49
    by_cases c53 : t439 = true
    ·
     subst c53
     rw [if_pos rfl] at H
     have H' := υp H
     clear H
     go_wp2
     go_loopg [8, 9] kj5 (fun kq v8 v9 w' => ∃ (x8_2 : Int) (x9_2 : Int), v8 = .int .i64 x8_2 ∧ v9 = .int .i64 x9_2 ∧ Aside0 (laws_FnOffers.l0 kq l0 t425 x8_2 x9_2 = some r) ∧ Aside0 (kq ≤ kj5) ∧ Aside0 (Kd.R k46 46 w' w.heap.size (fun k_ => k_ ≠ gb432) (.slice Ao13 t425.length co13) t425) ∧ Aside0 (w'.heap[gb431]? = some (.cells #[.int .i64 t422, .int .i64 t423, .int .i64 t424] 25 (0, 0))) ∧ Aside0 (w'.heap[gb432]? = some (.cells #[.int .i64 t428, .int .i64 t429, .bool t430] 46 (0, 0))) ∧ Aside0 (Below w.heap.size w w'))
     case atStart => exact ⟨(0), (1), (by first | rfl | (simp; done) | (simp [*]; done)), (by first | rfl | (simp; done) | (simp [*]; done)), H', ⟨Nat.le_refl _⟩, ⟨by (with_reducible repeat (first | apply υd | apply υe | apply υf)); exact HO_4.out⟩, ⟨by (with_reducible repeat (first | refine υa ?_ _ | refine υc ?_ | refine υb ?_ _)); exact BK431.out⟩, ⟨by (with_reducible repeat (first | refine υa ?_ _ | refine υc ?_ | refine υb ?_ _)); exact BK432.out⟩, ⟨by repeat (first | (with_reducible first | exact HB.out | apply υj | apply υh | apply υi | refine υg ?_ GE431.out | refine υg ?_ GE432.out) | exact HB.out)⟩⟩
     case round =>
      clear H'
      try clear c1
      try clear c2
      try clear p2
      try clear c3
      try clear c4
      try clear c5
      try clear p6
      try clear c8
      try clear c10
      try clear c15
      try clear c17
      try clear c19
      try clear c20
      try clear c20b0
      try clear c20b1
      try clear c21
      try clear c28
      try clear c30
      try clear c33
      try clear c35
      try clear c36
      try clear c42
      try clear c47
      try clear c50
      try clear c53
      try clear hcz11_0
      try clear hcz11_1
      try clear hcz11_2
      try clear hcz12_0
      try clear hcz12_1
      try clear hcz12_2
      try clear hcz22_0
      try clear hcz22_1
      try clear hcz22_2
      try clear hcz25_0
      try clear hcz25_1
      try clear hcz25_2
      try clear hcz26_0
      try clear hcz26_1
      try clear hcz26_2
      try clear hcz29_0
      try clear hcz29_1
      try clear hcz29_2
      try clear hcz32_0
      try clear hcz32_1
      try clear hcz32_2
      try clear hcz33_0
      try clear hcz33_1
      try clear hcz33_2
      try clear hcz36_0
      try clear hcz36_1
      try clear hcz36_2
      try clear hcz39_0
      try clear hcz39_1
      try clear hcz39_2
      try clear hcz40_0
      try clear hcz40_1
      try clear hcz40_2
      try clear hcz43_0
      try clear hcz43_1
      try clear hcz43_2
      try clear hcz51_0
      try clear hcz51_1
      try clear hcz51_2
      try clear hfz11_0
      try clear hfz11_1
      try clear hfz11_2
      try clear hfz12_0
      try clear hfz12_1
      try clear hfz12_2
      try clear hfz22_0
      try clear hfz22_1
      try clear hfz22_2
      try clear hfz25_0
      try clear hfz25_1
      try clear hfz25_2
      try clear hfz26_0
      try clear hfz26_1
      try clear hfz26_2
      try clear hfz29_0
      try clear hfz29_1
      try clear hfz29_2
      try clear hfz32_0
      try clear hfz32_1
      try clear hfz32_2
      try clear hfz33_0
      try clear hfz33_1
      try clear hfz33_2
      try clear hfz36_0
      try clear hfz36_1
      try clear hfz36_2
      try clear hfz39_0
      try clear hfz39_1
      try clear hfz39_2
      try clear hfz40_0
      try clear hfz40_1
      try clear hfz40_2
      try clear hfz43_0
      try clear hfz43_1
      try clear hfz43_2
      try clear hfz51_0
      try clear hfz51_1
      try clear hfz51_2
      try clear p2
      try clear p6
      obtain ⟨x8_2, x9_2, rfl, rfl, HA, HK2, HO_4, BK431, BK432, HB⟩ := hrel
      cases gk with
      | zero => exact absurd HA.out (by simp [laws_FnOffers.l0])
      | succ k2 =>
       have H := HA.out
       clear HA
       simp only [laws_FnOffers.l0] at H
       by_cases c54 : x9_2 < 100
       ·
        rw [if_pos c54] at H
        have c54b0 : decide (x9_2 < 100) = true := decide_eq_true c54
        clear c54
        (first | rw [c54b0] | (simp only [i64_w, i32_w]; rw [c54b0]) | skip)
        replace H := Option.bind_eq_some_iff.mp H
        obtain ⟨t440, A550, H⟩ := H
        try dsimp only at H
        have A55 := υp A550
        clear A550
        have H' := υp H
        clear H
        go_wp2_with (first | ((with_reducible refine gate_callee (f := 21) rfl ?_); refine goesL_ (some 71) rfl rfl Try.func21 (by kernel_rfl) rfl #[.slice Ao13 t425.length co13, .int .i64 x9_2] rfl (by (try simp only [List.map_toArray, List.map_cons, List.map_nil]); first | done | rfl | (simp only [List.length_drop, List.length_take]; rfl)) ?_; (with_reducible refine (impl_TakenFrom.calls k2 _ _ t425 x9_2 t440 _ ?side1 ?side2 A55.out).mono ?_); (case side1 => repeat (first | exact (Kd.R_reads' HO_4.out).2.2 | (with_reducible refine Kd.C_alloc ?_ _) | (with_reducible refine Kd.C_drewN ?_ _) | (with_reducible refine Kd.C_drew ?_))); (case side2 => exact (Kd.R_reads' HO_4.out).2.1); rintro e w56 ⟨rfl, hb⟩; refine ⟨_, rfl, ?_⟩; have n0_ := υp (Kd.R_below (by (with_reducible repeat (first | apply υd | apply υe | apply υf)); exact HO_4.out) hb); have n1_ := υp (blk_below (g := gb431) (o := .cells #[.int .i64 t422, .int .i64 t423, .int .i64 t424] 25 (0, 0)) (by (with_reducible repeat (first | refine υa ?_ _ | refine υc ?_ | refine υb ?_ _)); exact BK431.out) hb); have n2_ := υp (blk_below (g := gb432) (o := .cells #[.int .i64 t428, .int .i64 t429, .bool t430] 46 (0, 0)) (by (with_reducible repeat (first | refine υa ?_ _ | refine υc ?_ | refine υb ?_ _)); exact BK432.out) hb); have n3_ := υp (below_step (by repeat (first | (with_reducible first | exact HB.out | apply υj | apply υh | apply υi | refine υg ?_ GE431.out | refine υg ?_ GE432.out) | exact HB.out)) hb); clear HO_4; clear BK431; clear BK432; clear HB; have HO_4 := n0_; have BK431 := n1_; have BK432 := n2_; have HB := n3_; clear n0_ n1_ n2_ n3_; (try clear hb); (try clear hb2); (try clear hk); (try clear hi)))
        go_roundg k2
        case measure => have := HJ5.out; have := HK2.out; omega
        case rel => exact ⟨(wrap64 (x8_2 + t440)), (wrap64 (x9_2 + 1)), (by first | rfl | (simp; done) | (simp [*]; done)), (by first | rfl | (simp; done) | (simp [*]; done)), H', ⟨by have := HJ5.out; have := HK2.out; omega⟩, ⟨by (with_reducible repeat (first | apply υd | apply υe | apply υf)); exact HO_4.out⟩, ⟨by (with_reducible repeat (first | refine υa ?_ _ | refine υc ?_ | refine υb ?_ _)); exact BK431.out⟩, ⟨by (with_reducible repeat (first | refine υa ?_ _ | refine υc ?_ | refine υb ?_ _)); exact BK432.out⟩, ⟨by repeat (first | (with_reducible first | exact HB.out | apply υj | apply υh | apply υi | refine υg ?_ GE431.out | refine υg ?_ GE432.out) | exact HB.out)⟩⟩
       rw [if_neg c54] at H
       have c54b0 : decide (x9_2 < 100) = false := decide_eq_false c54
       clear c54
       (first | rw [c54b0] | (simp only [i64_w, i32_w]; rw [c54b0]) | skip)
       by_cases c57 : x8_2 > 2
       ·
        rw [if_pos c57] at H
        have c57b0 : decide (2 < x8_2) = true := decide_eq_true c57
        clear c57
        exact absurd ((Option.some.inj H).trans hr_) (by decide)
       rw [if_neg c57] at H
       have c57b0 : decide (2 < x8_2) = false := decide_eq_false c57
       clear c57
       have H' := υp H
       clear H
       go_wp2
       go_meet
       case rel => exact ⟨_, H', ⟨by have := HJ5.out; have := HK2.out; first | omega | exact Nat.le_refl _⟩, ⟨by (with_reducible repeat (first | refine υa ?_ _ | refine υc ?_ | refine υb ?_ _)); exact BK431.out⟩, ⟨by (with_reducible repeat (first | refine υa ?_ _ | refine υc ?_ | refine υb ?_ _)); exact BK432.out⟩, ⟨by repeat (first | (with_reducible first | exact HB.out | apply υj | apply υh | apply υi | refine υg ?_ GE431.out | refine υg ?_ GE432.out) | exact HB.out)⟩⟩
    replace c53 := Bool.eq_false_iff.mpr c53
    subst c53
    have H1 : (laws_FnOffers.j2 kj5 l0) = some r := by rw [if_neg (show ¬ (false = true) by decide)] at H; exact H
    clear H
    have H := H1
    clear H1
    have H' := υp H
    clear H
    go_wp2
    go_meet
    case rel => exact ⟨_, H', ⟨by have := HJ5.out; first | omega | exact Nat.le_refl _⟩, ⟨by (with_reducible repeat (first | refine υa ?_ _ | refine υc ?_ | refine υb ?_ _)); exact BK431.out⟩, ⟨by (with_reducible repeat (first | refine υa ?_ _ | refine υc ?_ | refine υb ?_ _)); exact BK432.out⟩, ⟨by repeat (first | (with_reducible first | exact HB.out | apply υj | apply υh | apply υi | refine υg ?_ GE431.out | refine υg ?_ GE432.out) | exact HB.out)⟩⟩
   case rest =>
    clear HC49
    try clear c1
    try clear c2
    try clear p2
    try clear c3
    try clear c4
    try clear c5
    try clear p6
    try clear c8
    try clear c10
    try clear c15
    try clear c17
    try clear c19
    try clear c20
    try clear c20b0
    try clear c20b1
    try clear c21
    try clear c28
    try clear c30
    try clear c33
    try clear c35
    try clear c36
    try clear c42
    try clear c47
    try clear c50
    try clear c53
    try clear c54
    try clear c54b0
    try clear c57
    try clear c57b0
    try clear hcz11_0
    try clear hcz11_1
    try clear hcz11_2
    try clear hcz12_0
    try clear hcz12_1
    try clear hcz12_2
    try clear hcz22_0
    try clear hcz22_1
    try clear hcz22_2
    try clear hcz25_0
    try clear hcz25_1
    try clear hcz25_2
    try clear hcz26_0
    try clear hcz26_1
    try clear hcz26_2
    try clear hcz29_0
    try clear hcz29_1
    try clear hcz29_2
    try clear hcz32_0
    try clear hcz32_1
    try clear hcz32_2
    try clear hcz33_0
    try clear hcz33_1
    try clear hcz33_2
    try clear hcz36_0
    try clear hcz36_1
    try clear hcz36_2
    try clear hcz39_0
    try clear hcz39_1
    try clear hcz39_2
    try clear hcz40_0
    try clear hcz40_1
    try clear hcz40_2
    try clear hcz43_0
    try clear hcz43_1
    try clear hcz43_2
    try clear hcz51_0
    try clear hcz51_1
    try clear hcz51_2
    try clear hfz11_0
    try clear hfz11_1
    try clear hfz11_2
    try clear hfz12_0
    try clear hfz12_1
    try clear hfz12_2
    try clear hfz22_0
    try clear hfz22_1
    try clear hfz22_2
    try clear hfz25_0
    try clear hfz25_1
    try clear hfz25_2
    try clear hfz26_0
    try clear hfz26_1
    try clear hfz26_2
    try clear hfz29_0
    try clear hfz29_1
    try clear hfz29_2
    try clear hfz32_0
    try clear hfz32_1
    try clear hfz32_2
    try clear hfz33_0
    try clear hfz33_1
    try clear hfz33_2
    try clear hfz36_0
    try clear hfz36_1
    try clear hfz36_2
    try clear hfz39_0
    try clear hfz39_1
    try clear hfz39_2
    try clear hfz40_0
    try clear hfz40_1
    try clear hfz40_2
    try clear hfz43_0
    try clear hfz43_1
    try clear hfz43_2
    try clear hfz51_0
    try clear hfz51_1
    try clear hfz51_2
    try clear p2
    try clear p6
    obtain ⟨kq, HA, HJ48, BK431, BK432, HB⟩ := hcut
    cases kq with
    | zero => exact absurd HA.out (by simp [laws_FnOffers.j2])
    | succ kj48 =>
     have H := HA.out
     clear HA
     simp only [laws_FnOffers.j2] at H
     replace H := Option.bind_eq_some_iff.mp H
     obtain ⟨t441, A580, H⟩ := H
     try dsimp only at H
     have A58 := υp A580
     clear A580
     replace H := Option.bind_eq_some_iff.mp H
     obtain ⟨t444, A590, H⟩ := H
     try dsimp only at H
     have A59 := υp A590
     clear A590
     have H' := υp H
     clear H
     go_wp2_with (first | ((with_reducible refine gate_callee (f := 37) rfl ?_); refine goesL_ (some 76) rfl rfl Try.func37 (by kernel_rfl) rfl #[.slice A0 l0.length c0] rfl (by (try simp only [List.map_toArray, List.map_cons, List.map_nil]); first | done | rfl | (simp only [List.length_drop, List.length_take]; rfl)) ?_; (with_reducible refine (spec_DrawRefusedOf.calls kj48 _ _ l0 t441 _ ?side1 ?side2 A58.out).mono ?_); (case side1 => repeat (first | exact (Kd.C_below HR0.out HB.out) | (with_reducible refine Kd.C_alloc ?_ _) | (with_reducible refine Kd.C_drewN ?_ _) | (with_reducible refine Kd.C_drew ?_))); (case side2 => exact HC0.out); rintro e w60 ⟨v442, rfl, ho0, hb⟩; refine ⟨_, rfl, ?_⟩; have n0_ := υp (Kd.R_lower (Kd.R_newB ho0 (g := gb432) (o := .cells #[.int .i64 t428, .int .i64 t429, .bool t430] 46 (0, 0)) (by (with_reducible repeat (first | refine υa ?_ _ | refine υc ?_ | refine υb ?_ _)); exact BK432.out)) (below_size (by repeat (first | (with_reducible first | exact HB.out | apply υj | apply υh | apply υi | refine υg ?_ GE431.out | refine υg ?_ GE432.out) | exact HB.out)))); have n1_ := υp (blk_below (g := gb431) (o := .cells #[.int .i64 t422, .int .i64 t423, .int .i64 t424] 25 (0, 0)) (by (with_reducible repeat (first | refine υa ?_ _ | refine υc ?_ | refine υb ?_ _)); exact BK431.out) hb); have n2_ := υp (blk_below (g := gb432) (o := .cells #[.int .i64 t428, .int .i64 t429, .bool t430] 46 (0, 0)) (by (with_reducible repeat (first | refine υa ?_ _ | refine υc ?_ | refine υb ?_ _)); exact BK432.out) hb); have n3_ := υp (below_step (by repeat (first | (with_reducible first | exact HB.out | apply υj | apply υh | apply υi | refine υg ?_ GE431.out | refine υg ?_ GE432.out) | exact HB.out)) hb); clear BK431; clear BK432; clear HB; have HO443 := n0_; have BK431 := n1_; have BK432 := n2_; have HB := n3_; clear n0_ n1_ n2_ n3_; (try clear hb); (try clear hb2); (try clear hk); (try clear hi); (try clear ho0); obtain ⟨Ao61, co61, eo61⟩ := Kd.R_slice HO443.out; subst eo61) | ((with_reducible refine gate_callee (f := 24) rfl ?_); refine goesL_ (some 78) rfl rfl Try.func24 (by kernel_rfl) rfl #[.slice Ao61 t441.length co61] rfl (by (try simp only [List.map_toArray, List.map_cons, List.map_nil]); first | done | rfl | (simp only [List.length_drop, List.length_take]; rfl)) ?_; (with_reducible refine (impl_RefusedOf.calls kj48 _ _ t441 t444 _ ?side1 ?side2 A59.out).mono ?_); (case side1 => repeat (first | exact (Kd.R_reads' HO443.out).2.2 | (with_reducible refine Kd.C_alloc ?_ _) | (with_reducible refine Kd.C_drewN ?_ _) | (with_reducible refine Kd.C_drew ?_))); (case side2 => exact (Kd.R_reads' HO443.out).2.1); rintro e w62 ⟨v445, rfl, ho0, hb⟩; refine ⟨_, rfl, ?_⟩; have n0_ := υp (Kd.R_below (by (with_reducible repeat (first | apply υd | apply υe | apply υf)); exact HO443.out) hb); have n1_ := υp (Kd.R_lower ho0 (below_size (by repeat (first | (with_reducible first | exact HB.out | apply υj | apply υh | apply υi | refine υg ?_ GE431.out | refine υg ?_ GE432.out) | exact HB.out)))); have n2_ := υp (blk_below (g := gb431) (o := .cells #[.int .i64 t422, .int .i64 t423, .int .i64 t424] 25 (0, 0)) (by (with_reducible repeat (first | refine υa ?_ _ | refine υc ?_ | refine υb ?_ _)); exact BK431.out) hb); have n3_ := υp (blk_below (g := gb432) (o := .cells #[.int .i64 t428, .int .i64 t429, .bool t430] 46 (0, 0)) (by (with_reducible repeat (first | refine υa ?_ _ | refine υc ?_ | refine υb ?_ _)); exact BK432.out) hb); have n4_ := υp (below_step (by repeat (first | (with_reducible first | exact HB.out | apply υj | apply υh | apply υi | refine υg ?_ GE431.out | refine υg ?_ GE432.out) | exact HB.out)) hb); clear HO443; clear BK431; clear BK432; clear HB; have HO443 := n0_; have HO446 := n1_; have BK431 := n2_; have BK432 := n3_; have HB := n4_; clear n0_ n1_ n2_ n3_ n4_; (try clear hb); (try clear hb2); (try clear hk); (try clear hi); (try clear ho0)))
     go_loopg [12] kj48 (fun kq v12 w' => ∃ (x12_3 : Int), v12 = .int .i64 x12_3 ∧ Aside0 (laws_FnOffers.l1 kq t441 t444 x12_3 = some r) ∧ Aside0 (kq ≤ kj48) ∧ Aside0 (Kd.R k46 46 w' w.heap.size (fun k_ => k_ ≠ gb432) (.slice Ao61 t441.length co61) t441) ∧ Aside0 (Kd.R (Kd.int .i64) 3 w' w.heap.size (fun _ => True) v445 t444) ∧ Aside0 (w'.heap[gb431]? = some (.cells #[.int .i64 t422, .int .i64 t423, .int .i64 t424] 25 (0, 0))) ∧ Aside0 (w'.heap[gb432]? = some (.cells #[.int .i64 t428, .int .i64 t429, .bool t430] 46 (0, 0))) ∧ Aside0 (Below w.heap.size w w'))
     case atStart => exact ⟨(0), (by first | rfl | (simp; done) | (simp [*]; done)), H', ⟨Nat.le_refl _⟩, ⟨by (with_reducible repeat (first | apply υd | apply υe | apply υf)); exact Kd.R_mono HO443.out (fun _ hk => hk.2)⟩, ⟨by (with_reducible repeat (first | apply υd | apply υe | apply υf)); exact HO446.out⟩, ⟨by (with_reducible repeat (first | refine υa ?_ _ | refine υc ?_ | refine υb ?_ _)); exact BK431.out⟩, ⟨by (with_reducible repeat (first | refine υa ?_ _ | refine υc ?_ | refine υb ?_ _)); exact BK432.out⟩, ⟨by repeat (first | (with_reducible first | exact HB.out | apply υj | apply υh | apply υi | refine υg ?_ GE431.out | refine υg ?_ GE432.out) | exact HB.out)⟩⟩
     case round =>
      clear H'
      try clear c1
      try clear c2
      try clear p2
      try clear c3
      try clear c4
      try clear c5
      try clear p6
      try clear c8
      try clear c10
      try clear c15
      try clear c17
      try clear c19
      try clear c20
      try clear c20b0
      try clear c20b1
      try clear c21
      try clear c24
      try clear c28
      try clear c30
      try clear c33
      try clear c35
      try clear c36
      try clear c37
      try clear c42
      try clear c47
      try clear c50
      try clear c53
      try clear c54
      try clear c54b0
      try clear c57
      try clear c57b0
      try clear hcz11_0
      try clear hcz11_1
      try clear hcz11_2
      try clear hcz12_0
      try clear hcz12_1
      try clear hcz12_2
      try clear hcz22_0
      try clear hcz22_1
      try clear hcz22_2
      try clear hcz25_0
      try clear hcz25_1
      try clear hcz25_2
      try clear hcz26_0
      try clear hcz26_1
      try clear hcz26_2
      try clear hcz29_0
      try clear hcz29_1
      try clear hcz29_2
      try clear hcz32_0
      try clear hcz32_1
      try clear hcz32_2
      try clear hcz33_0
      try clear hcz33_1
      try clear hcz33_2
      try clear hcz36_0
      try clear hcz36_1
      try clear hcz36_2
      try clear hcz39_0
      try clear hcz39_1
      try clear hcz39_2
      try clear hcz40_0
      try clear hcz40_1
      try clear hcz40_2
      try clear hcz43_0
      try clear hcz43_1
      try clear hcz43_2
      try clear hcz51_0
      try clear hcz51_1
      try clear hcz51_2
      try clear hfz11_0
      try clear hfz11_1
      try clear hfz11_2
      try clear hfz12_0
      try clear hfz12_1
      try clear hfz12_2
      try clear hfz22_0
      try clear hfz22_1
      try clear hfz22_2
      try clear hfz25_0
      try clear hfz25_1
      try clear hfz25_2
      try clear hfz26_0
      try clear hfz26_1
      try clear hfz26_2
      try clear hfz29_0
      try clear hfz29_1
      try clear hfz29_2
      try clear hfz32_0
      try clear hfz32_1
      try clear hfz32_2
      try clear hfz33_0
      try clear hfz33_1
      try clear hfz33_2
      try clear hfz36_0
      try clear hfz36_1
      try clear hfz36_2
      try clear hfz39_0
      try clear hfz39_1
      try clear hfz39_2
      try clear hfz40_0
      try clear hfz40_1
      try clear hfz40_2
      try clear hfz43_0
      try clear hfz43_1
      try clear hfz43_2
      try clear hfz51_0
      try clear hfz51_1
      try clear hfz51_2
      try clear p2
      try clear p6
      obtain ⟨x12_3, rfl, HA, HK3, HO_10, HO_11, BK431, BK432, HB⟩ := hrel
      cases gk with
      | zero => exact absurd HA.out (by simp [laws_FnOffers.l1])
      | succ k3 =>
       have H := HA.out
       clear HA
       simp only [laws_FnOffers.l1] at H
       by_cases c63 : x12_3 < (t441.length : Int)
       ·
        rw [if_pos c63] at H
        have c63b0 : decide (x12_3 < (t441.length : Int)) = true := decide_eq_true c63
        clear c63
        by_cases c64 : 0 ≤ x12_3
        ·
         rw [if_pos c64] at H
         have c64b0 : decide (0 ≤ x12_3) = true := decide_eq_true c64
         clear c64
         replace H := Option.bind_eq_some_iff.mp H
         obtain ⟨t449, A650, H⟩ := H
         try dsimp only at H
         have A65 := υp A650
         clear A650
         replace H := Option.bind_eq_some_iff.mp H
         obtain ⟨t451, A660, H⟩ := H
         try dsimp only at H
         have A66 := υp A660
         clear A660
         by_cases c67 : (t449 != (t451 == 0)) = true
         ·
          rw [if_pos c67] at H
          have c67b0 : (t449 != (t451 == 0)) = true := c67
          (try (have c67b1 : decide (t449 = (t451 == 0)) = false := by simpa using c67))
          (try (have c67b2 : (t449 == (t451 == 0)) = false := by simpa using c67))
          (try (have c67b3 : ¬ (t449 = (t451 == 0)) := by simpa using c67))
          clear c67
          exact absurd ((Option.some.inj H).trans hr_) (by decide)
         rw [if_neg c67] at H
         have c67b0 : (t449 != (t451 == 0)) = false := by simpa using c67
         (try (have c67b1 : decide (t449 = (t451 == 0)) = true := by simpa using c67))
         (try (have c67b2 : (t449 == (t451 == 0)) = true := by simpa using c67))
         clear c67
         have H' := υp H
         clear H
         try go_wp2
         have n0_ := υp (υf HO_10.out)
         have n1_ := υp (υf HO_11.out)
         have n2_ := υp (υc BK431.out)
         have n3_ := υp (υc BK432.out)
         have n4_ := υp (υi HB.out)
         clear HO_10
         clear HO_11
         clear BK431
         clear BK432
         clear HB
         have HO_10 := n0_
         have HO_11 := n1_
         have BK431 := n2_
         have BK432 := n3_
         have HB := n4_
         clear n0_ n1_ n2_ n3_ n4_
         have p448 : 0 ≤ (x12_3 : Int) := of_decide_eq_true (by first | (with_reducible assumption) | assumption)
         have q448 : x12_3 < (t441.length : Int) := of_decide_eq_true (by first | (with_reducible assumption) | assumption)
         obtain ⟨ad448, e448, hx448_0, hx448_1, hx448_2⟩ := at_T46 (Kd.R_reads' HO_10.out).2.2 x12_3 p448 q448
         cases e448
         replace p448 := eq_true p448
         replace q448 := eq_true q448
         have p450 : 0 ≤ (x12_3 : Int) := of_decide_eq_true (by first | (with_reducible assumption) | assumption)
         have q450 : x12_3 < (t441.length : Int) := of_decide_eq_true (by first | (with_reducible assumption) | assumption)
         obtain ⟨ad450, e450, hx450_0, hx450_1, hx450_2⟩ := at_T46 (Kd.R_reads' HO_10.out).2.2 x12_3 p450 q450
         obtain rfl : ad448 = ad450 := (by injection e450)
         replace p450 := eq_true p450
         replace q450 := eq_true q450
         obtain ⟨Ao72, co72, eo72⟩ := Kd.R_slice HO_11.out
         (first | subst eo72 | (injection eo72 with f1_ f2_ f3_; have f4_ := f1_.symm; have f5_ := f3_.symm; clear f1_ f2_ f3_; subst f4_; subst f5_))
         refine start_ (n := 16) (S := fun w' => w'.cell? (ad448.add ((x12_3).toNat * 3)) = some (.int .i64 ((rd_T46 t441 x12_3).f0)) ∧ w'.cell? ⟨(ad448.add ((x12_3).toNat * 3)).block, (ad448.add ((x12_3).toNat * 3)).off + 1, none⟩ = some (.int .i64 ((rd_T46 t441 x12_3).f1)) ∧ w'.cell? ⟨(ad448.add ((x12_3).toNat * 3)).block, (ad448.add ((x12_3).toNat * 3)).off + 2, none⟩ = some (.bool ((rd_T46 t441 x12_3).f2)) ∧ w'.cell? (ad448.add ((x12_3).toNat * 3)) = some (.int .i64 ((rd_T46 t441 x12_3).f0)) ∧ w'.cell? ⟨(ad448.add ((x12_3).toNat * 3)).block, (ad448.add ((x12_3).toNat * 3)).off + 1, none⟩ = some (.int .i64 ((rd_T46 t441 x12_3).f1)) ∧ w'.cell? ⟨(ad448.add ((x12_3).toNat * 3)).block, (ad448.add ((x12_3).toNat * 3)).off + 2, none⟩ = some (.bool ((rd_T46 t441 x12_3).f2))) (ds := []) υ0 (by kernel_rfl) rfl rfl ⟨hx448_0, hx448_1, hx448_2, hx450_0, hx450_1, hx450_2⟩ (fun hHeld => ?_); refine with_tabW laws_FnOffers.tab20 laws_FnOffers.bits20 (fun HT_ HW_ => ?_)
         generalize wr.drew = w71 at HO_10 HO_11 BK431 BK432 HB hx448_0 hx448_1 hx448_2 hx450_0 hx450_1 hx450_2 hHeld ⊢
         refine pure_ (i := 0) (N := some 85) (v := ?_) (a' := ?_) υ1 rfl rfl (any_of HT_.out (by kernel_rfl)) (fun _ _ _ h => h) (Or.inl ⟨by rfl, ?_⟩) ?_ ?_
         rotate_left; · (intro w'; go_simp; with_reducible rfl)
         rotate_left; · (simp only [Act.put, υm, υn, υo, i64_w, i32_w]; rfl)
         refine pure_ (i := 1) (N := some 86) (v := ?_) (a' := ?_) υ2 rfl rfl (any_of HT_.out (by kernel_rfl)) (fun _ _ _ h => h) (Or.inl ⟨by rfl, ?_⟩) ?_ ?_
         rotate_left; · (intro w'; go_simp; with_reducible rfl)
         rotate_left; · (simp only [Act.put, υm, υn, υo, i64_w, i32_w]; rfl)
         refine pure_ (i := 2) (N := some 87) (v := ?_) (a' := ?_) υ3 rfl rfl (any_of HT_.out (by kernel_rfl)) (fun _ _ _ h => h) (Or.inl ⟨by rfl, ?_⟩) ?_ ?_
         rotate_left; · (intro w'; go_simp; with_reducible rfl)
         rotate_left; · (simp only [Act.put, υm, υn, υo, i64_w, i32_w]; rfl)
         refine pure_ (i := 3) (N := some 88) (v := ?_) (a' := ?_) υ4 rfl rfl (any_of HT_.out (by kernel_rfl)) (fun _ _ _ h => h) (Or.inl ⟨by rfl, ?_⟩) ?_ ?_
         rotate_left; · (intro w'; go_simp; with_reducible rfl)
         rotate_left; · (simp only [Act.put, υm, υn, υo, i64_w, i32_w]; rfl)
         refine pure_ (i := 4) (N := some 89) (v := ?_) (a' := ?_) υ5 rfl rfl (any_of HT_.out (by kernel_rfl)) (fun _ _ _ h => h) (Or.inl ⟨by rfl, ?_⟩) ?_ ?_
         rotate_left; · (intro w'; go_simp; with_reducible rfl)
         rotate_left; · (simp only [Act.put, υm, υn, υo, i64_w, i32_w]; rfl)
         refine pure_ (i := 7) (N := some 92) (v := ?_) (a' := ?_) υ6 rfl rfl (any_of HT_.out (by kernel_rfl)) (fun _ _ _ h => h) (Or.inl ⟨by rfl, ?_⟩) ?_ ?_
         rotate_left; · (intro w'; go_simp; with_reducible rfl)
         rotate_left; · (simp only [Act.put, υm, υn, υo, i64_w, i32_w]; rfl)
         refine pure_ (i := 8) (N := some 93) (v := ?_) (a' := ?_) υ7 rfl rfl (any_of HT_.out (by kernel_rfl)) (fun _ _ _ h => h) (Or.inl ⟨by rfl, ?_⟩) ?_ ?_
         rotate_left; · (intro w'; go_simp; with_reducible rfl)
         rotate_left; · (simp only [Act.put, υm, υn, υo, i64_w, i32_w]; rfl)
         refine pure_ (i := 9) (N := some 94) (v := ?_) (a' := ?_) υ8 rfl rfl (any_of HT_.out (by kernel_rfl)) (fun _ _ _ h => h) (Or.inl ⟨by rfl, ?_⟩) ?_ ?_
         rotate_left; · (intro w'; go_simp; with_reducible rfl)
         rotate_left; · (simp only [Act.put, υm, υn, υo, i64_w, i32_w]; rfl)
         refine pure_ (i := 10) (N := some 95) (v := ?_) (a' := ?_) υ9 rfl rfl (any_of HT_.out (by kernel_rfl)) (fun _ _ _ h => h) (Or.inl ⟨by rfl, ?_⟩) ?_ ?_
         rotate_left; · (intro w'; go_simp; with_reducible rfl)
         rotate_left; · (simp only [Act.put, υm, υn, υo, i64_w, i32_w]; rfl)
         refine pure_ (i := 11) (N := some 96) (v := ?_) (a' := ?_) υ10 rfl rfl (any_of HT_.out (by kernel_rfl)) (fun _ _ _ h => h) (Or.inl ⟨by rfl, ?_⟩) ?_ ?_
         rotate_left; · (intro w'; go_simp; with_reducible rfl)
         rotate_left; · (simp only [Act.put, υm, υn, υo, i64_w, i32_w]; rfl)
         refine take_ (i := 5) (N := some 90) (v := ?_) (a' := ?_) υ11 rfl rfl (take_ofW HT_.out HW_.out (by kernel_rfl)) (fun _ _ _ h => h) (Or.inl ⟨by rfl, ?_⟩) hHeld ?_ ?_
         rotate_left
         ·
          rintro w' ⟨s0, s1, s2, s3, s4, s5⟩
          go_simp
          with_reducible rfl
         rotate_left
         ·
          simp only [Act.put, υm, υn, υo, i64_w, i32_w]
          rfl
         refine take_ (i := 12) (N := some 97) (v := ?_) (a' := ?_) υ12 rfl rfl (take_ofW HT_.out HW_.out (by kernel_rfl)) (fun _ _ _ h => h) (Or.inl ⟨by rfl, ?_⟩) hHeld ?_ ?_
         rotate_left
         ·
          rintro w' ⟨s0, s1, s2, s3, s4, s5⟩
          go_simp
          with_reducible rfl
         rotate_left
         ·
          simp only [Act.put, υm, υn, υo, i64_w, i32_w]
          rfl
         refine one_ (i := 6) (N := some 91) υ13 rfl rfl (one_of HT_.out (by kernel_rfl)) (by decide) (fun K hK => ?_)
         refine goes_ Try.func38 (by kernel_rfl) rfl #[.slice Ao72 t444.length co72, .int .i64 ((rd_T46 t441 x12_3).f1)] (by rfl) rfl rfl (by (try simp only [List.map_toArray, List.map_cons, List.map_nil]); first | done | rfl | (simp only [List.length_drop, List.length_take]; rfl)) ?_
         with_reducible refine (laws_contains.calls k3 _ _ t444 ((rd_T46 t441 x12_3).f1) t449 _ ?side1 ?side2 A65.out).mono ?_
         (case side1 => repeat (first | exact (Kd.R_reads' HO_11.out).2.2 | (with_reducible refine Kd.C_alloc ?_ _) | (with_reducible refine Kd.C_drewN ?_ _) | (with_reducible refine Kd.C_drew ?_)))
         (case side2 => exact (Kd.R_reads' HO_11.out).2.1)
         rintro e w' ⟨rfl, ⟨nd, rfl⟩⟩
         refine ⟨_, rfl, ?_⟩
         refine hK.out _ _ ⟨hHeld.1, hHeld.2.1, hHeld.2.2.1, hHeld.2.2.2.1, hHeld.2.2.2.2.1, hHeld.2.2.2.2.2⟩ (fun hHeld => ?_)
         clear hK K
         refine norm_ (a' := ?_) ?_ ?_
         rotate_left
         ·
          show Act.put _ (some 91) _ = _
          simp only [Act.put, υm, υn, υo, i64_w, i32_w]
          rfl
         refine one_ (i := 13) (N := some 98) υ14 rfl rfl (one_of HT_.out (by kernel_rfl)) (by decide) (fun K hK => ?_)
         refine goes_ Try.func21 (by kernel_rfl) rfl #[.slice (some ad448) t441.length co61, .int .i64 ((rd_T46 t441 x12_3).f1)] (by rfl) rfl rfl (by (try simp only [List.map_toArray, List.map_cons, List.map_nil]); first | done | rfl | (simp only [List.length_drop, List.length_take]; rfl)) ?_
         with_reducible refine (impl_TakenFrom.calls k3 _ _ t441 ((rd_T46 t441 x12_3).f1) t451 _ ?side1 ?side2 A66.out).mono ?_
         (case side1 => repeat (first | exact (Kd.R_reads' HO_10.out).2.2 | (with_reducible refine Kd.C_alloc ?_ _) | (with_reducible refine Kd.C_drewN ?_ _) | (with_reducible refine Kd.C_drew ?_)))
         (case side2 => exact (Kd.R_reads' HO_10.out).2.1)
         rintro e w73 ⟨rfl, hb⟩
         have HS0_ := (hb.cell (World.block_lt_of_cell? _ _ (hHeld.1))).trans (hHeld.1)
         have HS1_ := (hb.cell (World.block_lt_of_cell? _ _ (hHeld.2.1))).trans (hHeld.2.1)
         have HS2_ := (hb.cell (World.block_lt_of_cell? _ _ (hHeld.2.2.1))).trans (hHeld.2.2.1)
         have HS3_ := (hb.cell (World.block_lt_of_cell? _ _ (hHeld.2.2.2.1))).trans (hHeld.2.2.2.1)
         have HS4_ := (hb.cell (World.block_lt_of_cell? _ _ (hHeld.2.2.2.2.1))).trans (hHeld.2.2.2.2.1)
         have HS5_ := (hb.cell (World.block_lt_of_cell? _ _ (hHeld.2.2.2.2.2))).trans (hHeld.2.2.2.2.2)
         refine ⟨_, rfl, ?_⟩
         have n0_ := υp (Kd.R_below (by (with_reducible repeat (first | apply υd | apply υe | apply υf)); exact HO_10.out) hb)
         have n1_ := υp (Kd.R_below (by (with_reducible repeat (first | apply υd | apply υe | apply υf)); exact HO_11.out) hb)
         have n2_ := υp (blk_below (g := gb431) (o := .cells #[.int .i64 t422, .int .i64 t423, .int .i64 t424] 25 (0, 0)) (by (with_reducible repeat (first | refine υa ?_ _ | refine υc ?_ | refine υb ?_ _)); exact BK431.out) hb)
         have n3_ := υp (blk_below (g := gb432) (o := .cells #[.int .i64 t428, .int .i64 t429, .bool t430] 46 (0, 0)) (by (with_reducible repeat (first | refine υa ?_ _ | refine υc ?_ | refine υb ?_ _)); exact BK432.out) hb)
         have n4_ := υp (below_step (by repeat (first | (with_reducible first | exact HB.out | apply υj | apply υh | apply υi | refine υg ?_ GE431.out | refine υg ?_ GE432.out) | exact HB.out)) hb)
         clear HO_10
         clear HO_11
         clear BK431
         clear BK432
         clear HB
         have HO_10 := n0_
         have HO_11 := n1_
         have BK431 := n2_
         have BK432 := n3_
         have HB := n4_
         clear n0_ n1_ n2_ n3_ n4_
         (try clear hb)
         (try clear hb2)
         (try clear hk)
         (try clear hi)
         refine hK.out _ _ ⟨HS0_, HS1_, HS2_, HS3_, HS4_, HS5_⟩ (fun hHeld => ?_)
         clear hK K
         refine norm_ (a' := ?_) ?_ ?_
         rotate_left
         ·
          show Act.put _ (some 98) _ = _
          simp only [Act.put, υm, υn, υo, i64_w, i32_w]
          rfl
         refine pure_ (i := 14) (N := some 99) (v := ?_) (a' := ?_) υ15 rfl rfl (any_of HT_.out (by kernel_rfl)) (fun _ _ _ h => h) (Or.inl ⟨by rfl, ?_⟩) ?_ ?_
         rotate_left; · (intro w'; go_simp; with_reducible rfl)
         rotate_left; · (simp only [Act.put, υm, υn, υo, i64_w, i32_w]; rfl)
         refine pure_ (i := 15) (N := some 100) (v := ?_) (a' := ?_) υ16 rfl rfl (any_of HT_.out (by kernel_rfl)) (fun _ _ _ h => h) (Or.inl ⟨by rfl, ?_⟩) ?_ ?_
         rotate_left; · (intro w'; go_simp; with_reducible rfl)
         rotate_left; · (simp only [Act.put, υm, υn, υo, i64_w, i32_w]; rfl)
         refine done_ (done_of HT_.out (by kernel_rfl)) ?_
         try go_wp2
         go_roundg k3
         case measure => have := HJ5.out; have := HJ48.out; have := HK3.out; omega
         case rel => exact ⟨(wrap64 (x12_3 + 1)), (by first | rfl | (simp; done) | (simp [*]; done)), H', ⟨by have := HJ5.out; have := HJ48.out; have := HK3.out; omega⟩, ⟨by (with_reducible repeat (first | apply υd | apply υe | apply υf)); exact HO_10.out⟩, ⟨by (with_reducible repeat (first | apply υd | apply υe | apply υf)); exact HO_11.out⟩, ⟨by (with_reducible repeat (first | refine υa ?_ _ | refine υc ?_ | refine υb ?_ _)); exact BK431.out⟩, ⟨by (with_reducible repeat (first | refine υa ?_ _ | refine υc ?_ | refine υb ?_ _)); exact BK432.out⟩, ⟨by repeat (first | (with_reducible first | exact HB.out | apply υj | apply υh | apply υi | refine υg ?_ GE431.out | refine υg ?_ GE432.out) | exact HB.out)⟩⟩
        rw [if_neg c64] at H
        exact absurd H (by simp)
       rw [if_neg c63] at H
       have c63b0 : decide (x12_3 < (t441.length : Int)) = false := decide_eq_false c63
       clear c63
       replace H := Option.bind_eq_some_iff.mp H
       obtain ⟨t447, A740, H⟩ := H
       try dsimp only at H
       have A74 := υp A740
       clear A740
       obtain rfl := Option.some.inj H
       obtain ⟨Ao75, co75, eo75⟩ := Kd.R_slice HO_11.out
       subst eo75
       go_wp2_with (first | ((with_reducible refine gate_callee (f := 39) rfl ?_); refine goesL_ (some 102) rfl rfl Try.func39 (by kernel_rfl) rfl #[.slice Ao75 t444.length co75] rfl (by (try simp only [List.map_toArray, List.map_cons, List.map_nil]); first | done | rfl | (simp only [List.length_drop, List.length_take]; rfl)) ?_; (with_reducible refine (laws_ascends.calls k3 _ _ t444 t447 _ ?side1 ?side2 A74.out).mono ?_); (case side1 => repeat (first | exact (Kd.R_reads' HO_11.out).2.2 | (with_reducible refine Kd.C_alloc ?_ _) | (with_reducible refine Kd.C_drewN ?_ _) | (with_reducible refine Kd.C_drew ?_))); (case side2 => exact (Kd.R_reads' HO_11.out).2.1); rintro e w' ⟨rfl, ⟨nd, rfl⟩⟩; refine ⟨_, rfl, ?_⟩))
       go_ret
       exact ⟨by first | rfl | (simp [errW_none, errW_some] <;> rfl) | (simp [*, errW_none, errW_some] <;> rfl), by repeat (first | (with_reducible first | exact HB.out | apply υj | apply υh | apply υi | refine υg ?_ GE431.out | refine υg ?_ GE432.out) | exact HB.out)⟩

/-- THE ONE PURE STATEMENT of laws_FnOffers: yours. -/
def laws_FnOffers.Pure : Prop := ∀ (l0 : List Int), l0.length ≤ maxLen → l0.length * 1 ≤ 140737488351232 → (∀ x ∈ l0, (Lit.int .u8 x).wf = true) → ∃ k, laws_FnOffers.f k l0 = some true
theorem laws_FnOffers.walk (P : laws_FnOffers.Pure) (a0 : Option Addr) (len0 cap0 : Nat) (z0 : List Int) (w : World) (w0 : (a0 = none ∧ len0 = 0 ∧ cap0 = 0 ∧ z0 = []) ∨ ∃ x, a0 = some x ∧ len0 ≤ cap0 ∧ cap0 ≤ maxLen ∧ z0.length = cap0 ∧ (∀ i, i < z0.length → w.cell? (x.add i) = some (.int .u8 (z0.getD i 0))) ∧ ∀ n ∈ z0, (Lit.int .u8 n).wf = true) (y0 : len0 * 1 ≤ 140737488351232) :
  Calls Try.prog 8 #[.slice a0 len0 cap0] w fun e w' => e = .returned (.bool true) ∧ Below w.heap.size w w' := by
 obtain ⟨l0, rfl, hr0, hm0, hw0, hc0⟩ := ReadsInt.ofRowC w0
 obtain ⟨k, h⟩ := P l0 hm0 y0 hw0
 refine (laws_FnOffers.calls k _ _ l0 true w (Kd.C_of_reads (d := (0 : Int)) (h1 := fun _ => rfl) hr0) hc0 rfl h).mono ?_
 rintro e w' ⟨rfl, hd⟩
 exact ⟨rfl, hd⟩

end Go.Proofs.Ytimikonnmcgljaa.QFnOffers
